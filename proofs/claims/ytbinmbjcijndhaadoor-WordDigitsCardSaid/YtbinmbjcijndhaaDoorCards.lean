/-
  DERIVED. GIVEN WITH THE SEED: THE CARDS: each row of YtbinmbjcijndhaaDoorRows.lean that lists a variable, with what it lists TIED to the program's text (the seventh form; the later family's looks); each row that meets fmt, with fmt's text TOLD by the authors' own Lean function (tested against real Go, not proved from fmt's source: count such statements apart). THE CARD IS WHAT COUNTS. Prove the row's statement (the work); the ties are given (YtbinmbjcijndhaaDoorTie.lean); close each card by the builder's one call (the guide's Derived/Test/ToyasCard.lean, 'card_holds'). Laid BY PROGRAM, IN A SANDBOX (cutbox-door.mjs). By AI agents, Wed Nov 11 2026. No macro, syntax, notation, axiom, sorry.
-/
import Derived.Test.YtbinmbjcijndhaaDoorRows
import GoSem.ClaimSeven
namespace Go.Proofs.YtbinmbjcijndhaaDoor
namespace Rows

/-- THE TIED CARD OF 'suretylaw01.WordNums'. -/
def wordNumsCard : Claim7 := { stood := { row := wordNumsRow, standIns := [], harness := (true, "acda3998b4724d49d52991150a89f92de105271da69d299f8908121054576efe"), looks := false }, kinds := [], alts := [], laidByText := true, laidKinds := [.data, .data, .data], laidTests := true, laidLooks := .later }
def WordNumsCardSaid : Prop := Claim7.holds Tryd.pinned (.plain (OpenSpec.ofChange wordNumsSpec)) wordNumsCard

/-- THE TIED CARD OF 'suretylaw01.WordNames'. -/
def wordNamesCard : Claim7 := { stood := { row := wordNamesRow, standIns := [], harness := (true, "acda3998b4724d49d52991150a89f92de105271da69d299f8908121054576efe"), looks := false }, kinds := [], alts := [], laidByText := true, laidKinds := [.data, .data, .data], laidTests := true, laidLooks := .later }
def WordNamesCardSaid : Prop := Claim7.holds Tryd.pinned (.plain (OpenSpec.ofChange wordNamesSpec)) wordNamesCard

/-- THE TIED CARD OF 'suretylaw01.WordDigits'. -/
def wordDigitsCard : Claim7 := { stood := { row := wordDigitsRow, standIns := [], harness := (true, "acda3998b4724d49d52991150a89f92de105271da69d299f8908121054576efe"), looks := false }, kinds := [], alts := [], laidByText := true, laidKinds := [.data, .data, .data], laidTests := true, laidLooks := .later }
def WordDigitsCardSaid : Prop := Claim7.holds Tryd.pinned (.plain (OpenSpec.ofChange wordDigitsSpec)) wordDigitsCard

/-- THE TIED CARD OF 'suretylaw01.WordExact'. -/
def wordExactCard : Claim7 := { stood := { row := wordExactRow, standIns := [], harness := (true, "acda3998b4724d49d52991150a89f92de105271da69d299f8908121054576efe"), looks := false }, kinds := [], alts := [], laidByText := true, laidKinds := [.data, .data, .data], laidTests := true, laidLooks := .later }
def WordExactCardSaid : Prop := Claim7.holds Tryd.pinned (.plain (OpenSpec.ofChange wordExactSpec)) wordExactCard

/-- THE TIED CARD OF 'suretylaw01.WordTexts'. -/
def wordTextsCard : Claim7 := { stood := { row := wordTextsRow, standIns := [], harness := (true, "acda3998b4724d49d52991150a89f92de105271da69d299f8908121054576efe"), looks := false }, kinds := [], alts := [], laidByText := true, laidKinds := [.data, .data, .data], laidTests := true, laidLooks := .later }
def WordTextsCardSaid : Prop := Claim7.holds Tryd.pinned (.plain (OpenSpec.ofChange wordTextsSpec)) wordTextsCard

/-- THE TIED CARD OF 'suretylaw01.WordCut'. -/
def wordCutCard : Claim7 := { stood := { row := wordCutRow, standIns := [], harness := (true, "acda3998b4724d49d52991150a89f92de105271da69d299f8908121054576efe"), looks := false }, kinds := [], alts := [], laidByText := true, laidKinds := [.data, .data, .data], laidTests := true, laidLooks := .later }
def WordCutCardSaid : Prop := Claim7.holds Tryd.pinned (.plain (OpenSpec.ofChange wordCutSpec)) wordCutCard

/-- THE SECOND FORM's CARD OF 'suretylaw01.WordNums'. -/
def wordNumsUptoCard : Claim7 := { stood := { row := wordNumsUptoRow, standIns := [], harness := (true, "acda3998b4724d49d52991150a89f92de105271da69d299f8908121054576efe"), looks := false }, kinds := [], alts := [], laidByText := true, laidKinds := [.data, .data, .data], laidTests := true, laidLooks := .later }
def WordNumsUptoCardSaid : Prop := Claim7.holds Tryd.pinned (.plain (OpenSpec.upto wordNumsSpec)) wordNumsUptoCard

/-- THE SECOND FORM's CARD OF 'suretylaw01.WordNames'. -/
def wordNamesUptoCard : Claim7 := { stood := { row := wordNamesUptoRow, standIns := [], harness := (true, "acda3998b4724d49d52991150a89f92de105271da69d299f8908121054576efe"), looks := false }, kinds := [], alts := [], laidByText := true, laidKinds := [.data, .data, .data], laidTests := true, laidLooks := .later }
def WordNamesUptoCardSaid : Prop := Claim7.holds Tryd.pinned (.plain (OpenSpec.upto wordNamesSpec)) wordNamesUptoCard

/-- THE SECOND FORM's CARD OF 'suretylaw01.WordDigits'. -/
def wordDigitsUptoCard : Claim7 := { stood := { row := wordDigitsUptoRow, standIns := [], harness := (true, "acda3998b4724d49d52991150a89f92de105271da69d299f8908121054576efe"), looks := false }, kinds := [], alts := [], laidByText := true, laidKinds := [.data, .data, .data], laidTests := true, laidLooks := .later }
def WordDigitsUptoCardSaid : Prop := Claim7.holds Tryd.pinned (.plain (OpenSpec.upto wordDigitsSpec)) wordDigitsUptoCard

/-- THE SECOND FORM's CARD OF 'suretylaw01.WordExact'. -/
def wordExactUptoCard : Claim7 := { stood := { row := wordExactUptoRow, standIns := [], harness := (true, "acda3998b4724d49d52991150a89f92de105271da69d299f8908121054576efe"), looks := false }, kinds := [], alts := [], laidByText := true, laidKinds := [.data, .data, .data], laidTests := true, laidLooks := .later }
def WordExactUptoCardSaid : Prop := Claim7.holds Tryd.pinned (.plain (OpenSpec.upto wordExactSpec)) wordExactUptoCard

/-- THE SECOND FORM's CARD OF 'suretylaw01.WordTexts'. -/
def wordTextsUptoCard : Claim7 := { stood := { row := wordTextsUptoRow, standIns := [], harness := (true, "acda3998b4724d49d52991150a89f92de105271da69d299f8908121054576efe"), looks := false }, kinds := [], alts := [], laidByText := true, laidKinds := [.data, .data, .data], laidTests := true, laidLooks := .later }
def WordTextsUptoCardSaid : Prop := Claim7.holds Tryd.pinned (.plain (OpenSpec.upto wordTextsSpec)) wordTextsUptoCard

/-- THE SECOND FORM's CARD OF 'suretylaw01.WordCut'. -/
def wordCutUptoCard : Claim7 := { stood := { row := wordCutUptoRow, standIns := [], harness := (true, "acda3998b4724d49d52991150a89f92de105271da69d299f8908121054576efe"), looks := false }, kinds := [], alts := [], laidByText := true, laidKinds := [.data, .data, .data], laidTests := true, laidLooks := .later }
def WordCutUptoCardSaid : Prop := Claim7.holds Tryd.pinned (.plain (OpenSpec.upto wordCutSpec)) wordCutUptoCard
end Rows
end Go.Proofs.YtbinmbjcijndhaaDoor
