/-
  No cell of these rows narrows 'for every input' (looked for: loops, veiled, ifaces, maps, wideKeys, modest, calm, conditions, laid).
  DERIVED. THE GIVEN ROWS OF THIS SEAT. 5 by the template 'for every input the law returns true; each argument reads behind the call as it read before'; 0 by the template 'total and deterministic' (their statements: YtbinmbjcijndhaaTotals.lean).
  GIVEN WITH THE SEED: the statements are not yours to turn. If you find one false, say at which input.
  Laid BY PROGRAM, IN A SANDBOX (cutbox-rows.mjs): the forced cells as the released guide's own fill.sh prints them over the translation 633a528c1886796f… (all of the seat's roots in one cut). By AI agents, Wed Nov 11 2026. No macro, syntax, notation, axiom, sorry.
-/
import Derived.Test.YtbinmbjcijndhaaChecked
import GoSem.Claim
import GoSem.ClaimJoined
import GoSem.ClaimMapViews
import Derived.JoinedTies
import Derived.KernelRfl
namespace Go.Proofs.Ytbinmbjcijndhaa
/- THE CELL 'sum', in the pinned program and in every row, IS THE sha256 OF THE DUMP (.gsa) THAT YtbinmbjcijndhaaProg.lean LOADS. Nothing in Lean hashes anything: it is a label: what it is worth is what the hold of that sum in a sandbox is worth. -/
noncomputable def Try.pinned : Pinned := { name := "ytbinmbjcijndhaa", sum := "633a528c1886796fbaf83f01dfb77695887ab12bbac82d1f454b4257e25847f6", checked := Try.checked }
namespace Rows
def none {H : Type} : Left H := { results := [], args := [] }

/-- 'suretylaw02.LexExact': WHATEVER THE INPUT: true; the input reads as it did. -/
def lexExactSpec : ChangeSpec := { name := "lexExact", fn := fun _ => fun
  | [d] => { results := [.lit (.bool true)], args := [d] }
  | _ => none }
def lexExactRow : OpenClaim := { program := "ytbinmbjcijndhaa", sum := "633a528c1886796fbaf83f01dfb77695887ab12bbac82d1f454b4257e25847f6", func := "surety/suretylaw02.LexExact", spec := "lexExact", apart := false }
def LexExactSaid : Prop := lexExactRow.holds Try.pinned (OpenSpec.ofChange lexExactSpec)

/-- ITS FALSE NEIGHBOUR: 'it returns false'. Refute it at one input. -/
def lexExactWrong : ChangeSpec := { name := "lexExact", fn := fun _ => fun
  | [d] => { results := [.lit (.bool false)], args := [d] }
  | _ => none }
def LexExactWrongFalsely : Prop := lexExactRow.holds Try.pinned (OpenSpec.ofChange lexExactWrong)

/-- 'suretylaw02.LexBlanks': WHATEVER THE INPUT: true; the input reads as it did. -/
def lexBlanksSpec : ChangeSpec := { name := "lexBlanks", fn := fun _ => fun
  | [d1, d2] => { results := [.lit (.bool true)], args := [d1, d2] }
  | _ => none }
def lexBlanksRow : OpenClaim := { program := "ytbinmbjcijndhaa", sum := "633a528c1886796fbaf83f01dfb77695887ab12bbac82d1f454b4257e25847f6", func := "surety/suretylaw02.LexBlanks", spec := "lexBlanks", apart := false }
def LexBlanksSaid : Prop := lexBlanksRow.holds Try.pinned (OpenSpec.ofChange lexBlanksSpec)

/-- ITS FALSE NEIGHBOUR: 'it returns false'. Refute it at one input. -/
def lexBlanksWrong : ChangeSpec := { name := "lexBlanks", fn := fun _ => fun
  | [d1, d2] => { results := [.lit (.bool false)], args := [d1, d2] }
  | _ => none }
def LexBlanksWrongFalsely : Prop := lexBlanksRow.holds Try.pinned (OpenSpec.ofChange lexBlanksWrong)

/-- 'suretylaw02.LexSpans': WHATEVER THE INPUT: true; the input reads as it did. -/
def lexSpansSpec : ChangeSpec := { name := "lexSpans", fn := fun _ => fun
  | [d] => { results := [.lit (.bool true)], args := [d] }
  | _ => none }
def lexSpansRow : OpenClaim := { program := "ytbinmbjcijndhaa", sum := "633a528c1886796fbaf83f01dfb77695887ab12bbac82d1f454b4257e25847f6", func := "surety/suretylaw02.LexSpans", spec := "lexSpans", apart := false }
def LexSpansSaid : Prop := lexSpansRow.holds Try.pinned (OpenSpec.ofChange lexSpansSpec)

/-- ITS FALSE NEIGHBOUR: 'it returns false'. Refute it at one input. -/
def lexSpansWrong : ChangeSpec := { name := "lexSpans", fn := fun _ => fun
  | [d] => { results := [.lit (.bool false)], args := [d] }
  | _ => none }
def LexSpansWrongFalsely : Prop := lexSpansRow.holds Try.pinned (OpenSpec.ofChange lexSpansWrong)

/-- 'suretylaw02.LexRefused': WHATEVER THE INPUT: true; the input reads as it did. -/
def lexRefusedSpec : ChangeSpec := { name := "lexRefused", fn := fun _ => fun
  | [d1, d2] => { results := [.lit (.bool true)], args := [d1, d2] }
  | _ => none }
def lexRefusedRow : OpenClaim := { program := "ytbinmbjcijndhaa", sum := "633a528c1886796fbaf83f01dfb77695887ab12bbac82d1f454b4257e25847f6", func := "surety/suretylaw02.LexRefused", spec := "lexRefused", apart := false }
def LexRefusedSaid : Prop := lexRefusedRow.holds Try.pinned (OpenSpec.ofChange lexRefusedSpec)

/-- ITS FALSE NEIGHBOUR: 'it returns false'. Refute it at one input. -/
def lexRefusedWrong : ChangeSpec := { name := "lexRefused", fn := fun _ => fun
  | [d1, d2] => { results := [.lit (.bool false)], args := [d1, d2] }
  | _ => none }
def LexRefusedWrongFalsely : Prop := lexRefusedRow.holds Try.pinned (OpenSpec.ofChange lexRefusedWrong)

/-- 'suretylaw02.LexWords': WHATEVER THE INPUT: true; the input reads as it did. -/
def lexWordsSpec : ChangeSpec := { name := "lexWords", fn := fun _ => fun
  | [d1, d2, d3] => { results := [.lit (.bool true)], args := [d1, d2, d3] }
  | _ => none }
def lexWordsRow : OpenClaim := { program := "ytbinmbjcijndhaa", sum := "633a528c1886796fbaf83f01dfb77695887ab12bbac82d1f454b4257e25847f6", func := "surety/suretylaw02.LexWords", spec := "lexWords", apart := false }
def LexWordsSaid : Prop := lexWordsRow.holds Try.pinned (OpenSpec.ofChange lexWordsSpec)

/-- ITS FALSE NEIGHBOUR: 'it returns false'. Refute it at one input. -/
def lexWordsWrong : ChangeSpec := { name := "lexWords", fn := fun _ => fun
  | [d1, d2, d3] => { results := [.lit (.bool false)], args := [d1, d2, d3] }
  | _ => none }
def LexWordsWrongFalsely : Prop := lexWordsRow.holds Try.pinned (OpenSpec.ofChange lexWordsWrong)

/- THE SECOND FORM. 'bulk': how many values and letters a reading holds, each counted each time it is reached (what is shared counts as often as it is met; a slice's spare places count too). A statement '..UptoSaid' is the law's where the arguments, and the package variables that the reading takes, are together of bulk at most 1048576: NARROWER than '..Said'. Prove '..Said' where nothing that the law and all that it calls make is longer than what came in: it says more and counts as full. Else prove '..UptoSaid'. A law counts once. -/
mutual
def uptoBulk {H : Type} : DataW H → Nat
  | .lit (.string bytes) => bytes.length + 1
  | .lit _ => 1
  | .nil => 1
  | .ptr d => uptoBulk d + 1
  | .slice elems spare => uptoBulkAll elems + uptoBulkAll spare + 1
  | .agg parts => uptoBulkAll parts + 1
  | .iface _ d => uptoBulk d + 1
  | .map entries => uptoBulkEntries entries + 1
  | .held _ => 1
def uptoBulkAll {H : Type} : List (DataW H) → Nat
  | [] => 0
  | d :: r => uptoBulk d + uptoBulkAll r
def uptoBulkEntries {H : Type} : List (Lit × DataW H) → Nat
  | [] => 0
  | x :: r => uptoBulkEntry x + uptoBulkEntries r
def uptoBulkEntry {H : Type} : Lit × DataW H → Nat
  | (.string bytes, d) => bytes.length + uptoBulk d + 1
  | (_, d) => uptoBulk d + 1
 end
def uptoSmall : (H : Type) → List (DataW H) → Bool := fun _ ds => decide (uptoBulkAll ds ≤ 1048576)
def OpenSpec.upto (s : _root_.Go.ChangeSpec) : _root_.Go.OpenSpec := { _root_.Go.OpenSpec.ofChange s with cond := some uptoSmall }

/-- 'suretylaw02.LexExact', WHERE WHAT IT READS IS OF BULK AT MOST 1048576: true; the input reads as it did. -/
def lexExactUptoRow : OpenClaim := { program := "ytbinmbjcijndhaa", sum := "633a528c1886796fbaf83f01dfb77695887ab12bbac82d1f454b4257e25847f6", func := "surety/suretylaw02.LexExact", spec := "lexExact", apart := false, narrowed := true }
def LexExactUptoSaid : Prop := lexExactUptoRow.holds Try.pinned (OpenSpec.upto lexExactSpec)

/-- 'suretylaw02.LexBlanks', WHERE WHAT IT READS IS OF BULK AT MOST 1048576: true; the input reads as it did. -/
def lexBlanksUptoRow : OpenClaim := { program := "ytbinmbjcijndhaa", sum := "633a528c1886796fbaf83f01dfb77695887ab12bbac82d1f454b4257e25847f6", func := "surety/suretylaw02.LexBlanks", spec := "lexBlanks", apart := false, narrowed := true }
def LexBlanksUptoSaid : Prop := lexBlanksUptoRow.holds Try.pinned (OpenSpec.upto lexBlanksSpec)

/-- 'suretylaw02.LexSpans', WHERE WHAT IT READS IS OF BULK AT MOST 1048576: true; the input reads as it did. -/
def lexSpansUptoRow : OpenClaim := { program := "ytbinmbjcijndhaa", sum := "633a528c1886796fbaf83f01dfb77695887ab12bbac82d1f454b4257e25847f6", func := "surety/suretylaw02.LexSpans", spec := "lexSpans", apart := false, narrowed := true }
def LexSpansUptoSaid : Prop := lexSpansUptoRow.holds Try.pinned (OpenSpec.upto lexSpansSpec)

/-- 'suretylaw02.LexRefused', WHERE WHAT IT READS IS OF BULK AT MOST 1048576: true; the input reads as it did. -/
def lexRefusedUptoRow : OpenClaim := { program := "ytbinmbjcijndhaa", sum := "633a528c1886796fbaf83f01dfb77695887ab12bbac82d1f454b4257e25847f6", func := "surety/suretylaw02.LexRefused", spec := "lexRefused", apart := false, narrowed := true }
def LexRefusedUptoSaid : Prop := lexRefusedUptoRow.holds Try.pinned (OpenSpec.upto lexRefusedSpec)

/-- 'suretylaw02.LexWords', WHERE WHAT IT READS IS OF BULK AT MOST 1048576: true; the input reads as it did. -/
def lexWordsUptoRow : OpenClaim := { program := "ytbinmbjcijndhaa", sum := "633a528c1886796fbaf83f01dfb77695887ab12bbac82d1f454b4257e25847f6", func := "surety/suretylaw02.LexWords", spec := "lexWords", apart := false, narrowed := true }
def LexWordsUptoSaid : Prop := lexWordsUptoRow.holds Try.pinned (OpenSpec.upto lexWordsSpec)

end Rows
end Go.Proofs.Ytbinmbjcijndhaa
