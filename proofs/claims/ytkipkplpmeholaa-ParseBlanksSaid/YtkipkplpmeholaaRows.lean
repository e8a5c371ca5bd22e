/-
  No cell of these rows narrows 'for every input' (looked for: loops, veiled, ifaces, maps, wideKeys, modest, calm, conditions, laid).
  DERIVED. THE GIVEN ROWS OF THIS SEAT. 5 by the template 'for every input the law returns true; each argument reads behind the call as it read before'; 0 by the template 'total and deterministic' (their statements: YtkipkplpmeholaaTotals.lean).
  GIVEN WITH THE SEED: the statements are not yours to turn. If you find one false, say at which input.
  Laid BY PROGRAM, IN A SANDBOX (cutbox-rows.mjs): the forced cells as the released guide's own fill.sh prints them over the translation 479b6c1aeb883dcf… (all of the seat's roots in one cut). By AI agents, Wed Nov 11 2026. No macro, syntax, notation, axiom, sorry.
-/
import Derived.Test.YtkipkplpmeholaaChecked
import GoSem.Claim
import GoSem.ClaimJoined
import GoSem.ClaimMapViews
import Derived.JoinedTies
import Derived.KernelRfl
namespace Go.Proofs.Ytkipkplpmeholaa
/- THE CELL 'sum', in the pinned program and in every row, IS THE sha256 OF THE DUMP (.gsa) THAT YtkipkplpmeholaaProg.lean LOADS. Nothing in Lean hashes anything: it is a label: what it is worth is what the hold of that sum in a sandbox is worth. -/
noncomputable def Try.pinned : Pinned := { name := "ytkipkplpmeholaa", sum := "479b6c1aeb883dcf48f33d86ad810c25c0dadbc3ecdf7e64eb5087f01be3eb83", checked := Try.checked }
namespace Rows
def none {H : Type} : Left H := { results := [], args := [] }

/-- 'suretylaw06.ParseFirst': WHATEVER THE INPUT: true; the input reads as it did. -/
def parseFirstSpec : ChangeSpec := { name := "parseFirst", fn := fun _ => fun
  | [d1, d2] => { results := [.lit (.bool true)], args := [d1, d2] }
  | _ => none }
def parseFirstRow : OpenClaim := { program := "ytkipkplpmeholaa", sum := "479b6c1aeb883dcf48f33d86ad810c25c0dadbc3ecdf7e64eb5087f01be3eb83", func := "surety/suretylaw06.ParseFirst", spec := "parseFirst", recurses := true, apart := false }
def ParseFirstSaid : Prop := parseFirstRow.holds Try.pinned (OpenSpec.ofChange parseFirstSpec)

/-- ITS FALSE NEIGHBOUR: 'it returns false'. Refute it at one input. -/
def parseFirstWrong : ChangeSpec := { name := "parseFirst", fn := fun _ => fun
  | [d1, d2] => { results := [.lit (.bool false)], args := [d1, d2] }
  | _ => none }
def ParseFirstWrongFalsely : Prop := parseFirstRow.holds Try.pinned (OpenSpec.ofChange parseFirstWrong)

/-- 'suretylaw06.ParseBegins': WHATEVER THE INPUT: true; the input reads as it did. -/
def parseBeginsSpec : ChangeSpec := { name := "parseBegins", fn := fun _ => fun
  | [d1, d2] => { results := [.lit (.bool true)], args := [d1, d2] }
  | _ => none }
def parseBeginsRow : OpenClaim := { program := "ytkipkplpmeholaa", sum := "479b6c1aeb883dcf48f33d86ad810c25c0dadbc3ecdf7e64eb5087f01be3eb83", func := "surety/suretylaw06.ParseBegins", spec := "parseBegins", recurses := true, apart := false }
def ParseBeginsSaid : Prop := parseBeginsRow.holds Try.pinned (OpenSpec.ofChange parseBeginsSpec)

/-- ITS FALSE NEIGHBOUR: 'it returns false'. Refute it at one input. -/
def parseBeginsWrong : ChangeSpec := { name := "parseBegins", fn := fun _ => fun
  | [d1, d2] => { results := [.lit (.bool false)], args := [d1, d2] }
  | _ => none }
def ParseBeginsWrongFalsely : Prop := parseBeginsRow.holds Try.pinned (OpenSpec.ofChange parseBeginsWrong)

/-- 'suretylaw06.ParseOps': WHATEVER THE INPUT: true; the input reads as it did. -/
def parseOpsSpec : ChangeSpec := { name := "parseOps", fn := fun _ => fun
  | [d] => { results := [.lit (.bool true)], args := [d] }
  | _ => none }
def parseOpsRow : OpenClaim := { program := "ytkipkplpmeholaa", sum := "479b6c1aeb883dcf48f33d86ad810c25c0dadbc3ecdf7e64eb5087f01be3eb83", func := "surety/suretylaw06.ParseOps", spec := "parseOps", recurses := true, apart := false }
def ParseOpsSaid : Prop := parseOpsRow.holds Try.pinned (OpenSpec.ofChange parseOpsSpec)

/-- ITS FALSE NEIGHBOUR: 'it returns false'. Refute it at one input. -/
def parseOpsWrong : ChangeSpec := { name := "parseOps", fn := fun _ => fun
  | [d] => { results := [.lit (.bool false)], args := [d] }
  | _ => none }
def ParseOpsWrongFalsely : Prop := parseOpsRow.holds Try.pinned (OpenSpec.ofChange parseOpsWrong)

/-- 'suretylaw06.ParseBlanks': WHATEVER THE INPUT: true; the input reads as it did. -/
def parseBlanksSpec : ChangeSpec := { name := "parseBlanks", fn := fun _ => fun
  | [d1, d2] => { results := [.lit (.bool true)], args := [d1, d2] }
  | _ => none }
def parseBlanksRow : OpenClaim := { program := "ytkipkplpmeholaa", sum := "479b6c1aeb883dcf48f33d86ad810c25c0dadbc3ecdf7e64eb5087f01be3eb83", func := "surety/suretylaw06.ParseBlanks", spec := "parseBlanks", unfollowed := true, recurses := true, apart := false }
def ParseBlanksSaid : Prop := parseBlanksRow.holds Try.pinned (OpenSpec.ofChange parseBlanksSpec)

/-- ITS FALSE NEIGHBOUR: 'it returns false'. Refute it at one input. -/
def parseBlanksWrong : ChangeSpec := { name := "parseBlanks", fn := fun _ => fun
  | [d1, d2] => { results := [.lit (.bool false)], args := [d1, d2] }
  | _ => none }
def ParseBlanksWrongFalsely : Prop := parseBlanksRow.holds Try.pinned (OpenSpec.ofChange parseBlanksWrong)

/-- 'suretylaw06.ParseRight': WHATEVER THE INPUT: true; the input reads as it did. -/
def parseRightSpec : ChangeSpec := { name := "parseRight", fn := fun _ => fun
  | [d] => { results := [.lit (.bool true)], args := [d] }
  | _ => none }
def parseRightRow : OpenClaim := { program := "ytkipkplpmeholaa", sum := "479b6c1aeb883dcf48f33d86ad810c25c0dadbc3ecdf7e64eb5087f01be3eb83", func := "surety/suretylaw06.ParseRight", spec := "parseRight", unfollowed := true, recurses := true, apart := false }
def ParseRightSaid : Prop := parseRightRow.holds Try.pinned (OpenSpec.ofChange parseRightSpec)

/-- ITS FALSE NEIGHBOUR: 'it returns false'. Refute it at one input. -/
def parseRightWrong : ChangeSpec := { name := "parseRight", fn := fun _ => fun
  | [d] => { results := [.lit (.bool false)], args := [d] }
  | _ => none }
def ParseRightWrongFalsely : Prop := parseRightRow.holds Try.pinned (OpenSpec.ofChange parseRightWrong)

/- THE SECOND FORM. 'bulk': how many values and letters a reading holds, each counted each time it is reached (what is shared counts as often as it is met; a slice's spare places count too). A statement '..UptoSaid' is the law's where the arguments, and the package variables that the reading takes, are together of bulk at most 1048576: NARROWER than '..Said'. Prove '..Said' where nothing that the law and all that it calls make is longer than what came in: it says more and counts as full. Else prove '..UptoSaid'. A law counts once. -/
mutual
def uptoBulk {H : Type} : DataW H → Nat
  | .lit (.string bytes) => bytes.length + 1
  | .lit _ => 1
  | .nil => 1
  | .ptr d => uptoBulk d + 1
  | .slice elems spare => uptoBulkAll elems + uptoBulkAll spare + 1
  | .agg parts => uptoBulkAll parts + 1
  | .iface _ d => uptoBulk d + 1
  | .map entries => uptoBulkEntries entries + 1
  | .held _ => 1
def uptoBulkAll {H : Type} : List (DataW H) → Nat
  | [] => 0
  | d :: r => uptoBulk d + uptoBulkAll r
def uptoBulkEntries {H : Type} : List (Lit × DataW H) → Nat
  | [] => 0
  | x :: r => uptoBulkEntry x + uptoBulkEntries r
def uptoBulkEntry {H : Type} : Lit × DataW H → Nat
  | (.string bytes, d) => bytes.length + uptoBulk d + 1
  | (_, d) => uptoBulk d + 1
 end
def uptoSmall : (H : Type) → List (DataW H) → Bool := fun _ ds => decide (uptoBulkAll ds ≤ 1048576)
def OpenSpec.upto (s : _root_.Go.ChangeSpec) : _root_.Go.OpenSpec := { _root_.Go.OpenSpec.ofChange s with cond := some uptoSmall }

/-- 'suretylaw06.ParseFirst', WHERE WHAT IT READS IS OF BULK AT MOST 1048576: true; the input reads as it did. -/
def parseFirstUptoRow : OpenClaim := { program := "ytkipkplpmeholaa", sum := "479b6c1aeb883dcf48f33d86ad810c25c0dadbc3ecdf7e64eb5087f01be3eb83", func := "surety/suretylaw06.ParseFirst", spec := "parseFirst", recurses := true, apart := false, narrowed := true }
def ParseFirstUptoSaid : Prop := parseFirstUptoRow.holds Try.pinned (OpenSpec.upto parseFirstSpec)

/-- 'suretylaw06.ParseBegins', WHERE WHAT IT READS IS OF BULK AT MOST 1048576: true; the input reads as it did. -/
def parseBeginsUptoRow : OpenClaim := { program := "ytkipkplpmeholaa", sum := "479b6c1aeb883dcf48f33d86ad810c25c0dadbc3ecdf7e64eb5087f01be3eb83", func := "surety/suretylaw06.ParseBegins", spec := "parseBegins", recurses := true, apart := false, narrowed := true }
def ParseBeginsUptoSaid : Prop := parseBeginsUptoRow.holds Try.pinned (OpenSpec.upto parseBeginsSpec)

/-- 'suretylaw06.ParseOps', WHERE WHAT IT READS IS OF BULK AT MOST 1048576: true; the input reads as it did. -/
def parseOpsUptoRow : OpenClaim := { program := "ytkipkplpmeholaa", sum := "479b6c1aeb883dcf48f33d86ad810c25c0dadbc3ecdf7e64eb5087f01be3eb83", func := "surety/suretylaw06.ParseOps", spec := "parseOps", recurses := true, apart := false, narrowed := true }
def ParseOpsUptoSaid : Prop := parseOpsUptoRow.holds Try.pinned (OpenSpec.upto parseOpsSpec)

/-- 'suretylaw06.ParseBlanks', WHERE WHAT IT READS IS OF BULK AT MOST 1048576: true; the input reads as it did. -/
def parseBlanksUptoRow : OpenClaim := { program := "ytkipkplpmeholaa", sum := "479b6c1aeb883dcf48f33d86ad810c25c0dadbc3ecdf7e64eb5087f01be3eb83", func := "surety/suretylaw06.ParseBlanks", spec := "parseBlanks", unfollowed := true, recurses := true, apart := false, narrowed := true }
def ParseBlanksUptoSaid : Prop := parseBlanksUptoRow.holds Try.pinned (OpenSpec.upto parseBlanksSpec)

/-- 'suretylaw06.ParseRight', WHERE WHAT IT READS IS OF BULK AT MOST 1048576: true; the input reads as it did. -/
def parseRightUptoRow : OpenClaim := { program := "ytkipkplpmeholaa", sum := "479b6c1aeb883dcf48f33d86ad810c25c0dadbc3ecdf7e64eb5087f01be3eb83", func := "surety/suretylaw06.ParseRight", spec := "parseRight", unfollowed := true, recurses := true, apart := false, narrowed := true }
def ParseRightUptoSaid : Prop := parseRightUptoRow.holds Try.pinned (OpenSpec.upto parseRightSpec)

end Rows
end Go.Proofs.Ytkipkplpmeholaa
