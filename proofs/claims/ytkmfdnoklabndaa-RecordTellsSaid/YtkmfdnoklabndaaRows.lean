/-
  No cell of these rows narrows 'for every input' (looked for: loops, veiled, ifaces, maps, wideKeys, modest, calm, conditions, laid).
  DERIVED. THE GIVEN ROWS OF THIS SEAT. 7 by the template 'for every input the law returns true; each argument reads behind the call as it read before'; 0 by the template 'total and deterministic' (their statements: YtkmfdnoklabndaaTotals.lean).
  GIVEN WITH THE SEED: the statements are not yours to turn. If you find one false, say at which input.
  Laid BY PROGRAM, IN A SANDBOX (cutbox-rows.mjs): the forced cells as the released guide's own fill.sh prints them over the translation 57feacc4fdfaa0bc… (all of the seat's roots in one cut). By AI agents, Wed Nov 11 2026. No macro, syntax, notation, axiom, sorry.
-/
import Derived.Test.YtkmfdnoklabndaaChecked
import GoSem.Claim
import GoSem.ClaimJoined
import GoSem.ClaimMapViews
import Derived.JoinedTies
import Derived.KernelRfl
namespace Go.Proofs.Ytkmfdnoklabndaa
/- THE CELL 'sum', in the pinned program and in every row, IS THE sha256 OF THE DUMP (.gsa) THAT YtkmfdnoklabndaaProg.lean LOADS. Nothing in Lean hashes anything: it is a label: what it is worth is what the hold of that sum in a sandbox is worth. -/
noncomputable def Try.pinned : Pinned := { name := "ytkmfdnoklabndaa", sum := "57feacc4fdfaa0bc25b28f6e608dfcfb1d2b0d9875d591c0f43d57bbc26e20fd", checked := Try.checked }
namespace Rows
def none {H : Type} : Left H := { results := [], args := [] }

/-- 'gabionlaw05.RecordSeals': WHATEVER THE INPUT: true; the input reads as it did. -/
def recordSealsSpec : ChangeSpec := { name := "recordSeals", fn := fun _ => fun
  | [d1, d2, d3] => { results := [.lit (.bool true)], args := [d1, d2, d3] }
  | _ => none }
def recordSealsRow : OpenClaim := { program := "ytkmfdnoklabndaa", sum := "57feacc4fdfaa0bc25b28f6e608dfcfb1d2b0d9875d591c0f43d57bbc26e20fd", func := "gabion/gabionlaw05.RecordSeals", spec := "recordSeals", unfollowed := true, recurses := true, apart := false }
def RecordSealsSaid : Prop := recordSealsRow.holds Try.pinned (OpenSpec.ofChange recordSealsSpec)

/-- ITS FALSE NEIGHBOUR: 'it returns false'. Refute it at one input. -/
def recordSealsWrong : ChangeSpec := { name := "recordSeals", fn := fun _ => fun
  | [d1, d2, d3] => { results := [.lit (.bool false)], args := [d1, d2, d3] }
  | _ => none }
def RecordSealsWrongFalsely : Prop := recordSealsRow.holds Try.pinned (OpenSpec.ofChange recordSealsWrong)

/-- 'gabionlaw05.RecordOpens': WHATEVER THE INPUT: true; the input reads as it did. -/
def recordOpensSpec : ChangeSpec := { name := "recordOpens", fn := fun _ => fun
  | [d] => { results := [.lit (.bool true)], args := [d] }
  | _ => none }
def recordOpensRow : OpenClaim := { program := "ytkmfdnoklabndaa", sum := "57feacc4fdfaa0bc25b28f6e608dfcfb1d2b0d9875d591c0f43d57bbc26e20fd", func := "gabion/gabionlaw05.RecordOpens", spec := "recordOpens", unfollowed := true, recurses := true, apart := false }
def RecordOpensSaid : Prop := recordOpensRow.holds Try.pinned (OpenSpec.ofChange recordOpensSpec)

/-- ITS FALSE NEIGHBOUR: 'it returns false'. Refute it at one input. -/
def recordOpensWrong : ChangeSpec := { name := "recordOpens", fn := fun _ => fun
  | [d] => { results := [.lit (.bool false)], args := [d] }
  | _ => none }
def RecordOpensWrongFalsely : Prop := recordOpensRow.holds Try.pinned (OpenSpec.ofChange recordOpensWrong)

/-- 'gabionlaw05.RecordTurns': WHATEVER THE INPUT: true; the input reads as it did. -/
def recordTurnsSpec : ChangeSpec := { name := "recordTurns", fn := fun _ => fun
  | [d] => { results := [.lit (.bool true)], args := [d] }
  | _ => none }
def recordTurnsRow : OpenClaim := { program := "ytkmfdnoklabndaa", sum := "57feacc4fdfaa0bc25b28f6e608dfcfb1d2b0d9875d591c0f43d57bbc26e20fd", func := "gabion/gabionlaw05.RecordTurns", spec := "recordTurns", unfollowed := true, recurses := true, apart := false }
def RecordTurnsSaid : Prop := recordTurnsRow.holds Try.pinned (OpenSpec.ofChange recordTurnsSpec)

/-- ITS FALSE NEIGHBOUR: 'it returns false'. Refute it at one input. -/
def recordTurnsWrong : ChangeSpec := { name := "recordTurns", fn := fun _ => fun
  | [d] => { results := [.lit (.bool false)], args := [d] }
  | _ => none }
def RecordTurnsWrongFalsely : Prop := recordTurnsRow.holds Try.pinned (OpenSpec.ofChange recordTurnsWrong)

/-- 'gabionlaw05.RecordBlanks': WHATEVER THE INPUT: true; the input reads as it did. -/
def recordBlanksSpec : ChangeSpec := { name := "recordBlanks", fn := fun _ => fun
  | [d1, d2, d3] => { results := [.lit (.bool true)], args := [d1, d2, d3] }
  | _ => none }
def recordBlanksRow : OpenClaim := { program := "ytkmfdnoklabndaa", sum := "57feacc4fdfaa0bc25b28f6e608dfcfb1d2b0d9875d591c0f43d57bbc26e20fd", func := "gabion/gabionlaw05.RecordBlanks", spec := "recordBlanks", unfollowed := true, recurses := true, apart := false }
def RecordBlanksSaid : Prop := recordBlanksRow.holds Try.pinned (OpenSpec.ofChange recordBlanksSpec)

/-- ITS FALSE NEIGHBOUR: 'it returns false'. Refute it at one input. -/
def recordBlanksWrong : ChangeSpec := { name := "recordBlanks", fn := fun _ => fun
  | [d1, d2, d3] => { results := [.lit (.bool false)], args := [d1, d2, d3] }
  | _ => none }
def RecordBlanksWrongFalsely : Prop := recordBlanksRow.holds Try.pinned (OpenSpec.ofChange recordBlanksWrong)

/-- 'gabionlaw05.RecordBytes': WHATEVER THE INPUT: true; the input reads as it did. -/
def recordBytesSpec : ChangeSpec := { name := "recordBytes", fn := fun _ => fun
  | [d] => { results := [.lit (.bool true)], args := [d] }
  | _ => none }
def recordBytesRow : OpenClaim := { program := "ytkmfdnoklabndaa", sum := "57feacc4fdfaa0bc25b28f6e608dfcfb1d2b0d9875d591c0f43d57bbc26e20fd", func := "gabion/gabionlaw05.RecordBytes", spec := "recordBytes", unfollowed := true, recurses := true, apart := false }
def RecordBytesSaid : Prop := recordBytesRow.holds Try.pinned (OpenSpec.ofChange recordBytesSpec)

/-- ITS FALSE NEIGHBOUR: 'it returns false'. Refute it at one input. -/
def recordBytesWrong : ChangeSpec := { name := "recordBytes", fn := fun _ => fun
  | [d] => { results := [.lit (.bool false)], args := [d] }
  | _ => none }
def RecordBytesWrongFalsely : Prop := recordBytesRow.holds Try.pinned (OpenSpec.ofChange recordBytesWrong)

/-- 'gabionlaw05.RecordSays': WHATEVER THE INPUT: true; the input reads as it did. -/
def recordSaysSpec : ChangeSpec := { name := "recordSays", fn := fun _ => fun
  | [d1, d2, d3] => { results := [.lit (.bool true)], args := [d1, d2, d3] }
  | _ => none }
def recordSaysRow : OpenClaim := { program := "ytkmfdnoklabndaa", sum := "57feacc4fdfaa0bc25b28f6e608dfcfb1d2b0d9875d591c0f43d57bbc26e20fd", func := "gabion/gabionlaw05.RecordSays", spec := "recordSays", unfollowed := true, recurses := true, apart := false }
def RecordSaysSaid : Prop := recordSaysRow.holds Try.pinned (OpenSpec.ofChange recordSaysSpec)

/-- ITS FALSE NEIGHBOUR: 'it returns false'. Refute it at one input. -/
def recordSaysWrong : ChangeSpec := { name := "recordSays", fn := fun _ => fun
  | [d1, d2, d3] => { results := [.lit (.bool false)], args := [d1, d2, d3] }
  | _ => none }
def RecordSaysWrongFalsely : Prop := recordSaysRow.holds Try.pinned (OpenSpec.ofChange recordSaysWrong)

/-- 'gabionlaw05.RecordTells': WHATEVER THE INPUT: true; the input reads as it did. -/
def recordTellsSpec : ChangeSpec := { name := "recordTells", fn := fun _ => fun
  | [d] => { results := [.lit (.bool true)], args := [d] }
  | _ => none }
def recordTellsRow : OpenClaim := { program := "ytkmfdnoklabndaa", sum := "57feacc4fdfaa0bc25b28f6e608dfcfb1d2b0d9875d591c0f43d57bbc26e20fd", func := "gabion/gabionlaw05.RecordTells", spec := "recordTells", unfollowed := true, recurses := true, apart := false }
def RecordTellsSaid : Prop := recordTellsRow.holds Try.pinned (OpenSpec.ofChange recordTellsSpec)

/-- ITS FALSE NEIGHBOUR: 'it returns false'. Refute it at one input. -/
def recordTellsWrong : ChangeSpec := { name := "recordTells", fn := fun _ => fun
  | [d] => { results := [.lit (.bool false)], args := [d] }
  | _ => none }
def RecordTellsWrongFalsely : Prop := recordTellsRow.holds Try.pinned (OpenSpec.ofChange recordTellsWrong)

/- THE SECOND FORM. 'bulk': how many values and letters a reading holds, each counted each time it is reached (what is shared counts as often as it is met; a slice's spare places count too). A statement '..UptoSaid' is the law's where the arguments, and the package variables that the reading takes, are together of bulk at most 1048576: NARROWER than '..Said'. Prove '..Said' where nothing that the law and all that it calls make is longer than what came in: it says more and counts as full. Else prove '..UptoSaid'. A law counts once. -/
mutual
def uptoBulk {H : Type} : DataW H → Nat
  | .lit (.string bytes) => bytes.length + 1
  | .lit _ => 1
  | .nil => 1
  | .ptr d => uptoBulk d + 1
  | .slice elems spare => uptoBulkAll elems + uptoBulkAll spare + 1
  | .agg parts => uptoBulkAll parts + 1
  | .iface _ d => uptoBulk d + 1
  | .map entries => uptoBulkEntries entries + 1
  | .held _ => 1
def uptoBulkAll {H : Type} : List (DataW H) → Nat
  | [] => 0
  | d :: r => uptoBulk d + uptoBulkAll r
def uptoBulkEntries {H : Type} : List (Lit × DataW H) → Nat
  | [] => 0
  | x :: r => uptoBulkEntry x + uptoBulkEntries r
def uptoBulkEntry {H : Type} : Lit × DataW H → Nat
  | (.string bytes, d) => bytes.length + uptoBulk d + 1
  | (_, d) => uptoBulk d + 1
 end
def uptoSmall : (H : Type) → List (DataW H) → Bool := fun _ ds => decide (uptoBulkAll ds ≤ 1048576)
def OpenSpec.upto (s : _root_.Go.ChangeSpec) : _root_.Go.OpenSpec := { _root_.Go.OpenSpec.ofChange s with cond := some uptoSmall }

/-- 'gabionlaw05.RecordSeals', WHERE WHAT IT READS IS OF BULK AT MOST 1048576: true; the input reads as it did. -/
def recordSealsUptoRow : OpenClaim := { program := "ytkmfdnoklabndaa", sum := "57feacc4fdfaa0bc25b28f6e608dfcfb1d2b0d9875d591c0f43d57bbc26e20fd", func := "gabion/gabionlaw05.RecordSeals", spec := "recordSeals", unfollowed := true, recurses := true, apart := false, narrowed := true }
def RecordSealsUptoSaid : Prop := recordSealsUptoRow.holds Try.pinned (OpenSpec.upto recordSealsSpec)

/-- 'gabionlaw05.RecordOpens', WHERE WHAT IT READS IS OF BULK AT MOST 1048576: true; the input reads as it did. -/
def recordOpensUptoRow : OpenClaim := { program := "ytkmfdnoklabndaa", sum := "57feacc4fdfaa0bc25b28f6e608dfcfb1d2b0d9875d591c0f43d57bbc26e20fd", func := "gabion/gabionlaw05.RecordOpens", spec := "recordOpens", unfollowed := true, recurses := true, apart := false, narrowed := true }
def RecordOpensUptoSaid : Prop := recordOpensUptoRow.holds Try.pinned (OpenSpec.upto recordOpensSpec)

/-- 'gabionlaw05.RecordTurns', WHERE WHAT IT READS IS OF BULK AT MOST 1048576: true; the input reads as it did. -/
def recordTurnsUptoRow : OpenClaim := { program := "ytkmfdnoklabndaa", sum := "57feacc4fdfaa0bc25b28f6e608dfcfb1d2b0d9875d591c0f43d57bbc26e20fd", func := "gabion/gabionlaw05.RecordTurns", spec := "recordTurns", unfollowed := true, recurses := true, apart := false, narrowed := true }
def RecordTurnsUptoSaid : Prop := recordTurnsUptoRow.holds Try.pinned (OpenSpec.upto recordTurnsSpec)

/-- 'gabionlaw05.RecordBlanks', WHERE WHAT IT READS IS OF BULK AT MOST 1048576: true; the input reads as it did. -/
def recordBlanksUptoRow : OpenClaim := { program := "ytkmfdnoklabndaa", sum := "57feacc4fdfaa0bc25b28f6e608dfcfb1d2b0d9875d591c0f43d57bbc26e20fd", func := "gabion/gabionlaw05.RecordBlanks", spec := "recordBlanks", unfollowed := true, recurses := true, apart := false, narrowed := true }
def RecordBlanksUptoSaid : Prop := recordBlanksUptoRow.holds Try.pinned (OpenSpec.upto recordBlanksSpec)

/-- 'gabionlaw05.RecordBytes', WHERE WHAT IT READS IS OF BULK AT MOST 1048576: true; the input reads as it did. -/
def recordBytesUptoRow : OpenClaim := { program := "ytkmfdnoklabndaa", sum := "57feacc4fdfaa0bc25b28f6e608dfcfb1d2b0d9875d591c0f43d57bbc26e20fd", func := "gabion/gabionlaw05.RecordBytes", spec := "recordBytes", unfollowed := true, recurses := true, apart := false, narrowed := true }
def RecordBytesUptoSaid : Prop := recordBytesUptoRow.holds Try.pinned (OpenSpec.upto recordBytesSpec)

/-- 'gabionlaw05.RecordSays', WHERE WHAT IT READS IS OF BULK AT MOST 1048576: true; the input reads as it did. -/
def recordSaysUptoRow : OpenClaim := { program := "ytkmfdnoklabndaa", sum := "57feacc4fdfaa0bc25b28f6e608dfcfb1d2b0d9875d591c0f43d57bbc26e20fd", func := "gabion/gabionlaw05.RecordSays", spec := "recordSays", unfollowed := true, recurses := true, apart := false, narrowed := true }
def RecordSaysUptoSaid : Prop := recordSaysUptoRow.holds Try.pinned (OpenSpec.upto recordSaysSpec)

/-- 'gabionlaw05.RecordTells', WHERE WHAT IT READS IS OF BULK AT MOST 1048576: true; the input reads as it did. -/
def recordTellsUptoRow : OpenClaim := { program := "ytkmfdnoklabndaa", sum := "57feacc4fdfaa0bc25b28f6e608dfcfb1d2b0d9875d591c0f43d57bbc26e20fd", func := "gabion/gabionlaw05.RecordTells", spec := "recordTells", unfollowed := true, recurses := true, apart := false, narrowed := true }
def RecordTellsUptoSaid : Prop := recordTellsUptoRow.holds Try.pinned (OpenSpec.upto recordTellsSpec)

end Rows
end Go.Proofs.Ytkmfdnoklabndaa
