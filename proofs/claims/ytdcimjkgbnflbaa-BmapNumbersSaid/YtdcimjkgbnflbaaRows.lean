/-
  No cell of these rows narrows 'for every input' (looked for: loops, veiled, ifaces, maps, wideKeys, modest, calm, conditions, laid).
  DERIVED. THE GIVEN ROWS OF THIS SEAT. 5 by the template 'for every input the law returns true; each argument reads behind the call as it read before'; 0 by the template 'total and deterministic' (their statements: YtdcimjkgbnflbaaTotals.lean).
  GIVEN WITH THE SEED: the statements are not yours to turn. If you find one false, say at which input.
  Laid BY PROGRAM, IN A SANDBOX (cutbox-rows.mjs): the forced cells as the released guide's own fill.sh prints them over the translation 8898a4b90963de45… (all of the seat's roots in one cut). By AI agents, Wed Nov 11 2026. No macro, syntax, notation, axiom, sorry.
-/
import Derived.Test.YtdcimjkgbnflbaaChecked
import GoSem.Claim
import GoSem.ClaimJoined
import GoSem.ClaimMapViews
import Derived.JoinedTies
import Derived.KernelRfl
namespace Go.Proofs.Ytdcimjkgbnflbaa
/- THE CELL 'sum', in the pinned program and in every row, IS THE sha256 OF THE DUMP (.gsa) THAT YtdcimjkgbnflbaaProg.lean LOADS. Nothing in Lean hashes anything: it is a label: what it is worth is what the hold of that sum in a sandbox is worth. -/
noncomputable def Try.pinned : Pinned := { name := "ytdcimjkgbnflbaa", sum := "8898a4b90963de4535c336fea8a9200de6f79c0bb95213ba7e01beebe4462f4f", checked := Try.checked }
namespace Rows
def none {H : Type} : Left H := { results := [], args := [] }

/-- 'gabionlaw19.BmapCounts': WHATEVER THE INPUT: true; the input reads as it did. -/
def bmapCountsSpec : ChangeSpec := { name := "bmapCounts", fn := fun _ => fun
  | [d] => { results := [.lit (.bool true)], args := [d] }
  | _ => none }
def bmapCountsRow : OpenClaim := { program := "ytdcimjkgbnflbaa", sum := "8898a4b90963de4535c336fea8a9200de6f79c0bb95213ba7e01beebe4462f4f", func := "gabion/gabionlaw19.BmapCounts", spec := "bmapCounts", apart := false }
def BmapCountsSaid : Prop := bmapCountsRow.holds Try.pinned (OpenSpec.ofChange bmapCountsSpec)

/-- ITS FALSE NEIGHBOUR: 'it returns false'. Refute it at one input. -/
def bmapCountsWrong : ChangeSpec := { name := "bmapCounts", fn := fun _ => fun
  | [d] => { results := [.lit (.bool false)], args := [d] }
  | _ => none }
def BmapCountsWrongFalsely : Prop := bmapCountsRow.holds Try.pinned (OpenSpec.ofChange bmapCountsWrong)

/-- 'gabionlaw19.BmapBlocks': WHATEVER THE INPUT: true; the input reads as it did. -/
def bmapBlocksSpec : ChangeSpec := { name := "bmapBlocks", fn := fun _ => fun
  | [d1, d2] => { results := [.lit (.bool true)], args := [d1, d2] }
  | _ => none }
def bmapBlocksRow : OpenClaim := { program := "ytdcimjkgbnflbaa", sum := "8898a4b90963de4535c336fea8a9200de6f79c0bb95213ba7e01beebe4462f4f", func := "gabion/gabionlaw19.BmapBlocks", spec := "bmapBlocks", apart := false }
def BmapBlocksSaid : Prop := bmapBlocksRow.holds Try.pinned (OpenSpec.ofChange bmapBlocksSpec)

/-- ITS FALSE NEIGHBOUR: 'it returns false'. Refute it at one input. -/
def bmapBlocksWrong : ChangeSpec := { name := "bmapBlocks", fn := fun _ => fun
  | [d1, d2] => { results := [.lit (.bool false)], args := [d1, d2] }
  | _ => none }
def BmapBlocksWrongFalsely : Prop := bmapBlocksRow.holds Try.pinned (OpenSpec.ofChange bmapBlocksWrong)

/-- 'gabionlaw19.BmapPieces': WHATEVER THE INPUT: true; the input reads as it did. -/
def bmapPiecesSpec : ChangeSpec := { name := "bmapPieces", fn := fun _ => fun
  | [d1, d2, d3] => { results := [.lit (.bool true)], args := [d1, d2, d3] }
  | _ => none }
def bmapPiecesRow : OpenClaim := { program := "ytdcimjkgbnflbaa", sum := "8898a4b90963de4535c336fea8a9200de6f79c0bb95213ba7e01beebe4462f4f", func := "gabion/gabionlaw19.BmapPieces", spec := "bmapPieces", apart := false }
def BmapPiecesSaid : Prop := bmapPiecesRow.holds Try.pinned (OpenSpec.ofChange bmapPiecesSpec)

/-- ITS FALSE NEIGHBOUR: 'it returns false'. Refute it at one input. -/
def bmapPiecesWrong : ChangeSpec := { name := "bmapPieces", fn := fun _ => fun
  | [d1, d2, d3] => { results := [.lit (.bool false)], args := [d1, d2, d3] }
  | _ => none }
def BmapPiecesWrongFalsely : Prop := bmapPiecesRow.holds Try.pinned (OpenSpec.ofChange bmapPiecesWrong)

/-- 'gabionlaw19.BmapSets': WHATEVER THE INPUT: true; the input reads as it did. -/
def bmapSetsSpec : ChangeSpec := { name := "bmapSets", fn := fun _ => fun
  | [d] => { results := [.lit (.bool true)], args := [d] }
  | _ => none }
def bmapSetsRow : OpenClaim := { program := "ytdcimjkgbnflbaa", sum := "8898a4b90963de4535c336fea8a9200de6f79c0bb95213ba7e01beebe4462f4f", func := "gabion/gabionlaw19.BmapSets", spec := "bmapSets", apart := false }
def BmapSetsSaid : Prop := bmapSetsRow.holds Try.pinned (OpenSpec.ofChange bmapSetsSpec)

/-- ITS FALSE NEIGHBOUR: 'it returns false'. Refute it at one input. -/
def bmapSetsWrong : ChangeSpec := { name := "bmapSets", fn := fun _ => fun
  | [d] => { results := [.lit (.bool false)], args := [d] }
  | _ => none }
def BmapSetsWrongFalsely : Prop := bmapSetsRow.holds Try.pinned (OpenSpec.ofChange bmapSetsWrong)

/-- 'gabionlaw19.BmapNumbers': WHATEVER THE INPUT: true; the input reads as it did. -/
def bmapNumbersSpec : ChangeSpec := { name := "bmapNumbers", fn := fun _ => fun
  | [d1, d2, d3] => { results := [.lit (.bool true)], args := [d1, d2, d3] }
  | _ => none }
def bmapNumbersRow : OpenClaim := { program := "ytdcimjkgbnflbaa", sum := "8898a4b90963de4535c336fea8a9200de6f79c0bb95213ba7e01beebe4462f4f", func := "gabion/gabionlaw19.BmapNumbers", spec := "bmapNumbers", unfollowed := true, recurses := true, apart := false }
def BmapNumbersSaid : Prop := bmapNumbersRow.holds Try.pinned (OpenSpec.ofChange bmapNumbersSpec)

/-- ITS FALSE NEIGHBOUR: 'it returns false'. Refute it at one input. -/
def bmapNumbersWrong : ChangeSpec := { name := "bmapNumbers", fn := fun _ => fun
  | [d1, d2, d3] => { results := [.lit (.bool false)], args := [d1, d2, d3] }
  | _ => none }
def BmapNumbersWrongFalsely : Prop := bmapNumbersRow.holds Try.pinned (OpenSpec.ofChange bmapNumbersWrong)

/- THE SECOND FORM. 'bulk': how many values and letters a reading holds, each counted each time it is reached (what is shared counts as often as it is met; a slice's spare places count too). A statement '..UptoSaid' is the law's where the arguments, and the package variables that the reading takes, are together of bulk at most 1048576: NARROWER than '..Said'. Prove '..Said' where nothing that the law and all that it calls make is longer than what came in: it says more and counts as full. Else prove '..UptoSaid'. A law counts once. -/
mutual
def uptoBulk {H : Type} : DataW H → Nat
  | .lit (.string bytes) => bytes.length + 1
  | .lit _ => 1
  | .nil => 1
  | .ptr d => uptoBulk d + 1
  | .slice elems spare => uptoBulkAll elems + uptoBulkAll spare + 1
  | .agg parts => uptoBulkAll parts + 1
  | .iface _ d => uptoBulk d + 1
  | .map entries => uptoBulkEntries entries + 1
  | .held _ => 1
def uptoBulkAll {H : Type} : List (DataW H) → Nat
  | [] => 0
  | d :: r => uptoBulk d + uptoBulkAll r
def uptoBulkEntries {H : Type} : List (Lit × DataW H) → Nat
  | [] => 0
  | x :: r => uptoBulkEntry x + uptoBulkEntries r
def uptoBulkEntry {H : Type} : Lit × DataW H → Nat
  | (.string bytes, d) => bytes.length + uptoBulk d + 1
  | (_, d) => uptoBulk d + 1
 end
def uptoSmall : (H : Type) → List (DataW H) → Bool := fun _ ds => decide (uptoBulkAll ds ≤ 1048576)
def OpenSpec.upto (s : _root_.Go.ChangeSpec) : _root_.Go.OpenSpec := { _root_.Go.OpenSpec.ofChange s with cond := some uptoSmall }

/-- 'gabionlaw19.BmapCounts', WHERE WHAT IT READS IS OF BULK AT MOST 1048576: true; the input reads as it did. -/
def bmapCountsUptoRow : OpenClaim := { program := "ytdcimjkgbnflbaa", sum := "8898a4b90963de4535c336fea8a9200de6f79c0bb95213ba7e01beebe4462f4f", func := "gabion/gabionlaw19.BmapCounts", spec := "bmapCounts", apart := false, narrowed := true }
def BmapCountsUptoSaid : Prop := bmapCountsUptoRow.holds Try.pinned (OpenSpec.upto bmapCountsSpec)

/-- 'gabionlaw19.BmapBlocks', WHERE WHAT IT READS IS OF BULK AT MOST 1048576: true; the input reads as it did. -/
def bmapBlocksUptoRow : OpenClaim := { program := "ytdcimjkgbnflbaa", sum := "8898a4b90963de4535c336fea8a9200de6f79c0bb95213ba7e01beebe4462f4f", func := "gabion/gabionlaw19.BmapBlocks", spec := "bmapBlocks", apart := false, narrowed := true }
def BmapBlocksUptoSaid : Prop := bmapBlocksUptoRow.holds Try.pinned (OpenSpec.upto bmapBlocksSpec)

/-- 'gabionlaw19.BmapPieces', WHERE WHAT IT READS IS OF BULK AT MOST 1048576: true; the input reads as it did. -/
def bmapPiecesUptoRow : OpenClaim := { program := "ytdcimjkgbnflbaa", sum := "8898a4b90963de4535c336fea8a9200de6f79c0bb95213ba7e01beebe4462f4f", func := "gabion/gabionlaw19.BmapPieces", spec := "bmapPieces", apart := false, narrowed := true }
def BmapPiecesUptoSaid : Prop := bmapPiecesUptoRow.holds Try.pinned (OpenSpec.upto bmapPiecesSpec)

/-- 'gabionlaw19.BmapSets', WHERE WHAT IT READS IS OF BULK AT MOST 1048576: true; the input reads as it did. -/
def bmapSetsUptoRow : OpenClaim := { program := "ytdcimjkgbnflbaa", sum := "8898a4b90963de4535c336fea8a9200de6f79c0bb95213ba7e01beebe4462f4f", func := "gabion/gabionlaw19.BmapSets", spec := "bmapSets", apart := false, narrowed := true }
def BmapSetsUptoSaid : Prop := bmapSetsUptoRow.holds Try.pinned (OpenSpec.upto bmapSetsSpec)

/-- 'gabionlaw19.BmapNumbers', WHERE WHAT IT READS IS OF BULK AT MOST 1048576: true; the input reads as it did. -/
def bmapNumbersUptoRow : OpenClaim := { program := "ytdcimjkgbnflbaa", sum := "8898a4b90963de4535c336fea8a9200de6f79c0bb95213ba7e01beebe4462f4f", func := "gabion/gabionlaw19.BmapNumbers", spec := "bmapNumbers", unfollowed := true, recurses := true, apart := false, narrowed := true }
def BmapNumbersUptoSaid : Prop := bmapNumbersUptoRow.holds Try.pinned (OpenSpec.upto bmapNumbersSpec)

end Rows
end Go.Proofs.Ytdcimjkgbnflbaa
