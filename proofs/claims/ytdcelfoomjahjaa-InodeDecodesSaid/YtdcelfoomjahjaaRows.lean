/-
  No cell of these rows narrows 'for every input' (looked for: loops, veiled, ifaces, maps, wideKeys, modest, calm, conditions, laid).
  DERIVED. THE GIVEN ROWS OF THIS SEAT. 6 by the template 'for every input the law returns true; each argument reads behind the call as it read before'; 0 by the template 'total and deterministic' (their statements: YtdcelfoomjahjaaTotals.lean).
  GIVEN WITH THE SEED: the statements are not yours to turn. If you find one false, say at which input.
  Laid BY PROGRAM, IN A SANDBOX (cutbox-rows.mjs): the forced cells as the released guide's own fill.sh prints them over the translation 4b88184785010334… (all of the seat's roots in one cut). By AI agents, Wed Nov 11 2026. No macro, syntax, notation, axiom, sorry.
-/
import Derived.Test.YtdcelfoomjahjaaChecked
import GoSem.Claim
import GoSem.ClaimJoined
import GoSem.ClaimMapViews
import Derived.JoinedTies
import Derived.KernelRfl
namespace Go.Proofs.Ytdcelfoomjahjaa
/- THE CELL 'sum', in the pinned program and in every row, IS THE sha256 OF THE DUMP (.gsa) THAT YtdcelfoomjahjaaProg.lean LOADS. Nothing in Lean hashes anything: it is a label: what it is worth is what the hold of that sum in a sandbox is worth. -/
noncomputable def Try.pinned : Pinned := { name := "ytdcelfoomjahjaa", sum := "4b88184785010334fc71880a99a977986dfc838f433c34d37bdcc83263ccddd5", checked := Try.checked }
namespace Rows
def none {H : Type} : Left H := { results := [], args := [] }

/-- 'gabionlaw17.InodeLays': WHATEVER THE INPUT: true; the input reads as it did. -/
def inodeLaysSpec : ChangeSpec := { name := "inodeLays", fn := fun _ => fun
  | [d1, d2] => { results := [.lit (.bool true)], args := [d1, d2] }
  | _ => none }
def inodeLaysRow : OpenClaim := { program := "ytdcelfoomjahjaa", sum := "4b88184785010334fc71880a99a977986dfc838f433c34d37bdcc83263ccddd5", func := "gabion/gabionlaw17.InodeLays", spec := "inodeLays", apart := false }
def InodeLaysSaid : Prop := inodeLaysRow.holds Try.pinned (OpenSpec.ofChange inodeLaysSpec)

/-- ITS FALSE NEIGHBOUR: 'it returns false'. Refute it at one input. -/
def inodeLaysWrong : ChangeSpec := { name := "inodeLays", fn := fun _ => fun
  | [d1, d2] => { results := [.lit (.bool false)], args := [d1, d2] }
  | _ => none }
def InodeLaysWrongFalsely : Prop := inodeLaysRow.holds Try.pinned (OpenSpec.ofChange inodeLaysWrong)

/-- 'gabionlaw17.InodeMosts': WHATEVER THE INPUT: true; the input reads as it did. -/
def inodeMostsSpec : ChangeSpec := { name := "inodeMosts", fn := fun _ => fun
  | [d] => { results := [.lit (.bool true)], args := [d] }
  | _ => none }
def inodeMostsRow : OpenClaim := { program := "ytdcelfoomjahjaa", sum := "4b88184785010334fc71880a99a977986dfc838f433c34d37bdcc83263ccddd5", func := "gabion/gabionlaw17.InodeMosts", spec := "inodeMosts", apart := false }
def InodeMostsSaid : Prop := inodeMostsRow.holds Try.pinned (OpenSpec.ofChange inodeMostsSpec)

/-- ITS FALSE NEIGHBOUR: 'it returns false'. Refute it at one input. -/
def inodeMostsWrong : ChangeSpec := { name := "inodeMosts", fn := fun _ => fun
  | [d] => { results := [.lit (.bool false)], args := [d] }
  | _ => none }
def InodeMostsWrongFalsely : Prop := inodeMostsRow.holds Try.pinned (OpenSpec.ofChange inodeMostsWrong)

/-- 'gabionlaw17.InodeNexts': WHATEVER THE INPUT: true; the input reads as it did. -/
def inodeNextsSpec : ChangeSpec := { name := "inodeNexts", fn := fun _ => fun
  | [d1, d2, d3] => { results := [.lit (.bool true)], args := [d1, d2, d3] }
  | _ => none }
def inodeNextsRow : OpenClaim := { program := "ytdcelfoomjahjaa", sum := "4b88184785010334fc71880a99a977986dfc838f433c34d37bdcc83263ccddd5", func := "gabion/gabionlaw17.InodeNexts", spec := "inodeNexts", apart := false }
def InodeNextsSaid : Prop := inodeNextsRow.holds Try.pinned (OpenSpec.ofChange inodeNextsSpec)

/-- ITS FALSE NEIGHBOUR: 'it returns false'. Refute it at one input. -/
def inodeNextsWrong : ChangeSpec := { name := "inodeNexts", fn := fun _ => fun
  | [d1, d2, d3] => { results := [.lit (.bool false)], args := [d1, d2, d3] }
  | _ => none }
def InodeNextsWrongFalsely : Prop := inodeNextsRow.holds Try.pinned (OpenSpec.ofChange inodeNextsWrong)

/-- 'gabionlaw17.InodePlaces': WHATEVER THE INPUT: true; the input reads as it did. -/
def inodePlacesSpec : ChangeSpec := { name := "inodePlaces", fn := fun _ => fun
  | [d] => { results := [.lit (.bool true)], args := [d] }
  | _ => none }
def inodePlacesRow : OpenClaim := { program := "ytdcelfoomjahjaa", sum := "4b88184785010334fc71880a99a977986dfc838f433c34d37bdcc83263ccddd5", func := "gabion/gabionlaw17.InodePlaces", spec := "inodePlaces", apart := false }
def InodePlacesSaid : Prop := inodePlacesRow.holds Try.pinned (OpenSpec.ofChange inodePlacesSpec)

/-- ITS FALSE NEIGHBOUR: 'it returns false'. Refute it at one input. -/
def inodePlacesWrong : ChangeSpec := { name := "inodePlaces", fn := fun _ => fun
  | [d] => { results := [.lit (.bool false)], args := [d] }
  | _ => none }
def InodePlacesWrongFalsely : Prop := inodePlacesRow.holds Try.pinned (OpenSpec.ofChange inodePlacesWrong)

/-- 'gabionlaw17.InodeCodes': WHATEVER THE INPUT: true; the input reads as it did. -/
def inodeCodesSpec : ChangeSpec := { name := "inodeCodes", fn := fun _ => fun
  | [d] => { results := [.lit (.bool true)], args := [d] }
  | _ => none }
def inodeCodesRow : OpenClaim := { program := "ytdcelfoomjahjaa", sum := "4b88184785010334fc71880a99a977986dfc838f433c34d37bdcc83263ccddd5", func := "gabion/gabionlaw17.InodeCodes", spec := "inodeCodes", unfollowed := true, recurses := true, apart := false }
def InodeCodesSaid : Prop := inodeCodesRow.holds Try.pinned (OpenSpec.ofChange inodeCodesSpec)

/-- ITS FALSE NEIGHBOUR: 'it returns false'. Refute it at one input. -/
def inodeCodesWrong : ChangeSpec := { name := "inodeCodes", fn := fun _ => fun
  | [d] => { results := [.lit (.bool false)], args := [d] }
  | _ => none }
def InodeCodesWrongFalsely : Prop := inodeCodesRow.holds Try.pinned (OpenSpec.ofChange inodeCodesWrong)

/-- 'gabionlaw17.InodeDecodes': WHATEVER THE INPUT: true; the input reads as it did. -/
def inodeDecodesSpec : ChangeSpec := { name := "inodeDecodes", fn := fun _ => fun
  | [d] => { results := [.lit (.bool true)], args := [d] }
  | _ => none }
def inodeDecodesRow : OpenClaim := { program := "ytdcelfoomjahjaa", sum := "4b88184785010334fc71880a99a977986dfc838f433c34d37bdcc83263ccddd5", func := "gabion/gabionlaw17.InodeDecodes", spec := "inodeDecodes", unfollowed := true, recurses := true, apart := false }
def InodeDecodesSaid : Prop := inodeDecodesRow.holds Try.pinned (OpenSpec.ofChange inodeDecodesSpec)

/-- ITS FALSE NEIGHBOUR: 'it returns false'. Refute it at one input. -/
def inodeDecodesWrong : ChangeSpec := { name := "inodeDecodes", fn := fun _ => fun
  | [d] => { results := [.lit (.bool false)], args := [d] }
  | _ => none }
def InodeDecodesWrongFalsely : Prop := inodeDecodesRow.holds Try.pinned (OpenSpec.ofChange inodeDecodesWrong)

/- THE SECOND FORM. 'bulk': how many values and letters a reading holds, each counted each time it is reached (what is shared counts as often as it is met; a slice's spare places count too). A statement '..UptoSaid' is the law's where the arguments, and the package variables that the reading takes, are together of bulk at most 1048576: NARROWER than '..Said'. Prove '..Said' where nothing that the law and all that it calls make is longer than what came in: it says more and counts as full. Else prove '..UptoSaid'. A law counts once. -/
mutual
def uptoBulk {H : Type} : DataW H → Nat
  | .lit (.string bytes) => bytes.length + 1
  | .lit _ => 1
  | .nil => 1
  | .ptr d => uptoBulk d + 1
  | .slice elems spare => uptoBulkAll elems + uptoBulkAll spare + 1
  | .agg parts => uptoBulkAll parts + 1
  | .iface _ d => uptoBulk d + 1
  | .map entries => uptoBulkEntries entries + 1
  | .held _ => 1
def uptoBulkAll {H : Type} : List (DataW H) → Nat
  | [] => 0
  | d :: r => uptoBulk d + uptoBulkAll r
def uptoBulkEntries {H : Type} : List (Lit × DataW H) → Nat
  | [] => 0
  | x :: r => uptoBulkEntry x + uptoBulkEntries r
def uptoBulkEntry {H : Type} : Lit × DataW H → Nat
  | (.string bytes, d) => bytes.length + uptoBulk d + 1
  | (_, d) => uptoBulk d + 1
 end
def uptoSmall : (H : Type) → List (DataW H) → Bool := fun _ ds => decide (uptoBulkAll ds ≤ 1048576)
def OpenSpec.upto (s : _root_.Go.ChangeSpec) : _root_.Go.OpenSpec := { _root_.Go.OpenSpec.ofChange s with cond := some uptoSmall }

/-- 'gabionlaw17.InodeLays', WHERE WHAT IT READS IS OF BULK AT MOST 1048576: true; the input reads as it did. -/
def inodeLaysUptoRow : OpenClaim := { program := "ytdcelfoomjahjaa", sum := "4b88184785010334fc71880a99a977986dfc838f433c34d37bdcc83263ccddd5", func := "gabion/gabionlaw17.InodeLays", spec := "inodeLays", apart := false, narrowed := true }
def InodeLaysUptoSaid : Prop := inodeLaysUptoRow.holds Try.pinned (OpenSpec.upto inodeLaysSpec)

/-- 'gabionlaw17.InodeMosts', WHERE WHAT IT READS IS OF BULK AT MOST 1048576: true; the input reads as it did. -/
def inodeMostsUptoRow : OpenClaim := { program := "ytdcelfoomjahjaa", sum := "4b88184785010334fc71880a99a977986dfc838f433c34d37bdcc83263ccddd5", func := "gabion/gabionlaw17.InodeMosts", spec := "inodeMosts", apart := false, narrowed := true }
def InodeMostsUptoSaid : Prop := inodeMostsUptoRow.holds Try.pinned (OpenSpec.upto inodeMostsSpec)

/-- 'gabionlaw17.InodeNexts', WHERE WHAT IT READS IS OF BULK AT MOST 1048576: true; the input reads as it did. -/
def inodeNextsUptoRow : OpenClaim := { program := "ytdcelfoomjahjaa", sum := "4b88184785010334fc71880a99a977986dfc838f433c34d37bdcc83263ccddd5", func := "gabion/gabionlaw17.InodeNexts", spec := "inodeNexts", apart := false, narrowed := true }
def InodeNextsUptoSaid : Prop := inodeNextsUptoRow.holds Try.pinned (OpenSpec.upto inodeNextsSpec)

/-- 'gabionlaw17.InodePlaces', WHERE WHAT IT READS IS OF BULK AT MOST 1048576: true; the input reads as it did. -/
def inodePlacesUptoRow : OpenClaim := { program := "ytdcelfoomjahjaa", sum := "4b88184785010334fc71880a99a977986dfc838f433c34d37bdcc83263ccddd5", func := "gabion/gabionlaw17.InodePlaces", spec := "inodePlaces", apart := false, narrowed := true }
def InodePlacesUptoSaid : Prop := inodePlacesUptoRow.holds Try.pinned (OpenSpec.upto inodePlacesSpec)

/-- 'gabionlaw17.InodeCodes', WHERE WHAT IT READS IS OF BULK AT MOST 1048576: true; the input reads as it did. -/
def inodeCodesUptoRow : OpenClaim := { program := "ytdcelfoomjahjaa", sum := "4b88184785010334fc71880a99a977986dfc838f433c34d37bdcc83263ccddd5", func := "gabion/gabionlaw17.InodeCodes", spec := "inodeCodes", unfollowed := true, recurses := true, apart := false, narrowed := true }
def InodeCodesUptoSaid : Prop := inodeCodesUptoRow.holds Try.pinned (OpenSpec.upto inodeCodesSpec)

/-- 'gabionlaw17.InodeDecodes', WHERE WHAT IT READS IS OF BULK AT MOST 1048576: true; the input reads as it did. -/
def inodeDecodesUptoRow : OpenClaim := { program := "ytdcelfoomjahjaa", sum := "4b88184785010334fc71880a99a977986dfc838f433c34d37bdcc83263ccddd5", func := "gabion/gabionlaw17.InodeDecodes", spec := "inodeDecodes", unfollowed := true, recurses := true, apart := false, narrowed := true }
def InodeDecodesUptoSaid : Prop := inodeDecodesUptoRow.holds Try.pinned (OpenSpec.upto inodeDecodesSpec)

end Rows
end Go.Proofs.Ytdcelfoomjahjaa
