/-
  No cell of these rows narrows 'for every input' (looked for: loops, veiled, ifaces, maps, wideKeys, modest, calm, conditions, laid).
  DERIVED. THE GIVEN ROWS OF THIS SEAT. 6 by the template 'for every input the law returns true; each argument reads behind the call as it read before'; 0 by the template 'total and deterministic' (their statements: YtkbjndfmbimjiaaTotals.lean).
  GIVEN WITH THE SEED: the statements are not yours to turn. If you find one false, say at which input.
  Laid BY PROGRAM, IN A SANDBOX (cutbox-rows.mjs): the forced cells as the released guide's own fill.sh prints them over the translation 2f3c453a7947d452… (all of the seat's roots in one cut). By AI agents, Wed Nov 11 2026. No macro, syntax, notation, axiom, sorry.
-/
import Derived.Test.YtkbjndfmbimjiaaChecked
import GoSem.Claim
import GoSem.ClaimJoined
import GoSem.ClaimMapViews
import Derived.JoinedTies
import Derived.KernelRfl
namespace Go.Proofs.Ytkbjndfmbimjiaa
/- THE CELL 'sum', in the pinned program and in every row, IS THE sha256 OF THE DUMP (.gsa) THAT YtkbjndfmbimjiaaProg.lean LOADS. Nothing in Lean hashes anything: it is a label: what it is worth is what the hold of that sum in a sandbox is worth. -/
noncomputable def Try.pinned : Pinned := { name := "ytkbjndfmbimjiaa", sum := "2f3c453a7947d452831b0fc4e6727b843a3b43392ed45f350d23935ca834d3fc", checked := Try.checked }
namespace Rows
def none {H : Type} : Left H := { results := [], args := [] }

/-- 'gabionlaw09.ParityXors': WHATEVER THE INPUT: true; the input reads as it did. -/
def parityXorsSpec : ChangeSpec := { name := "parityXors", fn := fun _ => fun
  | [d] => { results := [.lit (.bool true)], args := [d] }
  | _ => none }
def parityXorsRow : OpenClaim := { program := "ytkbjndfmbimjiaa", sum := "2f3c453a7947d452831b0fc4e6727b843a3b43392ed45f350d23935ca834d3fc", func := "gabion/gabionlaw09.ParityXors", spec := "parityXors", apart := false }
def ParityXorsSaid : Prop := parityXorsRow.holds Try.pinned (OpenSpec.ofChange parityXorsSpec)

/-- ITS FALSE NEIGHBOUR: 'it returns false'. Refute it at one input. -/
def parityXorsWrong : ChangeSpec := { name := "parityXors", fn := fun _ => fun
  | [d] => { results := [.lit (.bool false)], args := [d] }
  | _ => none }
def ParityXorsWrongFalsely : Prop := parityXorsRow.holds Try.pinned (OpenSpec.ofChange parityXorsWrong)

/-- 'gabionlaw09.ParityParts': WHATEVER THE INPUT: true; the input reads as it did. -/
def parityPartsSpec : ChangeSpec := { name := "parityParts", fn := fun _ => fun
  | [d1, d2] => { results := [.lit (.bool true)], args := [d1, d2] }
  | _ => none }
def parityPartsRow : OpenClaim := { program := "ytkbjndfmbimjiaa", sum := "2f3c453a7947d452831b0fc4e6727b843a3b43392ed45f350d23935ca834d3fc", func := "gabion/gabionlaw09.ParityParts", spec := "parityParts", apart := false }
def ParityPartsSaid : Prop := parityPartsRow.holds Try.pinned (OpenSpec.ofChange parityPartsSpec)

/-- ITS FALSE NEIGHBOUR: 'it returns false'. Refute it at one input. -/
def parityPartsWrong : ChangeSpec := { name := "parityParts", fn := fun _ => fun
  | [d1, d2] => { results := [.lit (.bool false)], args := [d1, d2] }
  | _ => none }
def ParityPartsWrongFalsely : Prop := parityPartsRow.holds Try.pinned (OpenSpec.ofChange parityPartsWrong)

/-- 'gabionlaw09.ParityPages': WHATEVER THE INPUT: true; the input reads as it did. -/
def parityPagesSpec : ChangeSpec := { name := "parityPages", fn := fun _ => fun
  | [d] => { results := [.lit (.bool true)], args := [d] }
  | _ => none }
def parityPagesRow : OpenClaim := { program := "ytkbjndfmbimjiaa", sum := "2f3c453a7947d452831b0fc4e6727b843a3b43392ed45f350d23935ca834d3fc", func := "gabion/gabionlaw09.ParityPages", spec := "parityPages", apart := false }
def ParityPagesSaid : Prop := parityPagesRow.holds Try.pinned (OpenSpec.ofChange parityPagesSpec)

/-- ITS FALSE NEIGHBOUR: 'it returns false'. Refute it at one input. -/
def parityPagesWrong : ChangeSpec := { name := "parityPages", fn := fun _ => fun
  | [d] => { results := [.lit (.bool false)], args := [d] }
  | _ => none }
def ParityPagesWrongFalsely : Prop := parityPagesRow.holds Try.pinned (OpenSpec.ofChange parityPagesWrong)

/-- 'gabionlaw09.ParityBack': WHATEVER THE INPUT: true; the input reads as it did. -/
def parityBackSpec : ChangeSpec := { name := "parityBack", fn := fun _ => fun
  | [d] => { results := [.lit (.bool true)], args := [d] }
  | _ => none }
def parityBackRow : OpenClaim := { program := "ytkbjndfmbimjiaa", sum := "2f3c453a7947d452831b0fc4e6727b843a3b43392ed45f350d23935ca834d3fc", func := "gabion/gabionlaw09.ParityBack", spec := "parityBack", unfollowed := true, recurses := true, apart := false }
def ParityBackSaid : Prop := parityBackRow.holds Try.pinned (OpenSpec.ofChange parityBackSpec)

/-- ITS FALSE NEIGHBOUR: 'it returns false'. Refute it at one input. -/
def parityBackWrong : ChangeSpec := { name := "parityBack", fn := fun _ => fun
  | [d] => { results := [.lit (.bool false)], args := [d] }
  | _ => none }
def ParityBackWrongFalsely : Prop := parityBackRow.holds Try.pinned (OpenSpec.ofChange parityBackWrong)

/-- 'gabionlaw09.ParitySpoilt': WHATEVER THE INPUT: true; the input reads as it did. -/
def paritySpoiltSpec : ChangeSpec := { name := "paritySpoilt", fn := fun _ => fun
  | [d] => { results := [.lit (.bool true)], args := [d] }
  | _ => none }
def paritySpoiltRow : OpenClaim := { program := "ytkbjndfmbimjiaa", sum := "2f3c453a7947d452831b0fc4e6727b843a3b43392ed45f350d23935ca834d3fc", func := "gabion/gabionlaw09.ParitySpoilt", spec := "paritySpoilt", unfollowed := true, recurses := true, apart := false }
def ParitySpoiltSaid : Prop := paritySpoiltRow.holds Try.pinned (OpenSpec.ofChange paritySpoiltSpec)

/-- ITS FALSE NEIGHBOUR: 'it returns false'. Refute it at one input. -/
def paritySpoiltWrong : ChangeSpec := { name := "paritySpoilt", fn := fun _ => fun
  | [d] => { results := [.lit (.bool false)], args := [d] }
  | _ => none }
def ParitySpoiltWrongFalsely : Prop := paritySpoiltRow.holds Try.pinned (OpenSpec.ofChange paritySpoiltWrong)

/-- 'gabionlaw09.ParityOne': WHATEVER THE INPUT: true; the input reads as it did. -/
def parityOneSpec : ChangeSpec := { name := "parityOne", fn := fun _ => fun
  | [d1, d2, d3] => { results := [.lit (.bool true)], args := [d1, d2, d3] }
  | _ => none }
def parityOneRow : OpenClaim := { program := "ytkbjndfmbimjiaa", sum := "2f3c453a7947d452831b0fc4e6727b843a3b43392ed45f350d23935ca834d3fc", func := "gabion/gabionlaw09.ParityOne", spec := "parityOne", unfollowed := true, recurses := true, apart := false }
def ParityOneSaid : Prop := parityOneRow.holds Try.pinned (OpenSpec.ofChange parityOneSpec)

/-- ITS FALSE NEIGHBOUR: 'it returns false'. Refute it at one input. -/
def parityOneWrong : ChangeSpec := { name := "parityOne", fn := fun _ => fun
  | [d1, d2, d3] => { results := [.lit (.bool false)], args := [d1, d2, d3] }
  | _ => none }
def ParityOneWrongFalsely : Prop := parityOneRow.holds Try.pinned (OpenSpec.ofChange parityOneWrong)

/- THE SECOND FORM. 'bulk': how many values and letters a reading holds, each counted each time it is reached (what is shared counts as often as it is met; a slice's spare places count too). A statement '..UptoSaid' is the law's where the arguments, and the package variables that the reading takes, are together of bulk at most 1048576: NARROWER than '..Said'. Prove '..Said' where nothing that the law and all that it calls make is longer than what came in: it says more and counts as full. Else prove '..UptoSaid'. A law counts once. -/
mutual
def uptoBulk {H : Type} : DataW H → Nat
  | .lit (.string bytes) => bytes.length + 1
  | .lit _ => 1
  | .nil => 1
  | .ptr d => uptoBulk d + 1
  | .slice elems spare => uptoBulkAll elems + uptoBulkAll spare + 1
  | .agg parts => uptoBulkAll parts + 1
  | .iface _ d => uptoBulk d + 1
  | .map entries => uptoBulkEntries entries + 1
  | .held _ => 1
def uptoBulkAll {H : Type} : List (DataW H) → Nat
  | [] => 0
  | d :: r => uptoBulk d + uptoBulkAll r
def uptoBulkEntries {H : Type} : List (Lit × DataW H) → Nat
  | [] => 0
  | x :: r => uptoBulkEntry x + uptoBulkEntries r
def uptoBulkEntry {H : Type} : Lit × DataW H → Nat
  | (.string bytes, d) => bytes.length + uptoBulk d + 1
  | (_, d) => uptoBulk d + 1
 end
def uptoSmall : (H : Type) → List (DataW H) → Bool := fun _ ds => decide (uptoBulkAll ds ≤ 1048576)
def OpenSpec.upto (s : _root_.Go.ChangeSpec) : _root_.Go.OpenSpec := { _root_.Go.OpenSpec.ofChange s with cond := some uptoSmall }

/-- 'gabionlaw09.ParityXors', WHERE WHAT IT READS IS OF BULK AT MOST 1048576: true; the input reads as it did. -/
def parityXorsUptoRow : OpenClaim := { program := "ytkbjndfmbimjiaa", sum := "2f3c453a7947d452831b0fc4e6727b843a3b43392ed45f350d23935ca834d3fc", func := "gabion/gabionlaw09.ParityXors", spec := "parityXors", apart := false, narrowed := true }
def ParityXorsUptoSaid : Prop := parityXorsUptoRow.holds Try.pinned (OpenSpec.upto parityXorsSpec)

/-- 'gabionlaw09.ParityParts', WHERE WHAT IT READS IS OF BULK AT MOST 1048576: true; the input reads as it did. -/
def parityPartsUptoRow : OpenClaim := { program := "ytkbjndfmbimjiaa", sum := "2f3c453a7947d452831b0fc4e6727b843a3b43392ed45f350d23935ca834d3fc", func := "gabion/gabionlaw09.ParityParts", spec := "parityParts", apart := false, narrowed := true }
def ParityPartsUptoSaid : Prop := parityPartsUptoRow.holds Try.pinned (OpenSpec.upto parityPartsSpec)

/-- 'gabionlaw09.ParityPages', WHERE WHAT IT READS IS OF BULK AT MOST 1048576: true; the input reads as it did. -/
def parityPagesUptoRow : OpenClaim := { program := "ytkbjndfmbimjiaa", sum := "2f3c453a7947d452831b0fc4e6727b843a3b43392ed45f350d23935ca834d3fc", func := "gabion/gabionlaw09.ParityPages", spec := "parityPages", apart := false, narrowed := true }
def ParityPagesUptoSaid : Prop := parityPagesUptoRow.holds Try.pinned (OpenSpec.upto parityPagesSpec)

/-- 'gabionlaw09.ParityBack', WHERE WHAT IT READS IS OF BULK AT MOST 1048576: true; the input reads as it did. -/
def parityBackUptoRow : OpenClaim := { program := "ytkbjndfmbimjiaa", sum := "2f3c453a7947d452831b0fc4e6727b843a3b43392ed45f350d23935ca834d3fc", func := "gabion/gabionlaw09.ParityBack", spec := "parityBack", unfollowed := true, recurses := true, apart := false, narrowed := true }
def ParityBackUptoSaid : Prop := parityBackUptoRow.holds Try.pinned (OpenSpec.upto parityBackSpec)

/-- 'gabionlaw09.ParitySpoilt', WHERE WHAT IT READS IS OF BULK AT MOST 1048576: true; the input reads as it did. -/
def paritySpoiltUptoRow : OpenClaim := { program := "ytkbjndfmbimjiaa", sum := "2f3c453a7947d452831b0fc4e6727b843a3b43392ed45f350d23935ca834d3fc", func := "gabion/gabionlaw09.ParitySpoilt", spec := "paritySpoilt", unfollowed := true, recurses := true, apart := false, narrowed := true }
def ParitySpoiltUptoSaid : Prop := paritySpoiltUptoRow.holds Try.pinned (OpenSpec.upto paritySpoiltSpec)

/-- 'gabionlaw09.ParityOne', WHERE WHAT IT READS IS OF BULK AT MOST 1048576: true; the input reads as it did. -/
def parityOneUptoRow : OpenClaim := { program := "ytkbjndfmbimjiaa", sum := "2f3c453a7947d452831b0fc4e6727b843a3b43392ed45f350d23935ca834d3fc", func := "gabion/gabionlaw09.ParityOne", spec := "parityOne", unfollowed := true, recurses := true, apart := false, narrowed := true }
def ParityOneUptoSaid : Prop := parityOneUptoRow.holds Try.pinned (OpenSpec.upto parityOneSpec)

end Rows
end Go.Proofs.Ytkbjndfmbimjiaa
