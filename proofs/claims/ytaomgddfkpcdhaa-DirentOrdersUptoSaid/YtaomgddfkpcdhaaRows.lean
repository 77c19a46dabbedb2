/-
  No cell of these rows narrows 'for every input' (looked for: loops, veiled, ifaces, maps, wideKeys, modest, calm, conditions, laid).
  DERIVED. THE GIVEN ROWS OF THIS SEAT. 2 by the template 'for every input the law returns true; each argument reads behind the call as it read before'; 0 by the template 'total and deterministic' (their statements: YtaomgddfkpcdhaaTotals.lean).
  GIVEN WITH THE SEED: the statements are not yours to turn. If you find one false, say at which input.
  Laid BY PROGRAM, IN A SANDBOX (cutbox-rows.mjs): the forced cells as the released guide's own fill.sh prints them over the translation b25d475366a0a24a… (all of the seat's roots in one cut). By AI agents, Wed Nov 11 2026. No macro, syntax, notation, axiom, sorry.
-/
import Derived.Test.YtaomgddfkpcdhaaChecked
import GoSem.Claim
import GoSem.ClaimJoined
import GoSem.ClaimMapViews
import Derived.JoinedTies
import Derived.KernelRfl
namespace Go.Proofs.Ytaomgddfkpcdhaa
/- THE CELL 'sum', in the pinned program and in every row, IS THE sha256 OF THE DUMP (.gsa) THAT YtaomgddfkpcdhaaProg.lean LOADS. Nothing in Lean hashes anything: it is a label: what it is worth is what the hold of that sum in a sandbox is worth. -/
noncomputable def Try.pinned : Pinned := { name := "ytaomgddfkpcdhaa", sum := "b25d475366a0a24ab04284b27b4693e18db4c34b8eb07bf848eda6c1ee828bfe", checked := Try.checked }
namespace Rows
def none {H : Type} : Left H := { results := [], args := [] }

/-- 'gabionlaw18.DirentOrders': WHATEVER THE INPUT: true; the input reads as it did. -/
def direntOrdersSpec : ChangeSpec := { name := "direntOrders", fn := fun _ => fun
  | [d] => { results := [.lit (.bool true)], args := [d] }
  | _ => none }
def direntOrdersRow : OpenClaim := { program := "ytaomgddfkpcdhaa", sum := "b25d475366a0a24ab04284b27b4693e18db4c34b8eb07bf848eda6c1ee828bfe", func := "gabion/gabionlaw18.DirentOrders", spec := "direntOrders", apart := false }
def DirentOrdersSaid : Prop := direntOrdersRow.holds Try.pinned (OpenSpec.ofChange direntOrdersSpec)

/-- ITS FALSE NEIGHBOUR: 'it returns false'. Refute it at one input. -/
def direntOrdersWrong : ChangeSpec := { name := "direntOrders", fn := fun _ => fun
  | [d] => { results := [.lit (.bool false)], args := [d] }
  | _ => none }
def DirentOrdersWrongFalsely : Prop := direntOrdersRow.holds Try.pinned (OpenSpec.ofChange direntOrdersWrong)

/-- 'gabionlaw18.DirentFinds': WHATEVER THE INPUT: true; the input reads as it did. -/
def direntFindsSpec : ChangeSpec := { name := "direntFinds", fn := fun _ => fun
  | [d1, d2] => { results := [.lit (.bool true)], args := [d1, d2] }
  | _ => none }
def direntFindsRow : OpenClaim := { program := "ytaomgddfkpcdhaa", sum := "b25d475366a0a24ab04284b27b4693e18db4c34b8eb07bf848eda6c1ee828bfe", func := "gabion/gabionlaw18.DirentFinds", spec := "direntFinds", apart := false }
def DirentFindsSaid : Prop := direntFindsRow.holds Try.pinned (OpenSpec.ofChange direntFindsSpec)

/-- ITS FALSE NEIGHBOUR: 'it returns false'. Refute it at one input. -/
def direntFindsWrong : ChangeSpec := { name := "direntFinds", fn := fun _ => fun
  | [d1, d2] => { results := [.lit (.bool false)], args := [d1, d2] }
  | _ => none }
def DirentFindsWrongFalsely : Prop := direntFindsRow.holds Try.pinned (OpenSpec.ofChange direntFindsWrong)

/- THE SECOND FORM. 'bulk': how many values and letters a reading holds, each counted each time it is reached (what is shared counts as often as it is met; a slice's spare places count too). A statement '..UptoSaid' is the law's where the arguments, and the package variables that the reading takes, are together of bulk at most 1048576: NARROWER than '..Said'. Prove '..Said' where nothing that the law and all that it calls make is longer than what came in: it says more and counts as full. Else prove '..UptoSaid'. A law counts once. -/
mutual
def uptoBulk {H : Type} : DataW H → Nat
  | .lit (.string bytes) => bytes.length + 1
  | .lit _ => 1
  | .nil => 1
  | .ptr d => uptoBulk d + 1
  | .slice elems spare => uptoBulkAll elems + uptoBulkAll spare + 1
  | .agg parts => uptoBulkAll parts + 1
  | .iface _ d => uptoBulk d + 1
  | .map entries => uptoBulkEntries entries + 1
  | .held _ => 1
def uptoBulkAll {H : Type} : List (DataW H) → Nat
  | [] => 0
  | d :: r => uptoBulk d + uptoBulkAll r
def uptoBulkEntries {H : Type} : List (Lit × DataW H) → Nat
  | [] => 0
  | x :: r => uptoBulkEntry x + uptoBulkEntries r
def uptoBulkEntry {H : Type} : Lit × DataW H → Nat
  | (.string bytes, d) => bytes.length + uptoBulk d + 1
  | (_, d) => uptoBulk d + 1
 end
def uptoSmall : (H : Type) → List (DataW H) → Bool := fun _ ds => decide (uptoBulkAll ds ≤ 1048576)
def OpenSpec.upto (s : _root_.Go.ChangeSpec) : _root_.Go.OpenSpec := { _root_.Go.OpenSpec.ofChange s with cond := some uptoSmall }

/-- 'gabionlaw18.DirentOrders', WHERE WHAT IT READS IS OF BULK AT MOST 1048576: true; the input reads as it did. -/
def direntOrdersUptoRow : OpenClaim := { program := "ytaomgddfkpcdhaa", sum := "b25d475366a0a24ab04284b27b4693e18db4c34b8eb07bf848eda6c1ee828bfe", func := "gabion/gabionlaw18.DirentOrders", spec := "direntOrders", apart := false, narrowed := true }
def DirentOrdersUptoSaid : Prop := direntOrdersUptoRow.holds Try.pinned (OpenSpec.upto direntOrdersSpec)

/-- 'gabionlaw18.DirentFinds', WHERE WHAT IT READS IS OF BULK AT MOST 1048576: true; the input reads as it did. -/
def direntFindsUptoRow : OpenClaim := { program := "ytaomgddfkpcdhaa", sum := "b25d475366a0a24ab04284b27b4693e18db4c34b8eb07bf848eda6c1ee828bfe", func := "gabion/gabionlaw18.DirentFinds", spec := "direntFinds", apart := false, narrowed := true }
def DirentFindsUptoSaid : Prop := direntFindsUptoRow.holds Try.pinned (OpenSpec.upto direntFindsSpec)

end Rows
end Go.Proofs.Ytaomgddfkpcdhaa
