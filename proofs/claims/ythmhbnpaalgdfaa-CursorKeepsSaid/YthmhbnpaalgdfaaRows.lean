/-
  No cell of these rows narrows 'for every input' (looked for: loops, veiled, ifaces, maps, wideKeys, modest, calm, conditions, laid).
  DERIVED. THE GIVEN ROWS OF THIS SEAT. 7 by the template 'for every input the law returns true; each argument reads behind the call as it read before'; 0 by the template 'total and deterministic' (their statements: YthmhbnpaalgdfaaTotals.lean).
  GIVEN WITH THE SEED: the statements are not yours to turn. If you find one false, say at which input.
  Laid BY PROGRAM, IN A SANDBOX (cutbox-rows.mjs): the forced cells as the released guide's own fill.sh prints them over the translation f60f460f144bf6d1… (all of the seat's roots in one cut). By AI agents, Wed Nov 11 2026. No macro, syntax, notation, axiom, sorry.
-/
import Derived.Test.YthmhbnpaalgdfaaChecked
import GoSem.Claim
import GoSem.ClaimJoined
import GoSem.ClaimMapViews
import Derived.JoinedTies
import Derived.KernelRfl
namespace Go.Proofs.Ythmhbnpaalgdfaa
/- THE CELL 'sum', in the pinned program and in every row, IS THE sha256 OF THE DUMP (.gsa) THAT YthmhbnpaalgdfaaProg.lean LOADS. Nothing in Lean hashes anything: it is a label: what it is worth is what the hold of that sum in a sandbox is worth. -/
noncomputable def Try.pinned : Pinned := { name := "ythmhbnpaalgdfaa", sum := "f60f460f144bf6d13295985852030c071c6a208d642eefa8ed92cd37a762c970", checked := Try.checked }
namespace Rows
def none {H : Type} : Left H := { results := [], args := [] }

/-- 'gabionlaw01.CursorMany': WHATEVER THE INPUT: true; the input reads as it did. -/
def cursorManySpec : ChangeSpec := { name := "cursorMany", fn := fun _ => fun
  | [d] => { results := [.lit (.bool true)], args := [d] }
  | _ => none }
def cursorManyRow : OpenClaim := { program := "ythmhbnpaalgdfaa", sum := "f60f460f144bf6d13295985852030c071c6a208d642eefa8ed92cd37a762c970", func := "gabion/gabionlaw01.CursorMany", spec := "cursorMany", apart := false }
def CursorManySaid : Prop := cursorManyRow.holds Try.pinned (OpenSpec.ofChange cursorManySpec)

/-- ITS FALSE NEIGHBOUR: 'it returns false'. Refute it at one input. -/
def cursorManyWrong : ChangeSpec := { name := "cursorMany", fn := fun _ => fun
  | [d] => { results := [.lit (.bool false)], args := [d] }
  | _ => none }
def CursorManyWrongFalsely : Prop := cursorManyRow.holds Try.pinned (OpenSpec.ofChange cursorManyWrong)

/-- 'gabionlaw01.CursorLays': WHATEVER THE INPUT: true; the input reads as it did. -/
def cursorLaysSpec : ChangeSpec := { name := "cursorLays", fn := fun _ => fun
  | [d] => { results := [.lit (.bool true)], args := [d] }
  | _ => none }
def cursorLaysRow : OpenClaim := { program := "ythmhbnpaalgdfaa", sum := "f60f460f144bf6d13295985852030c071c6a208d642eefa8ed92cd37a762c970", func := "gabion/gabionlaw01.CursorLays", spec := "cursorLays", apart := false }
def CursorLaysSaid : Prop := cursorLaysRow.holds Try.pinned (OpenSpec.ofChange cursorLaysSpec)

/-- ITS FALSE NEIGHBOUR: 'it returns false'. Refute it at one input. -/
def cursorLaysWrong : ChangeSpec := { name := "cursorLays", fn := fun _ => fun
  | [d] => { results := [.lit (.bool false)], args := [d] }
  | _ => none }
def CursorLaysWrongFalsely : Prop := cursorLaysRow.holds Try.pinned (OpenSpec.ofChange cursorLaysWrong)

/-- 'gabionlaw01.CursorTexts': WHATEVER THE INPUT: true; the input reads as it did. -/
def cursorTextsSpec : ChangeSpec := { name := "cursorTexts", fn := fun _ => fun
  | [d] => { results := [.lit (.bool true)], args := [d] }
  | _ => none }
def cursorTextsRow : OpenClaim := { program := "ythmhbnpaalgdfaa", sum := "f60f460f144bf6d13295985852030c071c6a208d642eefa8ed92cd37a762c970", func := "gabion/gabionlaw01.CursorTexts", spec := "cursorTexts", unfollowed := true, recurses := true, apart := false }
def CursorTextsSaid : Prop := cursorTextsRow.holds Try.pinned (OpenSpec.ofChange cursorTextsSpec)

/-- ITS FALSE NEIGHBOUR: 'it returns false'. Refute it at one input. -/
def cursorTextsWrong : ChangeSpec := { name := "cursorTexts", fn := fun _ => fun
  | [d] => { results := [.lit (.bool false)], args := [d] }
  | _ => none }
def CursorTextsWrongFalsely : Prop := cursorTextsRow.holds Try.pinned (OpenSpec.ofChange cursorTextsWrong)

/-- 'gabionlaw01.CursorPads': WHATEVER THE INPUT: true; the input reads as it did. -/
def cursorPadsSpec : ChangeSpec := { name := "cursorPads", fn := fun _ => fun
  | [d1, d2] => { results := [.lit (.bool true)], args := [d1, d2] }
  | _ => none }
def cursorPadsRow : OpenClaim := { program := "ythmhbnpaalgdfaa", sum := "f60f460f144bf6d13295985852030c071c6a208d642eefa8ed92cd37a762c970", func := "gabion/gabionlaw01.CursorPads", spec := "cursorPads", unfollowed := true, recurses := true, apart := false }
def CursorPadsSaid : Prop := cursorPadsRow.holds Try.pinned (OpenSpec.ofChange cursorPadsSpec)

/-- ITS FALSE NEIGHBOUR: 'it returns false'. Refute it at one input. -/
def cursorPadsWrong : ChangeSpec := { name := "cursorPads", fn := fun _ => fun
  | [d1, d2] => { results := [.lit (.bool false)], args := [d1, d2] }
  | _ => none }
def CursorPadsWrongFalsely : Prop := cursorPadsRow.holds Try.pinned (OpenSpec.ofChange cursorPadsWrong)

/-- 'gabionlaw01.CursorEnds': WHATEVER THE INPUT: true; the input reads as it did. -/
def cursorEndsSpec : ChangeSpec := { name := "cursorEnds", fn := fun _ => fun
  | [d1, d2, d3] => { results := [.lit (.bool true)], args := [d1, d2, d3] }
  | _ => none }
def cursorEndsRow : OpenClaim := { program := "ythmhbnpaalgdfaa", sum := "f60f460f144bf6d13295985852030c071c6a208d642eefa8ed92cd37a762c970", func := "gabion/gabionlaw01.CursorEnds", spec := "cursorEnds", unfollowed := true, recurses := true, apart := false }
def CursorEndsSaid : Prop := cursorEndsRow.holds Try.pinned (OpenSpec.ofChange cursorEndsSpec)

/-- ITS FALSE NEIGHBOUR: 'it returns false'. Refute it at one input. -/
def cursorEndsWrong : ChangeSpec := { name := "cursorEnds", fn := fun _ => fun
  | [d1, d2, d3] => { results := [.lit (.bool false)], args := [d1, d2, d3] }
  | _ => none }
def CursorEndsWrongFalsely : Prop := cursorEndsRow.holds Try.pinned (OpenSpec.ofChange cursorEndsWrong)

/-- 'gabionlaw01.CursorKeeps': WHATEVER THE INPUT: true; the input reads as it did. -/
def cursorKeepsSpec : ChangeSpec := { name := "cursorKeeps", fn := fun _ => fun
  | [d1, d2] => { results := [.lit (.bool true)], args := [d1, d2] }
  | _ => none }
def cursorKeepsRow : OpenClaim := { program := "ythmhbnpaalgdfaa", sum := "f60f460f144bf6d13295985852030c071c6a208d642eefa8ed92cd37a762c970", func := "gabion/gabionlaw01.CursorKeeps", spec := "cursorKeeps", unfollowed := true, recurses := true, apart := false }
def CursorKeepsSaid : Prop := cursorKeepsRow.holds Try.pinned (OpenSpec.ofChange cursorKeepsSpec)

/-- ITS FALSE NEIGHBOUR: 'it returns false'. Refute it at one input. -/
def cursorKeepsWrong : ChangeSpec := { name := "cursorKeeps", fn := fun _ => fun
  | [d1, d2] => { results := [.lit (.bool false)], args := [d1, d2] }
  | _ => none }
def CursorKeepsWrongFalsely : Prop := cursorKeepsRow.holds Try.pinned (OpenSpec.ofChange cursorKeepsWrong)

/-- 'gabionlaw01.CursorBack': WHATEVER THE INPUT: true; the input reads as it did. -/
def cursorBackSpec : ChangeSpec := { name := "cursorBack", fn := fun _ => fun
  | [d] => { results := [.lit (.bool true)], args := [d] }
  | _ => none }
def cursorBackRow : OpenClaim := { program := "ythmhbnpaalgdfaa", sum := "f60f460f144bf6d13295985852030c071c6a208d642eefa8ed92cd37a762c970", func := "gabion/gabionlaw01.CursorBack", spec := "cursorBack", unfollowed := true, recurses := true, apart := false }
def CursorBackSaid : Prop := cursorBackRow.holds Try.pinned (OpenSpec.ofChange cursorBackSpec)

/-- ITS FALSE NEIGHBOUR: 'it returns false'. Refute it at one input. -/
def cursorBackWrong : ChangeSpec := { name := "cursorBack", fn := fun _ => fun
  | [d] => { results := [.lit (.bool false)], args := [d] }
  | _ => none }
def CursorBackWrongFalsely : Prop := cursorBackRow.holds Try.pinned (OpenSpec.ofChange cursorBackWrong)

/- THE SECOND FORM. 'bulk': how many values and letters a reading holds, each counted each time it is reached (what is shared counts as often as it is met; a slice's spare places count too). A statement '..UptoSaid' is the law's where the arguments, and the package variables that the reading takes, are together of bulk at most 1048576: NARROWER than '..Said'. Prove '..Said' where nothing that the law and all that it calls make is longer than what came in: it says more and counts as full. Else prove '..UptoSaid'. A law counts once. -/
mutual
def uptoBulk {H : Type} : DataW H → Nat
  | .lit (.string bytes) => bytes.length + 1
  | .lit _ => 1
  | .nil => 1
  | .ptr d => uptoBulk d + 1
  | .slice elems spare => uptoBulkAll elems + uptoBulkAll spare + 1
  | .agg parts => uptoBulkAll parts + 1
  | .iface _ d => uptoBulk d + 1
  | .map entries => uptoBulkEntries entries + 1
  | .held _ => 1
def uptoBulkAll {H : Type} : List (DataW H) → Nat
  | [] => 0
  | d :: r => uptoBulk d + uptoBulkAll r
def uptoBulkEntries {H : Type} : List (Lit × DataW H) → Nat
  | [] => 0
  | x :: r => uptoBulkEntry x + uptoBulkEntries r
def uptoBulkEntry {H : Type} : Lit × DataW H → Nat
  | (.string bytes, d) => bytes.length + uptoBulk d + 1
  | (_, d) => uptoBulk d + 1
 end
def uptoSmall : (H : Type) → List (DataW H) → Bool := fun _ ds => decide (uptoBulkAll ds ≤ 1048576)
def OpenSpec.upto (s : _root_.Go.ChangeSpec) : _root_.Go.OpenSpec := { _root_.Go.OpenSpec.ofChange s with cond := some uptoSmall }

/-- 'gabionlaw01.CursorMany', WHERE WHAT IT READS IS OF BULK AT MOST 1048576: true; the input reads as it did. -/
def cursorManyUptoRow : OpenClaim := { program := "ythmhbnpaalgdfaa", sum := "f60f460f144bf6d13295985852030c071c6a208d642eefa8ed92cd37a762c970", func := "gabion/gabionlaw01.CursorMany", spec := "cursorMany", apart := false, narrowed := true }
def CursorManyUptoSaid : Prop := cursorManyUptoRow.holds Try.pinned (OpenSpec.upto cursorManySpec)

/-- 'gabionlaw01.CursorLays', WHERE WHAT IT READS IS OF BULK AT MOST 1048576: true; the input reads as it did. -/
def cursorLaysUptoRow : OpenClaim := { program := "ythmhbnpaalgdfaa", sum := "f60f460f144bf6d13295985852030c071c6a208d642eefa8ed92cd37a762c970", func := "gabion/gabionlaw01.CursorLays", spec := "cursorLays", apart := false, narrowed := true }
def CursorLaysUptoSaid : Prop := cursorLaysUptoRow.holds Try.pinned (OpenSpec.upto cursorLaysSpec)

/-- 'gabionlaw01.CursorTexts', WHERE WHAT IT READS IS OF BULK AT MOST 1048576: true; the input reads as it did. -/
def cursorTextsUptoRow : OpenClaim := { program := "ythmhbnpaalgdfaa", sum := "f60f460f144bf6d13295985852030c071c6a208d642eefa8ed92cd37a762c970", func := "gabion/gabionlaw01.CursorTexts", spec := "cursorTexts", unfollowed := true, recurses := true, apart := false, narrowed := true }
def CursorTextsUptoSaid : Prop := cursorTextsUptoRow.holds Try.pinned (OpenSpec.upto cursorTextsSpec)

/-- 'gabionlaw01.CursorPads', WHERE WHAT IT READS IS OF BULK AT MOST 1048576: true; the input reads as it did. -/
def cursorPadsUptoRow : OpenClaim := { program := "ythmhbnpaalgdfaa", sum := "f60f460f144bf6d13295985852030c071c6a208d642eefa8ed92cd37a762c970", func := "gabion/gabionlaw01.CursorPads", spec := "cursorPads", unfollowed := true, recurses := true, apart := false, narrowed := true }
def CursorPadsUptoSaid : Prop := cursorPadsUptoRow.holds Try.pinned (OpenSpec.upto cursorPadsSpec)

/-- 'gabionlaw01.CursorEnds', WHERE WHAT IT READS IS OF BULK AT MOST 1048576: true; the input reads as it did. -/
def cursorEndsUptoRow : OpenClaim := { program := "ythmhbnpaalgdfaa", sum := "f60f460f144bf6d13295985852030c071c6a208d642eefa8ed92cd37a762c970", func := "gabion/gabionlaw01.CursorEnds", spec := "cursorEnds", unfollowed := true, recurses := true, apart := false, narrowed := true }
def CursorEndsUptoSaid : Prop := cursorEndsUptoRow.holds Try.pinned (OpenSpec.upto cursorEndsSpec)

/-- 'gabionlaw01.CursorKeeps', WHERE WHAT IT READS IS OF BULK AT MOST 1048576: true; the input reads as it did. -/
def cursorKeepsUptoRow : OpenClaim := { program := "ythmhbnpaalgdfaa", sum := "f60f460f144bf6d13295985852030c071c6a208d642eefa8ed92cd37a762c970", func := "gabion/gabionlaw01.CursorKeeps", spec := "cursorKeeps", unfollowed := true, recurses := true, apart := false, narrowed := true }
def CursorKeepsUptoSaid : Prop := cursorKeepsUptoRow.holds Try.pinned (OpenSpec.upto cursorKeepsSpec)

/-- 'gabionlaw01.CursorBack', WHERE WHAT IT READS IS OF BULK AT MOST 1048576: true; the input reads as it did. -/
def cursorBackUptoRow : OpenClaim := { program := "ythmhbnpaalgdfaa", sum := "f60f460f144bf6d13295985852030c071c6a208d642eefa8ed92cd37a762c970", func := "gabion/gabionlaw01.CursorBack", spec := "cursorBack", unfollowed := true, recurses := true, apart := false, narrowed := true }
def CursorBackUptoSaid : Prop := cursorBackUptoRow.holds Try.pinned (OpenSpec.upto cursorBackSpec)

end Rows
end Go.Proofs.Ythmhbnpaalgdfaa
