import Derived.Test.YtkmfdnoklabndaaMods
import Derived.WalkSpells
/-! The reader, further: U64, Raw, Text, Left, Zero. -/
set_option linter.unusedVariables false
set_option linter.unusedSimpArgs false
namespace Go.Proofs.Ytkmfdnoklabndaa
open Go.RowKit Go.Proofs.YtkmfdnoklabndaaW.PrintWords
theorem RdV.mods {w : World} {p m c : Nat} {A : Option Addr} {k : Int} (h : RdV w p A m c k) (q : Nat) (x : Int) : RdV ((w.drewN q).setCell ⟨p, 1, none⟩ (.int .i64 x)) p A m c x := blk_put (blk_drewN h q) 1 _ (by simp)
end Go.Proofs.Ytkmfdnoklabndaa
