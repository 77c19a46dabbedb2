import Derived.Test.YtaomgddfkpcdhaaDoorShelf
import Derived.Test.YtaomgddfkpcdhaaDoorOrd
import Derived.Test.YtaomgddfkpcdhaaDoorWWords
import Derived.Lib.ValidLaws
import Derived.Laws.RangeAny
/-! What the memory holds of the library's own; the library's functions, by their contracts. -/
set_option linter.unusedVariables false
namespace Go.Proofs.YtaomgddfkpcdhaaDoor
open Go.RowKit Go.Proofs.YtaomgddfkpcdhaaDoorW.PrintWords Go.Shelf
/-- The decoder's two tables. -/
def GT (w : World) : Prop := Lib.Utf8Tabs (Tryd.lays196_ren.g 3) (Tryd.lays196_ren.g 4) w
theorem GT.below {w w1 : World} (h : GT w) (hb : Below w.heap.size w w1) : GT w1 :=
  Utf8Tabs_below h hb
theorem decodeL_at (s : ByteArray) (i : Nat) : Lib.decodeL (s.data.toList.drop i) = Utf8.decode s i := by
  unfold Lib.decodeL
  rw [Lib.decode_at, Lib.decode_at]
  have hg : ∀ j, (s.get! (i + j)) = (ByteArray.mk (s.data.toList.drop i).toArray).get! j := by
    intro j
    simp only [ByteArray.get!, getElem!_def]
    congr 1
    simp
  have hz : (ByteArray.mk (s.data.toList.drop i).toArray).size - 0 = s.size - i := by
    show (s.data.toList.drop i).toArray.size - 0 = s.data.size - i
    simp
  rw [hz, ← hg 0, ← hg 1, ← hg 2, ← hg 3, Nat.add_zero]
theorem valid_allF (s : ByteArray) : ∀ (k i : Nat), s.size ≤ i + k → Lib.validGoD k (s.data.toList.drop i) = allF s k i
  | 0, i, _ => rfl
  | k + 1, i, h => by
    unfold Lib.validGoD allF
    have hl : s.data.toList.length = s.size := data_length s
    have hw := Lib.width_pos s i
    by_cases hi : i < s.size
    · rw [if_pos hi, if_neg (by rw [List.drop_eq_nil_iff]; omega), decodeL_at, List.drop_drop]
      by_cases c : (Utf8.decode s i).1 = 65533 ∧ (Utf8.decode s i).2 = 1
      · rw [if_pos c]; simp [c]
      · rw [if_neg c, valid_allF s k _ (by omega)]; simp [c]
    · rw [if_neg hi, if_pos (by rw [List.drop_eq_nil_iff]; omega)]
theorem valid_eq (s : ByteArray) : Lib.validD s.data.toList = allF s s.size 0 := by
  have h := valid_allF s s.size 0 (by omega)
  rw [List.drop_zero] at h
  rw [Lib.validD, data_length, h]
theorem Valid_any (s : ByteArray) (w : World) (hs : s.size ≤ 9223372036854775807) (hg : GT w) :
    Calls Tryd.prog 22 #[.string s] w fun e w' => e = .returned (.bool (allF s s.size 0)) ∧ Below w.heap.size w w' := by
  have h := Any.utf8_ValidString Tryd.lays196 s w hs hg
  rw [valid_eq] at h
  exact h
end Go.Proofs.YtaomgddfkpcdhaaDoor
