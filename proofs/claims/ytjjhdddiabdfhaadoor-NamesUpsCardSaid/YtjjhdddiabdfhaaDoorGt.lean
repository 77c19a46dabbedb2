import Derived.Test.YtjjhdddiabdfhaaDoorShelf
import Derived.Test.YtjjhdddiabdfhaaDoorOrd
import Derived.Test.YtjjhdddiabdfhaaDoorWWords
import Derived.Lib.SplitLaws
import Derived.Lib.ValidLaws
import Derived.Laws.RangeAny
import Derived.Lib.IndexBytes
/-! What the memory holds of the library's own; the library's functions, by their contracts. -/
set_option linter.unusedVariables false
namespace Go.Proofs.YtjjhdddiabdfhaaDoor
open Go.RowKit Go.Proofs.YtjjhdddiabdfhaaDoorW.PrintWords Go.Shelf
/-- The decoder's two tables; the one number that strings.Split reads. -/
def GT (w : World) : Prop := Lib.Utf8Tabs (Tryd.lays196_ren.g 3) (Tryd.lays196_ren.g 4) w ∧ ∃ m, w.cell? ⟨Tryd.lays146_ren.g 1, 0, none⟩ = some (.int .i64 m)
theorem GT.below {w w1 : World} (h : GT w) (hb : Below w.heap.size w w1) : GT w1 :=
  ⟨Utf8Tabs_below h.1 hb, by obtain ⟨m, hm⟩ := h.2; exact ⟨m, pw_cell_below hb hm⟩⟩
theorem decodeL_at (s : ByteArray) (i : Nat) : Lib.decodeL (s.data.toList.drop i) = Utf8.decode s i := by
  unfold Lib.decodeL
  rw [Lib.decode_at, Lib.decode_at]
  have hg : ∀ j, (s.get! (i + j)) = (ByteArray.mk (s.data.toList.drop i).toArray).get! j := by
    intro j
    simp only [ByteArray.get!, getElem!_def]
    congr 1
    simp
  have hz : (ByteArray.mk (s.data.toList.drop i).toArray).size - 0 = s.size - i := by
    show (s.data.toList.drop i).toArray.size - 0 = s.data.size - i
    simp
  rw [hz, ← hg 0, ← hg 1, ← hg 2, ← hg 3, Nat.add_zero]
theorem valid_allF (s : ByteArray) : ∀ (k i : Nat), s.size ≤ i + k → Lib.validGoD k (s.data.toList.drop i) = allF s k i
  | 0, i, _ => rfl
  | k + 1, i, h => by
    unfold Lib.validGoD allF
    have hl : s.data.toList.length = s.size := data_length s
    have hw := Lib.width_pos s i
    by_cases hi : i < s.size
    · rw [if_pos hi, if_neg (by rw [List.drop_eq_nil_iff]; omega), decodeL_at, List.drop_drop]
      by_cases c : (Utf8.decode s i).1 = 65533 ∧ (Utf8.decode s i).2 = 1
      · rw [if_pos c]; simp [c]
      · rw [if_neg c, valid_allF s k _ (by omega)]; simp [c]
    · rw [if_neg hi, if_pos (by rw [List.drop_eq_nil_iff]; omega)]
theorem valid_eq (s : ByteArray) : Lib.validD s.data.toList = allF s s.size 0 := by
  have h := valid_allF s s.size 0 (by omega)
  rw [List.drop_zero] at h
  rw [Lib.validD, data_length, h]
theorem Valid_any (s : ByteArray) (w : World) (hs : s.size ≤ 9223372036854775807) (hg : GT w) :
    Calls Tryd.prog 28 #[.string s] w fun e w' => e = .returned (.bool (allF s s.size 0)) ∧ Below w.heap.size w w' := by
  have h := Any.utf8_ValidString Tryd.lays196 s w hs hg.1
  rw [valid_eq] at h
  exact h
/-- A path's parts. -/
def pieces (s : ByteArray) : List ByteArray := Lib.splitB ⟨#[47]⟩ 0 (Lib.countB s ⟨#[47]⟩) s
theorem pieces_length (s : ByteArray) : (pieces s).length = Lib.countB s ⟨#[47]⟩ + 1 := Lib.splitB_all ⟨#[47]⟩ (by decide) 0 _ s rfl
theorem pieces_le (s : ByteArray) : (pieces s).length ≤ s.size + 1 := by
  rw [pieces_length]
  have h := Lib.countB_le ⟨#[47]⟩ (by decide) s.size s (Nat.le_refl _)
  omega
theorem LSplit_any (s : ByteArray) (w : World) (hs : s.size < 4294967281) (hg : GT w) :
    Calls Tryd.prog 29 #[.string s, .string ⟨#[47]⟩] w fun e w' => e = .returned (.slice (some ⟨w.heap.size, 0, none⟩) (pieces s).length (pieces s).length) ∧ w' = w.alloc (.cells ((pieces s).map Value.string).toArray 9) := by
  obtain ⟨m, hm⟩ := hg.2
  have h := Any.strings_Split Tryd.lays146 (by kernel_rfl) s ⟨#[47]⟩ m w hs hm (by decide)
  rw [pieces_length]
  exact h
/-- Texts joined by strokes. -/
def joinS (l : List ByteArray) : ByteArray := ⟨(Lib.join (l.map (·.data.toList)) [47]).toArray⟩
theorem LJoin_any (xs : List ByteArray) (A : Option Addr) (c : Nat) (w : World) (hr : Kd.C Kd.string w A xs.length xs) (hc : xs.length ≤ c) (hl : (joinS xs).size ≤ 140737488355328) (hn : xs.length ≤ 140737488355328) (hsp : ∀ a, A = some a → 0 < xs.length → a.spot = none) :
    Calls Tryd.prog 32 #[.slice A xs.length c, .string ⟨#[47]⟩] w fun e w' => e = .returned (.string (joinS xs)) ∧ Below w.heap.size w w' := by
  rcases Nat.eq_zero_or_pos xs.length with h0 | h0
  · have hx : xs = [] := List.eq_nil_of_length_eq_zero h0
    subst hx
    refine (Any.strings_Join_none Tryd.lays156 Tryd.Builder_Extra_156 A c ⟨#[47]⟩ w).mono ?_
    rintro e w' ⟨rfl, rfl⟩
    exact ⟨rfl, Below.refl _ _⟩
  · obtain ⟨ad, hA, hcell⟩ := hr.2.2 h0
    subst hA
    obtain ⟨b, o, sp⟩ := ad
    have hs0 : sp = none := hsp _ rfl h0
    subst hs0
    have hcl : ∀ (j : Nat) x, xs[j]? = some x → w.cell? ⟨b, o + j, none⟩ = some (.string x) := by
      intro j x hj
      obtain ⟨cs, h1, h2, h3⟩ := hcell j x hj
      obtain rfl : cs = [.string x] := h2
      have h4 := h3 0 (.string x) rfl
      have e : (⟨b, o, none⟩ : Addr).add (j * Kd.string.sz + 0) = ⟨b, o + j, none⟩ := by
        show (⟨b, o, none⟩ : Addr).add (j * 1 + 0) = _
        rw [Nat.mul_one, Nat.add_zero]
        unfold Addr.add
        split <;> simp_all
      rw [e] at h4
      exact h4
    refine (Any.strings_Join Tryd.lays156 Tryd.Builder_Extra_156 b o c xs ⟨#[47]⟩ w hcl (World.block_lt_of_cell? w _ (hcl 0 _ (List.getElem?_eq_getElem h0))) hn hc ?_).mono ?_
    · have h_ := hl
      simpa [joinS, ByteArray.size] using h_
    · rintro e w' ⟨rfl, hb⟩
      exact ⟨rfl, hb⟩
/-- A path's names, one part after the other. -/
def walkS : List ByteArray → List ByteArray → List ByteArray × Int
  | [], out => if 12 < out.length then ([], 36) else (out, 0)
  | p :: ps, out =>
    if p.toList = [] ∨ p.toList = [46] then walkS ps out
    else if p.toList = [46, 46] then walkS ps (out.take (out.length - 1))
    else if chkS p ≠ 0 then ([], chkS p)
    else walkS ps (out ++ [p])
def splitS (s : ByteArray) : List ByteArray × Int :=
  if s.toList = [] then ([], 22) else if bt s 0 ≠ 47 then ([], 22) else if 200 < s.size then ([], 36) else walkS (pieces s) []
end Go.Proofs.YtjjhdddiabdfhaaDoor
