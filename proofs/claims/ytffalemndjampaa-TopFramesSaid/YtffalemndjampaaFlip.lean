import Derived.Test.YtffalemndjampaaRdm
import Derived.Test.YtffalemndjampaaFar2
import Derived.Test.YtffalemndjampaaSum
/-! Bits turned; frames laid one behind the other: plain. -/
set_option linter.unusedVariables false
set_option linter.unusedSimpArgs false
namespace Go.Proofs.Ytffalemndjampaa
open Go.RowKit Go.Proofs.YtffalemndjampaaW.PrintWords Go.Proofs.YtffalemndjampaaW.PrintLast
theorem own_some {w : World} {base n c : Nat} {e : TypeId} {xs : List Value} {A : Option Addr} {sz : Nat} (h : w.ownsRow base e sz (.slice A n c) n xs) (hn : 0 < n) : ∃ g, A = some ⟨g, 0, none⟩ ∧ base ≤ g ∧ g < w.heap.size := by
  have hlt := fun g => h.lt g
  obtain ⟨h1, h2⟩ := h
  rcases h2 with ⟨h2, h3⟩ | ⟨g, cap, cur, e, hg, r⟩
  · omega
  · injection e with e1 e2 e3
    subst e1
    exact ⟨g, rfl, hg, (hlt g rfl).2⟩
theorem bit_test (z k : Nat) (hz : z < 4294967296) : Go.bits .and .u32 ((z : Int) / 2 ^ k) 1 = if z.testBit k then 1 else 0 := by
  have e1 : ((z : Int) / 2 ^ k) = ((z / 2 ^ k : Nat) : Int) := by simp
  have h2 : z / 2 ^ k < 4294967296 := Nat.lt_of_le_of_lt (Nat.div_le_self _ _) hz
  rw [e1, show (1 : Int) = ((1 : Nat) : Int) from rfl, u32_and_nat _ 1 h2 (by decide), nat_mask1, Nat.testBit_eq_decide_div_mod_eq]
  rcases Nat.mod_two_eq_zero_or_one (z / 2 ^ k) with e | e <;> simp [e]
theorem flip_val (y : Int) (s : Nat) (hs : s < 8) (h0 : 0 ≤ y) (h1 : y < 256) : Go.bits .xor .u8 y (2 ^ s % 256) = ((y.toNat ^^^ 2 ^ s : Nat) : Int) := by
  have h2 : ((2 : Int) ^ s % 256).toNat = 2 ^ s ∧ 0 ≤ (2 : Int) ^ s % 256 ∧ (2 : Int) ^ s % 256 < 256 := by
    have h3 : s = 0 ∨ s = 1 ∨ s = 2 ∨ s = 3 ∨ s = 4 ∨ s = 5 ∨ s = 6 ∨ s = 7 := by omega
    rcases h3 with rfl | rfl | rfl | rfl | rfl | rfl | rfl | rfl <;> decide
  rw [u8_xor y _ h0 h1 h2.2.1 h2.2.2, h2.1]
theorem modU (q m : Int) (h0 : 0 < m) (h1 : m ≤ 9223372036854775807) : ∃ p : Nat, wrap64 ((IntKind.u64.wrap q).tmod m) = (p : Int) ∧ (p : Int) < m := by
  have hw : 0 ≤ IntKind.u64.wrap q := by rw [IntKind.wrap_u64]; omega
  have h2 := Int.emod_nonneg (IntKind.u64.wrap q) (show m ≠ 0 by omega)
  have h3 := Int.emod_lt_of_pos (IntKind.u64.wrap q) h0
  rw [Int.tmod_eq_emod_of_nonneg hw]
  refine ⟨(IntKind.u64.wrap q % m).toNat, ?_, by omega⟩
  unfold wrap64
  omega
def frameL (p : List Int) : List Int := le (p.length : Int) 4 ++ (le (crcOf p) 4 ++ p)
def framesL (ps : List (List Int)) : List Int := (ps.map frameL).flatten
theorem frameL_length (p : List Int) : (frameL p).length = 8 + p.length := by simp [frameL, le_length]; omega
theorem framesL_succ {ps : List (List Int)} {j : Nat} (h : j < ps.length) : framesL (ps.take (j + 1)) = framesL (ps.take j) ++ frameL (ps.getD j []) := by
  rw [List.take_succ_eq_append_getElem h, framesL, framesL, List.map_append, List.flatten_append, List.getD_eq_getElem?_getD, List.getElem?_eq_getElem h]
  simp
theorem framesL_split {ps : List (List Int)} {j : Nat} (h : j < ps.length) : framesL ps = framesL (ps.take j) ++ (frameL (ps.getD j []) ++ framesL (ps.drop (j + 1))) := by
  conv => lhs; rw [← List.take_append_drop (j + 1) ps]
  rw [framesL, List.map_append, List.flatten_append, ← framesL, framesL_succ h, List.append_assoc]
  rfl
theorem frames_read {ps : List (List Int)} {j a : Nat} (h : j < ps.length) (ha : a = (framesL (ps.take j)).length) (hl : (ps.getD j []).length < 4294967296) :
    num (((framesL ps).drop a).take 4) = ((ps.getD j []).length : Int) ∧ num (((framesL ps).drop (a + 4)).take 4) = crcOf (ps.getD j []) ∧ ((framesL ps).drop (a + 4 + 4)).take (ps.getD j []).length = ps.getD j [] ∧
    (framesL (ps.take (j + 1))).length = a + 4 + 4 + (ps.getD j []).length ∧ a + 4 + 4 + (ps.getD j []).length ≤ (framesL ps).length := by
  have hb := crcOf_bound (ps.getD j [])
  have e := framesL_split h
  have e1 : (framesL ps).drop a = le ((ps.getD j []).length : Int) 4 ++ (le (crcOf (ps.getD j [])) 4 ++ (ps.getD j [] ++ framesL (ps.drop (j + 1)))) := by
    rw [e, List.drop_left' ha.symm, frameL]
    simp [List.append_assoc]
  have e2 : (framesL ps).drop (a + 4) = le (crcOf (ps.getD j [])) 4 ++ (ps.getD j [] ++ framesL (ps.drop (j + 1))) := by
    rw [← List.drop_drop, e1, List.drop_left' (le_length _ _)]
  have e3 : (framesL ps).drop (a + 4 + 4) = ps.getD j [] ++ framesL (ps.drop (j + 1)) := by
    rw [← List.drop_drop, e2, List.drop_left' (le_length _ _)]
  refine ⟨?_, ?_, ?_, ?_, ?_⟩
  · rw [e1, List.take_left' (le_length _ _), num_le _ _ (by omega) (by omega)]
  · rw [e2, List.take_left' (le_length _ _), num_le _ _ (by omega) (by omega)]
  · rw [e3, List.take_left' rfl]
  · rw [framesL_succ h, List.length_append, frameL_length, ← ha]; omega
  · rw [e, List.length_append, List.length_append, frameL_length, ← ha]; omega
theorem framesL_byt {ps : List (List Int)} (h : ∀ p ∈ ps, Byt p) : Byt (framesL ps) := by
  intro x hx
  simp only [framesL, List.mem_flatten, List.mem_map] at hx
  obtain ⟨l, ⟨p, hp, rfl⟩, hx⟩ := hx
  simp only [frameL, List.mem_append] at hx
  rcases hx with hx | hx | hx
  · exact le_byt _ _ x hx
  · exact le_byt _ _ x hx
  · exact h p hp x hx
end Go.Proofs.Ytffalemndjampaa
