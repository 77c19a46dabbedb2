import Derived.Test.YtkbjndfmbimjiaaMopn
import Derived.Test.YtkbjndfmbimjiaaSeal
/-! Rows that are owned: where they lie; a whole part. -/
set_option linter.unusedVariables false
set_option linter.unusedSimpArgs false
namespace Go.Proofs.Ytkbjndfmbimjiaa
open Go.RowKit Go.Proofs.YtkbjndfmbimjiaaW.PrintWords Go.Proofs.YtkbjndfmbimjiaaW.PrintLast
theorem own_some {w : World} {base n c : Nat} {e : TypeId} {xs : List Value} {A : Option Addr} {sz : Nat} (h : w.ownsRow base e sz (.slice A n c) n xs) (hn : 0 < n) : ∃ g, A = some ⟨g, 0, none⟩ ∧ base ≤ g ∧ g < w.heap.size := by
  have hlt := fun g => h.lt g
  obtain ⟨h1, h2⟩ := h
  rcases h2 with ⟨h2, h3⟩ | ⟨g, cap, cur, e, hg, r⟩
  · omega
  · injection e with e1 e2 e3
    subst e1
    exact ⟨g, rfl, hg, (hlt g rfl).2⟩
theorem New.own {w w' : World} {A : Option Addr} {n c : Nat} {xs : List Int} (h : New w w' (.slice A n c) xs) (hn : xs.length = n) : w'.ownsRow w.heap.size 5 1 (.slice A n c) n (nums .u8 xs) := by
  subst hn
  exact h.1
theorem bit_test (z k : Nat) (hz : z < 4294967296) : Go.bits .and .u32 ((z : Int) / 2 ^ k) 1 = if z.testBit k then 1 else 0 := by
  have e1 : ((z : Int) / 2 ^ k) = ((z / 2 ^ k : Nat) : Int) := by simp
  have h2 : z / 2 ^ k < 4294967296 := Nat.lt_of_le_of_lt (Nat.div_le_self _ _) hz
  rw [e1, show (1 : Int) = ((1 : Nat) : Int) from rfl, u32_and_nat _ 1 h2 (by decide), nat_mask1, Nat.testBit_eq_decide_div_mod_eq]
  rcases Nat.mod_two_eq_zero_or_one (z / 2 ^ k) with e | e <;> simp [e]
theorem flip_val (y : Int) (s : Nat) (hs : s < 8) (h0 : 0 ≤ y) (h1 : y < 256) : Go.bits .xor .u8 y (2 ^ s % 256) = ((y.toNat ^^^ 2 ^ s : Nat) : Int) := by
  have h2 : ((2 : Int) ^ s % 256).toNat = 2 ^ s ∧ 0 ≤ (2 : Int) ^ s % 256 ∧ (2 : Int) ^ s % 256 < 256 := by
    have h3 : s = 0 ∨ s = 1 ∨ s = 2 ∨ s = 3 ∨ s = 4 ∨ s = 5 ∨ s = 6 ∨ s = 7 := by omega
    rcases h3 with rfl | rfl | rfl | rfl | rfl | rfl | rfl | rfl <;> decide
  rw [u8_xor y _ h0 h1 h2.2.1 h2.2.2, h2.1]
theorem modU (q m : Int) (h0 : 0 < m) (h1 : m ≤ 9223372036854775807) : ∃ p : Nat, wrap64 ((IntKind.u64.wrap q).tmod m) = (p : Int) ∧ (p : Int) < m := by
  have hw : 0 ≤ IntKind.u64.wrap q := by rw [IntKind.wrap_u64]; omega
  have h2 := Int.emod_nonneg (IntKind.u64.wrap q) (show m ≠ 0 by omega)
  have h3 := Int.emod_lt_of_pos (IntKind.u64.wrap q) h0
  rw [Int.tmod_eq_emod_of_nonneg hw]
  refine ⟨(IntKind.u64.wrap q % m).toNat, ?_, by omega⟩
  unfold wrap64
  omega
theorem rPart_whole (xs : List Int) (A : Option Addr) (c n : Nat) (w : World) (hr : ReadsInt w .u8 A n xs) (hc : n ≤ c) (hl : n ≤ 1099511627776) :
    Calls Try.prog 31 #[.slice A n c, .int .i64 0, .int .i64 (n : Int)] w fun e w' => ∃ A' c', e = .returned (.slice A' n c') ∧ n ≤ c' ∧ w'.ownsRow w.heap.size 5 1 (.slice A' n c') n (nums .u8 xs) ∧ Below w.heap.size w w' := by
  have e1 := hr.1
  subst e1
  refine (rPart_any xs A c 0 (xs.length : Int) w hr hc (by omega) (by omega) (by omega) hl).mono ?_
  have e2 : (xs.take (0 + (xs.length : Int)).toNat).drop (0 : Int).toNat = xs := by
    rw [Int.zero_add, Int.toNat_natCast, List.take_length]
    rfl
  rw [e2]
  rintro e w' ⟨v, rfl, hn⟩
  obtain ⟨A', c', rfl, hc'⟩ := hn.shape xs.length rfl
  exact ⟨A', c', rfl, hc', hn.own rfl, hn.bel⟩
theorem far7 {w : World} {g b : Nat} {cs : Array Value} {t : TypeId} (h : w.heap[b]? = some (.cells cs t (0, 0))) (hg : b ≠ g) (v0 v1 v2 v3 v4 v5 v6 : Value) : (((((((w.setCell ⟨g, 0, none⟩ v0).setCell ⟨g, 1, none⟩ v1).setCell ⟨g, 2, none⟩ v2).setCell ⟨g, 3, none⟩ v3).setCell ⟨g, 4, none⟩ v4).setCell ⟨g, 5, none⟩ v5).setCell ⟨g, 6, none⟩ v6).heap[b]? = some (.cells cs t (0, 0)) := by
  have h0 := blk_far h (p := ⟨g, 0, none⟩) hg v0
  have h1 := blk_far h0 (p := ⟨g, 1, none⟩) hg v1
  have h2 := blk_far h1 (p := ⟨g, 2, none⟩) hg v2
  have h3 := blk_far h2 (p := ⟨g, 3, none⟩) hg v3
  have h4 := blk_far h3 (p := ⟨g, 4, none⟩) hg v4
  have h5 := blk_far h4 (p := ⟨g, 5, none⟩) hg v5
  exact blk_far h5 (p := ⟨g, 6, none⟩) hg v6
end Go.Proofs.Ytkbjndfmbimjiaa
