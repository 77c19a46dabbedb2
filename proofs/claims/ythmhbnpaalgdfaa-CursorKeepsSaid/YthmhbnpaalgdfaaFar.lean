import Derived.Test.YthmhbnpaalgdfaaOpen
/-! A slice that came in lies in memory that was there. -/
namespace Go.Proofs.Ythmhbnpaalgdfaa
open Go.RowKit Go.ChangeShapes Go.WideShapes
theorem okWide_far {P : Program} {w : World} {r : Reach} {base : Nat} {t e : TypeId} {A : Option Addr} {n c : Nat} (ht : P.underlying t = some (.slice e)) (h : Value.okWide P w r base t (.slice A n c)) : ∀ a, A = some a → a.block < w.heap.size := by
  intro a ha
  subst ha
  simp only [Value.okWide, ht, Cell.okWide, Cell.ok] at h
  obtain ⟨_, _, _, _, row, cells, hs, _⟩ := h
  unfold World.shape? at hs
  cases hh : w.heap[a.block]? with
  | none => rw [hh] at hs; cases hs
  | some o => exact (Array.getElem?_eq_some_iff.1 hh).1
theorem okWide_cap {P : Program} {w : World} {r : Reach} {base : Nat} {t e : TypeId} {A : Option Addr} {n c : Nat} (ht : P.underlying t = some (.slice e)) (h : Value.okWide P w r base t (.slice A n c)) : c ≤ 9223372036854775807 := by
  have hmax : IntKind.i64.max = 9223372036854775807 := rfl
  cases A with
  | none =>
    simp only [Value.okWide, ht, Cell.okWide] at h
    cases n <;> cases c <;> simp_all [Cell.ok]
  | some a =>
    simp only [Value.okWide, ht, Cell.okWide, Cell.ok] at h
    obtain ⟨_, h2, _⟩ := h
    rw [hmax] at h2
    omega
end Go.Proofs.Ythmhbnpaalgdfaa
