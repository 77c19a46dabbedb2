import Derived.Test.YtdcelfoomjahjaaOpen
/-! A slice that came in lies in memory that was there. -/
namespace Go.Proofs.Ytdcelfoomjahjaa
open Go.RowKit Go.ChangeShapes Go.WideShapes
theorem okWide_far {P : Program} {w : World} {r : Reach} {base : Nat} {t e : TypeId} {A : Option Addr} {n c : Nat} (ht : P.underlying t = some (.slice e)) (h : Value.okWide P w r base t (.slice A n c)) : ∀ a, A = some a → a.block < w.heap.size := by
  intro a ha
  subst ha
  simp only [Value.okWide, ht, Cell.okWide, Cell.ok] at h
  obtain ⟨_, _, _, _, row, cells, hs, _⟩ := h
  unfold World.shape? at hs
  cases hh : w.heap[a.block]? with
  | none => rw [hh] at hs; cases hs
  | some o => exact (Array.getElem?_eq_some_iff.1 hh).1
theorem okWide_cap {P : Program} {w : World} {r : Reach} {base : Nat} {t e : TypeId} {A : Option Addr} {n c : Nat} (ht : P.underlying t = some (.slice e)) (h : Value.okWide P w r base t (.slice A n c)) : c ≤ 9223372036854775807 := by
  have hmax : IntKind.i64.max = 9223372036854775807 := rfl
  cases A with
  | none =>
    simp only [Value.okWide, ht, Cell.okWide] at h
    cases n <;> cases c <;> simp_all [Cell.ok]
  | some a =>
    simp only [Value.okWide, ht, Cell.okWide, Cell.ok] at h
    obtain ⟨_, h2, _⟩ := h
    rw [hmax] at h2
    omega
theorem okWide_far_in {P : Program} {w : World} {r : Reach} {base : Nat} {t u e : TypeId} {fs : Array Field} {cs : Array Value} {A : Option Addr} {i n c : Nat} (ht : P.underlying t = some (.struct fs)) (h : Value.okWide P w r base t (.agg cs)) (hv : cs[i]? = some (.slice A n c))
    (hu : (P.cellTypes P.depth t).bind (fun ts => ts[i % ts.length]?) = some u) (hs : P.underlying u = some (.slice e)) : ∀ a, A = some a → a.block < w.heap.size := by
  simp only [Value.okWide, ht] at h
  obtain ⟨cs', h1, _, ts, h2, _, h3⟩ := h
  simp only [Value.agg.injEq] at h1
  subst h1
  obtain ⟨u', h4, h5⟩ := h3 i _ hv
  rw [h2] at hu
  simp only [Option.bind_some] at hu
  rw [h4] at hu
  cases hu
  exact okWide_far (t := u) (r := r) (base := base) hs (by simp only [Value.okWide, hs]; exact h5)
end Go.Proofs.Ytdcelfoomjahjaa
