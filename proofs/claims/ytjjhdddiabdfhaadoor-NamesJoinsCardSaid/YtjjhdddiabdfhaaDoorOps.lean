import Derived.Deep.Strs
import Derived.Test.YtjjhdddiabdfhaaDoorWWords
import Derived.Test.YtjjhdddiabdfhaaDoorProg
import Derived.OpenShut
/-! Arguments that are rows of texts, opened. -/
set_option linter.unusedVariables false
namespace Go.Proofs.YtjjhdddiabdfhaaDoor
open Go.ChangeShapes Go.WideShapes Go.Deep Go.Proofs.YtjjhdddiabdfhaaDoorW.PrintWords
theorem op_strs {H : Type} {enc : TypeId × Value → H} {P : Program} {w : World} {base : Nat} {held : Bool} {t e : TypeId} {fuel : Nat} {A : Option Addr} {n c : Nat} {x : DataW H × List MemPlace} (ht : P.underlying t = some (.slice e)) (he : P.underlying e = some .string) (hc : P.cellsOf e = 1)
    (h : DataW.trod enc P w base (fun _ => true) held fuel t [.slice A n c] = some x) : ∃ l : List ByteArray, l.length = n ∧ n ≤ c ∧ Kd.string.C w A n l := by
  rcases open_strs ht he hc h with ⟨h0, -⟩ | ⟨a, len, cap, m, Sx, h0, hb, hl, hm, hmm, -, hS⟩
  · simp only [List.cons.injEq, Value.slice.injEq, and_true] at h0
    obtain ⟨rfl, rfl, rfl⟩ := h0
    exact ⟨[], rfl, Nat.le_refl _, rfl, by omega, fun h => absurd h (by omega)⟩
  · simp only [List.cons.injEq, Value.slice.injEq, and_true] at h0
    obtain ⟨rfl, rfl, rfl⟩ := h0
    rw [if_pos rfl] at hmm
    refine ⟨(List.range n).map Sx, by simp, hl, by simp, by unfold maxLen at hm; omega, fun _ => ⟨a, rfl, fun j p hj => ?_⟩⟩
    have hjn : j < n := by
      have h1 := (List.getElem?_eq_some_iff.1 hj).1
      simpa using h1
    have hp : Sx j = p := by simpa [List.getElem?_map, List.getElem?_range hjn] using hj
    refine ⟨[.string p], rfl, rfl, fun i u hu => ?_⟩
    obtain rfl : i = 0 := by
      rcases i with _ | i
      · rfl
      · simp at hu
    obtain rfl : Value.string p = u := by simpa using hu
    show w.cell? (a.add (j * 1 + 0)) = _
    rw [Nat.mul_one, Nat.add_zero, (hS j (by omega)).1, hp]
end Go.Proofs.YtjjhdddiabdfhaaDoor
