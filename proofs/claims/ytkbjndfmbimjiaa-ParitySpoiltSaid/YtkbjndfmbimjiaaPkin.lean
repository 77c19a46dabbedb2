import Derived.Test.YtkbjndfmbimjiaaMpar
import Derived.Test.YtkbjndfmbimjiaaRref9
/-! Kinds of headers (the parity laws). -/
set_option linter.unusedVariables false
set_option linter.unusedSimpArgs false
namespace Go.Proofs.Ytkbjndfmbimjiaa
open Go.RowKit Go.Proofs.YtkbjndfmbimjiaaW.PrintWords Go.Proofs.YtkbjndfmbimjiaaW.PrintLast
theorem kind_mod {k : Int} (h0 : 0 ≤ k) (h1 : k < 256) : IntKind.u8.wrap (1 + Int.tmod k 6) = 1 + k % 6 := by
  rw [Int.tmod_eq_emod_of_nonneg h0]; simp only [IntKind.wrap_u8]; omega
/-- A header's kind made one of the six. -/
def kindH (h : Hd) : Hd := { h with k := 1 + h.k % 6 }
theorem kindH_ok {h : Hd} (ho : h.ok) : (kindH h).ok := ⟨by simp only [kindH]; omega, by simp only [kindH]; omega, ho.e0, ho.e1, ho.b0, ho.b1, ho.i0, ho.i1, ho.c0, ho.c1, ho.l0, ho.l1, ho.m0, ho.m1⟩
theorem kindH_six (h : Hd) : kindB (kindH h) = true := by
  have h1 : 1 ≤ 1 + h.k % 6 := by omega
  have h2 : 1 + h.k % 6 ≤ 6 := by omega
  simp [kindB, kindH, h1, h2]
/-- A header with the parity page's kind. -/
def parH (x : Hd) : Hd := { x with k := 5 }
theorem parH_ok {x : Hd} (ho : x.ok) : (parH x).ok := ⟨by simp [parH], by simp [parH], ho.e0, ho.e1, ho.b0, ho.b1, ho.i0, ho.i1, ho.c0, ho.c1, ho.l0, ho.l1, ho.m0, ho.m1⟩
end Go.Proofs.Ytkbjndfmbimjiaa
