import Derived.Test.YtffalemndjampaaOpen
import Derived.Test.YtffalemndjampaaRow
/-! A slice of slices of bytes opened. -/
namespace Go.Proofs.Ytffalemndjampaa
open Go.RowKit Go.Proofs.YtffalemndjampaaW.PrintWords Go.ChangeShapes Go.WideShapes Go.Deep
section
variable {H : Type} {enc : TypeId × Value → H} {P : Program} {w : World} {base : Nat} {held : Bool} {fuel : Nat} {t e q : TypeId} {cs : List Value} {x : DataW H × List MemPlace}
theorem op_rows (ht : P.underlying t = some (.slice e)) (he : P.underlying e = some (.slice q)) (hq : P.underlying q = some (.int .u8)) (hce : P.cellsOf e = 1) (hcq : P.cellsOf q = 1) (hbe : P.bytesOf e = 24) (hbq : P.bytesOf q = 1)
    (h : DataW.trod enc P w base (fun _ => true) held fuel t cs = some x) (hf : Fits P t x.1) :
    ∃ (A : Option Addr) (c : Nat) (rs : List Row), cs = [.slice A rs.length c] ∧ rs.length ≤ c ∧ rs.length * 24 ≤ 140737488351232 ∧ RdRows w A rs ∧ ∀ r ∈ rs, r.l.length ≤ 140737488351232 := by
  obtain ⟨A, n, c, rfl, hc, hm, hb, hel⟩ := op_slice ht hbe hce h hf
  have each : ∀ i, i < n → ∃ r : Row, ∃ a, A = some a ∧ w.cell? (a.add i) = some (.slice r.A r.l.length r.c) ∧ r.l.length ≤ r.c ∧ r.l.length ≤ 140737488351232 ∧ ReadsInt w .u8 r.A r.l.length r.l ∧ Byt r.l := by
    intro i hi
    obtain ⟨a, cs', y, g, hA, hl, hcell, htr, hfy⟩ := hel i hi
    obtain ⟨B, d, xs, rfl, h1, h2, h3, h4⟩ := op_ints he hq hcq hbq htr hfy
    refine ⟨⟨B, d, xs⟩, a, hA, ?_, h1, by simpa using h2, h3, fun z hz => wf_u8 (h4 z hz)⟩
    have := hcell 0 (by omega)
    simpa using this
  obtain ⟨f, hfr⟩ := choose_lt each
  refine ⟨A, c, (List.range n).map f, by simp, by simpa using hc, by simpa using hb, ⟨by simpa using hm, ?_⟩, ?_⟩
  · intro i hi
    have hi' : i < n := by simpa using hi
    obtain ⟨a, hA, h1, h2, _, h4, h5⟩ := hfr i hi'
    have hg : ((List.range n).map f).getD i default = f i := by simp [List.getD_eq_getElem?_getD, hi']
    rw [hg]
    exact ⟨a, hA, h1, h2, h4, h5⟩
  · intro r hr
    simp only [List.mem_map, List.mem_range] at hr
    obtain ⟨i, hi, rfl⟩ := hr
    obtain ⟨_, _, _, _, h3, _, _⟩ := hfr i hi
    exact h3
end
end Go.Proofs.Ytffalemndjampaa
