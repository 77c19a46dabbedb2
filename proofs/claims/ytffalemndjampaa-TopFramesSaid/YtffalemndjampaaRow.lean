import Derived.Test.YtffalemndjampaaReg
/-! Rows of slices of bytes. -/
namespace Go.Proofs.Ytffalemndjampaa
open Go.RowKit Go.Proofs.YtffalemndjampaaW.PrintWords
/-- A slice of bytes as it stands in a row of slices. -/
structure Row where
  A : Option Addr
  c : Nat
  l : List Int
instance : Inhabited Row := ⟨⟨none, 0, []⟩⟩
def RdRows (w : World) (A : Option Addr) (rs : List Row) : Prop :=
  rs.length ≤ 9223372036854775807 ∧ ∀ i, i < rs.length → ∃ a, A = some a ∧ w.cell? (a.add i) = some (.slice (rs.getD i default).A (rs.getD i default).l.length (rs.getD i default).c) ∧ (rs.getD i default).l.length ≤ (rs.getD i default).c ∧
    ReadsInt w .u8 (rs.getD i default).A (rs.getD i default).l.length (rs.getD i default).l ∧ Byt (rs.getD i default).l
theorem RdRows.below {w w1 : World} {A : Option Addr} {rs : List Row} (h : RdRows w A rs) (hb : Below w.heap.size w w1) : RdRows w1 A rs :=
  ⟨h.1, fun i hi => by
    obtain ⟨a, e, hc, hl, hr, hB⟩ := h.2 i hi
    exact ⟨a, e, pw_cell_below hb hc, hl, hr.below hb, hB⟩⟩
def ll (rs : List Row) : List (List Int) := rs.map (·.l)
theorem ll_take_succ (rs : List Row) (k : Nat) (h : k < rs.length) : ll (rs.take (k + 1)) = ll (rs.take k) ++ [(rs.getD k default).l] := by
  rw [List.take_succ_eq_append_getElem h, ll, List.map_append, List.getD_eq_getElem?_getD, List.getElem?_eq_getElem h]
  rfl
end Go.Proofs.Ytffalemndjampaa
