import Derived.Test.YthmhbnpaalgdfaaOpen
import Derived.Test.YthmhbnpaalgdfaaLight
/-! A slice of items opened. -/
namespace Go.Proofs.Ythmhbnpaalgdfaa
open Go.RowKit Go.Proofs.YthmhbnpaalgdfaaW.PrintWords Go.ChangeShapes Go.WideShapes Go.Deep
section
variable {H : Type} {enc : TypeId × Value → H} {w : World} {base : Nat} {held : Bool} {fuel : Nat} {cs : List Value} {x : DataW H × List MemPlace}
theorem op_item (h : DataW.trod enc Try.prog w base (fun _ => true) held fuel 47 cs = some x) (hf : Fits Try.prog 47 x.1) :
    ∃ r : It, cs = [.int .i64 r.k, .int .u64 r.n, .slice r.A r.l.length r.c] ∧ r.l.length ≤ r.c ∧ ReadsInt w .u8 r.A r.l.length r.l ∧ Byt r.l ∧ 0 ≤ r.n ∧ r.n < 18446744073709551616 := by
  obtain ⟨hl, fl⟩ := op_struct Try.underlying47 h hf
  have hl3 : cs.length = 3 := hl.trans (show Try.prog.cellsOf 47 = 3 from by kernel_rfl)
  match cs, hl3 with
  | [c0, c1, c2], _ =>
    obtain ⟨y0, g0, t0, f0⟩ := fl 0 _ rfl
    obtain ⟨k, e0, _⟩ := op_int Try.underlying3 t0
    have q0 : List.take (Try.prog.cellsOf 3) (List.drop 0 [c0, c1, c2]) = _ := e0
    rw [show Try.prog.cellsOf 3 = 1 from by kernel_rfl] at q0
    simp at q0
    obtain ⟨y1, g1, t1, f1⟩ := fl 1 _ rfl
    obtain ⟨n, e1, w1⟩ := op_int Try.underlying37 t1
    have q1 : List.take (Try.prog.cellsOf 37) (List.drop 1 [c0, c1, c2]) = _ := e1
    rw [show Try.prog.cellsOf 37 = 1 from by kernel_rfl] at q1
    simp at q1
    obtain ⟨y2, g2, t2, f2⟩ := fl 2 _ rfl
    obtain ⟨A, c, xs, e2, h1, h2, h3, h4⟩ := op_ints Try.underlying22 Try.underlying5 (by kernel_rfl) (B := 1) (by kernel_rfl) t2 f2
    have q2 : List.take (Try.prog.cellsOf 22) (List.drop 2 [c0, c1, c2]) = _ := e2
    rw [show Try.prog.cellsOf 22 = 1 from by kernel_rfl] at q2
    simp at q2
    subst q0 q1 q2
    exact ⟨⟨k, n, A, c, xs⟩, rfl, h1, h3, fun z hz => wf_u8 (h4 z hz), (wf_u64 w1).1, (wf_u64 w1).2⟩
theorem op_its (h : DataW.trod enc Try.prog w base (fun _ => true) held fuel 43 cs = some x) (hf : Fits Try.prog 43 x.1) :
    ∃ (A : Option Addr) (c : Nat) (rs : List It), cs = [.slice A rs.length c] ∧ rs.length ≤ c ∧ RdIts w A rs := by
  obtain ⟨A, n, c, rfl, hc, hm, hb, hel⟩ := op_slice Try.underlying43 (B := 40) (by kernel_rfl) (C := 3) (by kernel_rfl) h hf
  have each : ∀ i, i < n → ∃ r : It, ∃ a, A = some a ∧ w.cell? (a.add (i * 3)) = some (.int .i64 r.k) ∧ w.cell? (a.add (i * 3 + 1)) = some (.int .u64 r.n) ∧
      w.cell? (a.add (i * 3 + 2)) = some (.slice r.A r.l.length r.c) ∧ r.l.length ≤ r.c ∧ ReadsInt w .u8 r.A r.l.length r.l ∧ Byt r.l ∧ 0 ≤ r.n ∧ r.n < 18446744073709551616 := by
    intro i hi
    obtain ⟨a, cs', y, g, hA, hl, hcell, htr, hfy⟩ := hel i hi
    obtain ⟨r, rfl, h1, h2, h3, h4, h5⟩ := op_item htr hfy
    exact ⟨r, a, hA, by simpa using hcell 0 (by omega), by simpa using hcell 1 (by omega), by simpa using hcell 2 (by omega), h1, h2, h3, h4, h5⟩
  obtain ⟨f, hfr⟩ := choose_lt each
  refine ⟨A, c, (List.range n).map f, by simp, by simpa using hc, ⟨by simp; omega, ?_⟩⟩
  intro i hi
  have hi' : i < n := by simpa using hi
  have hg : ((List.range n).map f).getD i default = f i := by simp [List.getD_eq_getElem?_getD, hi']
  rw [hg]
  exact hfr i hi'
end
end Go.Proofs.Ythmhbnpaalgdfaa
