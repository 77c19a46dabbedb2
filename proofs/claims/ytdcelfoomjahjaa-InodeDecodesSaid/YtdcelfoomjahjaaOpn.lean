import Derived.Test.YtdcelfoomjahjaaOpen
import Derived.Test.YtdcelfoomjahjaaIlaw
/-! An inode's cells opened. -/
set_option linter.unusedVariables false
namespace Go.Proofs.Ytdcelfoomjahjaa
open Go.RowKit Go.Proofs.YtdcelfoomjahjaaW.PrintWords Go.ChangeShapes Go.WideShapes Go.Deep
section
variable {H : Type} {enc : TypeId × Value → H} {w : World} {base : Nat} {held : Bool} {fuel : Nat} {cs : List Value} {x : DataW H × List MemPlace}
set_option maxHeartbeats 1000000 in
theorem op_ino (h : DataW.trod enc Try.prog w base (fun _ => true) held fuel 48 cs = some x) (hf : Fits Try.prog 48 x.1) :
    ∃ (k l s : Int) (d : Nat → Int) (a b : Int), cs = (decA k l s d a b).toList ∧ (0 ≤ k ∧ k < 256) ∧ (0 ≤ l ∧ l < 65536) ∧ (0 ≤ s ∧ s < 4294967296) ∧ (∀ j, 0 ≤ d j ∧ d j < 4294967296) ∧ (0 ≤ a ∧ a < 4294967296) ∧ (0 ≤ b ∧ b < 4294967296) := by
  obtain ⟨hl, fl⟩ := op_struct Try.underlying48 h hf
  have hl3 : cs.length = 13 := hl.trans (show Try.prog.cellsOf 48 = 13 from by kernel_rfl)
  match cs, hl3 with
  | [c0, c1, c2, c3, c4, c5, c6, c7, c8, c9, c10, c11, c12], _ =>
    have u8 : Try.prog.cellsOf 5 = 1 := by kernel_rfl
    have u16 : Try.prog.cellsOf 45 = 1 := by kernel_rfl
    have u32 : Try.prog.cellsOf 35 = 1 := by kernel_rfl
    have u8s : Try.prog.cellsOf 46 = 8 := by kernel_rfl
    obtain ⟨y0, g0, t0, f0⟩ := fl 0 _ rfl
    obtain ⟨k, e0, w0⟩ := op_int Try.underlying5 t0
    have q0 : List.take (Try.prog.cellsOf 5) (List.drop 0 [c0, c1, c2, c3, c4, c5, c6, c7, c8, c9, c10, c11, c12]) = _ := e0
    rw [u8] at q0
    simp at q0
    obtain ⟨y1, g1, t1, f1⟩ := fl 1 _ rfl
    obtain ⟨l, e1, w1⟩ := op_int Try.underlying45 t1
    have q1 : List.take (Try.prog.cellsOf 45) (List.drop 1 [c0, c1, c2, c3, c4, c5, c6, c7, c8, c9, c10, c11, c12]) = _ := e1
    rw [u16] at q1
    simp at q1
    obtain ⟨y2, g2, t2, f2⟩ := fl 2 _ rfl
    obtain ⟨s, e2, w2⟩ := op_int Try.underlying35 t2
    have q2 : List.take (Try.prog.cellsOf 35) (List.drop 2 [c0, c1, c2, c3, c4, c5, c6, c7, c8, c9, c10, c11, c12]) = _ := e2
    rw [u32] at q2
    simp at q2
    obtain ⟨y3, g3, t3, f3⟩ := fl 3 _ rfl
    obtain ⟨ys, m3, _, _, _, hys, ha⟩ := DataW.trod_array Try.underlying46 t3
    have a0 := ha 0 (by omega)
    rw [List.getElem?_eq_getElem (by omega)] at a0
    obtain ⟨n0, r0, v0⟩ := op_int Try.underlying35 a0
    have p0 : List.take (Try.prog.cellsOf 35) (List.drop (0 * Try.prog.cellsOf 35) (List.take (Try.prog.cellsOf 46) (List.drop 3 [c0, c1, c2, c3, c4, c5, c6, c7, c8, c9, c10, c11, c12]))) = _ := r0
    rw [u32, u8s] at p0
    simp at p0
    have a1 := ha 1 (by omega)
    rw [List.getElem?_eq_getElem (by omega)] at a1
    obtain ⟨n1, r1, v1⟩ := op_int Try.underlying35 a1
    have p1 : List.take (Try.prog.cellsOf 35) (List.drop (1 * Try.prog.cellsOf 35) (List.take (Try.prog.cellsOf 46) (List.drop 3 [c0, c1, c2, c3, c4, c5, c6, c7, c8, c9, c10, c11, c12]))) = _ := r1
    rw [u32, u8s] at p1
    simp at p1
    have a2 := ha 2 (by omega)
    rw [List.getElem?_eq_getElem (by omega)] at a2
    obtain ⟨n2, r2, v2⟩ := op_int Try.underlying35 a2
    have p2 : List.take (Try.prog.cellsOf 35) (List.drop (2 * Try.prog.cellsOf 35) (List.take (Try.prog.cellsOf 46) (List.drop 3 [c0, c1, c2, c3, c4, c5, c6, c7, c8, c9, c10, c11, c12]))) = _ := r2
    rw [u32, u8s] at p2
    simp at p2
    have a3 := ha 3 (by omega)
    rw [List.getElem?_eq_getElem (by omega)] at a3
    obtain ⟨n3, r3, v3⟩ := op_int Try.underlying35 a3
    have p3 : List.take (Try.prog.cellsOf 35) (List.drop (3 * Try.prog.cellsOf 35) (List.take (Try.prog.cellsOf 46) (List.drop 3 [c0, c1, c2, c3, c4, c5, c6, c7, c8, c9, c10, c11, c12]))) = _ := r3
    rw [u32, u8s] at p3
    simp at p3
    have a4 := ha 4 (by omega)
    rw [List.getElem?_eq_getElem (by omega)] at a4
    obtain ⟨n4, r4, v4⟩ := op_int Try.underlying35 a4
    have p4 : List.take (Try.prog.cellsOf 35) (List.drop (4 * Try.prog.cellsOf 35) (List.take (Try.prog.cellsOf 46) (List.drop 3 [c0, c1, c2, c3, c4, c5, c6, c7, c8, c9, c10, c11, c12]))) = _ := r4
    rw [u32, u8s] at p4
    simp at p4
    have a5 := ha 5 (by omega)
    rw [List.getElem?_eq_getElem (by omega)] at a5
    obtain ⟨n5, r5, v5⟩ := op_int Try.underlying35 a5
    have p5 : List.take (Try.prog.cellsOf 35) (List.drop (5 * Try.prog.cellsOf 35) (List.take (Try.prog.cellsOf 46) (List.drop 3 [c0, c1, c2, c3, c4, c5, c6, c7, c8, c9, c10, c11, c12]))) = _ := r5
    rw [u32, u8s] at p5
    simp at p5
    have a6 := ha 6 (by omega)
    rw [List.getElem?_eq_getElem (by omega)] at a6
    obtain ⟨n6, r6, v6⟩ := op_int Try.underlying35 a6
    have p6 : List.take (Try.prog.cellsOf 35) (List.drop (6 * Try.prog.cellsOf 35) (List.take (Try.prog.cellsOf 46) (List.drop 3 [c0, c1, c2, c3, c4, c5, c6, c7, c8, c9, c10, c11, c12]))) = _ := r6
    rw [u32, u8s] at p6
    simp at p6
    have a7 := ha 7 (by omega)
    rw [List.getElem?_eq_getElem (by omega)] at a7
    obtain ⟨n7, r7, v7⟩ := op_int Try.underlying35 a7
    have p7 : List.take (Try.prog.cellsOf 35) (List.drop (7 * Try.prog.cellsOf 35) (List.take (Try.prog.cellsOf 46) (List.drop 3 [c0, c1, c2, c3, c4, c5, c6, c7, c8, c9, c10, c11, c12]))) = _ := r7
    rw [u32, u8s] at p7
    simp at p7
    obtain ⟨y4, g4, t4, f4⟩ := fl 4 _ rfl
    obtain ⟨a, e4, w4⟩ := op_int Try.underlying35 t4
    have q4 : List.take (Try.prog.cellsOf 35) (List.drop 11 [c0, c1, c2, c3, c4, c5, c6, c7, c8, c9, c10, c11, c12]) = _ := e4
    rw [u32] at q4
    simp at q4
    obtain ⟨y5, g5, t5, f5⟩ := fl 5 _ rfl
    obtain ⟨b, e5, w5⟩ := op_int Try.underlying35 t5
    have q5 : List.take (Try.prog.cellsOf 35) (List.drop 12 [c0, c1, c2, c3, c4, c5, c6, c7, c8, c9, c10, c11, c12]) = _ := e5
    rw [u32] at q5
    simp at q5
    subst q0 q1 q2 q4 q5 p0 p1 p2 p3 p4 p5 p6 p7
    refine ⟨k, l, s, fun j => [n0, n1, n2, n3, n4, n5, n6, n7].getD j 0, a, b, rfl, wf_u8 w0, wf_u16 w1, wf_u32 w2, fun j => ?_, wf_u32 w4, wf_u32 w5⟩
    match j with
    | 0 => exact wf_u32 v0
    | 1 => exact wf_u32 v1
    | 2 => exact wf_u32 v2
    | 3 => exact wf_u32 v3
    | 4 => exact wf_u32 v4
    | 5 => exact wf_u32 v5
    | 6 => exact wf_u32 v6
    | 7 => exact wf_u32 v7
    | j + 8 => simp
end
end Go.Proofs.Ytdcelfoomjahjaa
