import Derived.Test.YtkmfdnoklabndaaOpen
import Derived.Test.YtkmfdnoklabndaaFields
/-! A header's cells opened, and the cases'. -/
set_option linter.unusedVariables false
namespace Go.Proofs.Ytkmfdnoklabndaa
open Go.RowKit Go.Proofs.YtkmfdnoklabndaaW.PrintWords Go.ChangeShapes Go.WideShapes Go.Deep
section
variable {H : Type} {enc : TypeId × Value → H} {w : World} {base : Nat} {held : Bool} {fuel : Nat} {cs : List Value} {x : DataW H × List MemPlace}
set_option maxHeartbeats 1000000 in
set_option maxRecDepth 100000 in
theorem op_hdr (h : DataW.trod enc Try.prog w base (fun _ => true) held fuel 25 cs = some x) (hf : Fits Try.prog 25 x.1) :
    ∃ hh : Hd, hh.ok ∧ cs = (hdC hh).toList := by
  obtain ⟨hl, fl⟩ := op_struct Try.underlying25 h hf
  have hl3 : cs.length = 7 := hl.trans (show Try.prog.cellsOf 25 = 7 from by kernel_rfl)
  match cs, hl3 with
  | [u0, u1, u2, u3, u4, u5, u6], _ =>
    obtain ⟨y0, g0, t0, f0⟩ := fl 0 _ rfl
    obtain ⟨a0, e0, w0⟩ := op_int Try.underlying5 t0
    have q0 : List.take (Try.prog.cellsOf 5) (List.drop 0 [u0, u1, u2, u3, u4, u5, u6]) = _ := e0
    rw [show Try.prog.cellsOf 5 = 1 from by kernel_rfl] at q0
    simp at q0
    obtain ⟨y1, g1, t1, f1⟩ := fl 1 _ rfl
    obtain ⟨a1, e1, w1⟩ := op_int Try.underlying22 t1
    have q1 : List.take (Try.prog.cellsOf 22) (List.drop 1 [u0, u1, u2, u3, u4, u5, u6]) = _ := e1
    rw [show Try.prog.cellsOf 22 = 1 from by kernel_rfl] at q1
    simp at q1
    obtain ⟨y2, g2, t2, f2⟩ := fl 2 _ rfl
    obtain ⟨a2, e2, w2⟩ := op_int Try.underlying22 t2
    have q2 : List.take (Try.prog.cellsOf 22) (List.drop 2 [u0, u1, u2, u3, u4, u5, u6]) = _ := e2
    rw [show Try.prog.cellsOf 22 = 1 from by kernel_rfl] at q2
    simp at q2
    obtain ⟨y3, g3, t3, f3⟩ := fl 3 _ rfl
    obtain ⟨a3, e3, w3⟩ := op_int Try.underlying23 t3
    have q3 : List.take (Try.prog.cellsOf 23) (List.drop 3 [u0, u1, u2, u3, u4, u5, u6]) = _ := e3
    rw [show Try.prog.cellsOf 23 = 1 from by kernel_rfl] at q3
    simp at q3
    obtain ⟨y4, g4, t4, f4⟩ := fl 4 _ rfl
    obtain ⟨a4, e4, w4⟩ := op_int Try.underlying23 t4
    have q4 : List.take (Try.prog.cellsOf 23) (List.drop 4 [u0, u1, u2, u3, u4, u5, u6]) = _ := e4
    rw [show Try.prog.cellsOf 23 = 1 from by kernel_rfl] at q4
    simp at q4
    obtain ⟨y5, g5, t5, f5⟩ := fl 5 _ rfl
    obtain ⟨a5, e5, w5⟩ := op_int Try.underlying22 t5
    have q5 : List.take (Try.prog.cellsOf 22) (List.drop 5 [u0, u1, u2, u3, u4, u5, u6]) = _ := e5
    rw [show Try.prog.cellsOf 22 = 1 from by kernel_rfl] at q5
    simp at q5
    obtain ⟨y6, g6, t6, f6⟩ := fl 6 _ rfl
    obtain ⟨a6, e6, w6⟩ := op_int Try.underlying22 t6
    have q6 : List.take (Try.prog.cellsOf 22) (List.drop 6 [u0, u1, u2, u3, u4, u5, u6]) = _ := e6
    rw [show Try.prog.cellsOf 22 = 1 from by kernel_rfl] at q6
    simp at q6
    subst q0 q1 q2 q3 q4 q5 q6
    exact ⟨⟨a0, a1, a2, a3, a4, a5, a6⟩, ⟨(wf_u8 w0).1, (wf_u8 w0).2, (wf_u32 w1).1, (wf_u32 w1).2, (wf_u32 w2).1, (wf_u32 w2).2, (wf_u16 w3).1, (wf_u16 w3).2, (wf_u16 w4).1, (wf_u16 w4).2, (wf_u32 w5).1, (wf_u32 w5).2, (wf_u32 w6).1, (wf_u32 w6).2⟩, rfl⟩
set_option maxHeartbeats 1000000 in
set_option maxRecDepth 100000 in
theorem op_cbytes (h : DataW.trod enc Try.prog w base (fun _ => true) held fuel 50 cs = some x) (hf : Fits Try.prog 50 x.1) :
    ∃ (hh : Hd) (A1 : Option Addr) (d1 : Nat) (xs1 : List Int) (a2 : Int) (a3 : Int), cs = [.int .u8 hh.k, .int .u32 hh.e, .int .u32 hh.b, .int .u16 hh.i, .int .u16 hh.c, .int .u32 hh.l, .int .u32 hh.m, .slice A1 xs1.length d1, .int .i64 a2, .int .u8 a3] ∧ hh.ok ∧ (xs1.length ≤ d1 ∧ xs1.length * 1 ≤ 140737488351232 ∧ ReadsInt w .u8 A1 xs1.length xs1 ∧ ∀ n ∈ xs1, (Lit.int .u8 n).wf = true) ∧ (Lit.int .i64 a2).wf = true ∧ (Lit.int .u8 a3).wf = true := by
  obtain ⟨hl, fl⟩ := op_struct Try.underlying50 h hf
  have hl3 : cs.length = 10 := hl.trans (show Try.prog.cellsOf 50 = 10 from by kernel_rfl)
  match cs, hl3 with
  | [u0, u1, u2, u3, u4, u5, u6, u7, u8, u9], _ =>
    obtain ⟨y0, g0, t0, f0⟩ := fl 0 _ rfl
    obtain ⟨hh, okh, e0⟩ := op_hdr t0 f0
    have q0 : List.take (Try.prog.cellsOf 25) (List.drop 0 [u0, u1, u2, u3, u4, u5, u6, u7, u8, u9]) = _ := e0
    rw [show Try.prog.cellsOf 25 = 7 from by kernel_rfl] at q0
    simp [hdC] at q0
    obtain ⟨q0_0, q0_1, q0_2, q0_3, q0_4, q0_5, q0_6⟩ := q0
    obtain ⟨y1, g1, t1, f1⟩ := fl 1 _ rfl
    obtain ⟨A1, d1, xs1, e1, lc1, lb1, rd1, wf1⟩ := op_ints Try.underlying26 Try.underlying5 (by kernel_rfl) (B := 1) (by kernel_rfl) t1 f1
    have q1 : List.take (Try.prog.cellsOf 26) (List.drop 7 [u0, u1, u2, u3, u4, u5, u6, u7, u8, u9]) = _ := e1
    rw [show Try.prog.cellsOf 26 = 1 from by kernel_rfl] at q1
    simp at q1
    obtain ⟨y2, g2, t2, f2⟩ := fl 2 _ rfl
    obtain ⟨a2, e2, wf2⟩ := op_int Try.underlying3 t2
    have q2 : List.take (Try.prog.cellsOf 3) (List.drop 8 [u0, u1, u2, u3, u4, u5, u6, u7, u8, u9]) = _ := e2
    rw [show Try.prog.cellsOf 3 = 1 from by kernel_rfl] at q2
    simp at q2
    obtain ⟨y3, g3, t3, f3⟩ := fl 3 _ rfl
    obtain ⟨a3, e3, wf3⟩ := op_int Try.underlying5 t3
    have q3 : List.take (Try.prog.cellsOf 5) (List.drop 9 [u0, u1, u2, u3, u4, u5, u6, u7, u8, u9]) = _ := e3
    rw [show Try.prog.cellsOf 5 = 1 from by kernel_rfl] at q3
    simp at q3
    subst q0_0 q0_1 q0_2 q0_3 q0_4 q0_5 q0_6 q1 q2 q3
    exact ⟨hh, A1, d1, xs1, a2, a3, rfl, okh, ⟨lc1, lb1, rd1, wf1⟩, wf2, wf3⟩
set_option maxHeartbeats 1000000 in
set_option maxRecDepth 100000 in
theorem op_cturns (h : DataW.trod enc Try.prog w base (fun _ => true) held fuel 45 cs = some x) (hf : Fits Try.prog 45 x.1) :
    ∃ (hh : Hd) (A1 : Option Addr) (d1 : Nat) (xs1 : List Int) (a2 : Int) (a3 : Int), cs = [.int .u8 hh.k, .int .u32 hh.e, .int .u32 hh.b, .int .u16 hh.i, .int .u16 hh.c, .int .u32 hh.l, .int .u32 hh.m, .slice A1 xs1.length d1, .int .i64 a2, .int .u32 a3] ∧ hh.ok ∧ (xs1.length ≤ d1 ∧ xs1.length * 1 ≤ 140737488351232 ∧ ReadsInt w .u8 A1 xs1.length xs1 ∧ ∀ n ∈ xs1, (Lit.int .u8 n).wf = true) ∧ (Lit.int .i64 a2).wf = true ∧ (Lit.int .u32 a3).wf = true := by
  obtain ⟨hl, fl⟩ := op_struct Try.underlying45 h hf
  have hl3 : cs.length = 10 := hl.trans (show Try.prog.cellsOf 45 = 10 from by kernel_rfl)
  match cs, hl3 with
  | [u0, u1, u2, u3, u4, u5, u6, u7, u8, u9], _ =>
    obtain ⟨y0, g0, t0, f0⟩ := fl 0 _ rfl
    obtain ⟨hh, okh, e0⟩ := op_hdr t0 f0
    have q0 : List.take (Try.prog.cellsOf 25) (List.drop 0 [u0, u1, u2, u3, u4, u5, u6, u7, u8, u9]) = _ := e0
    rw [show Try.prog.cellsOf 25 = 7 from by kernel_rfl] at q0
    simp [hdC] at q0
    obtain ⟨q0_0, q0_1, q0_2, q0_3, q0_4, q0_5, q0_6⟩ := q0
    obtain ⟨y1, g1, t1, f1⟩ := fl 1 _ rfl
    obtain ⟨A1, d1, xs1, e1, lc1, lb1, rd1, wf1⟩ := op_ints Try.underlying26 Try.underlying5 (by kernel_rfl) (B := 1) (by kernel_rfl) t1 f1
    have q1 : List.take (Try.prog.cellsOf 26) (List.drop 7 [u0, u1, u2, u3, u4, u5, u6, u7, u8, u9]) = _ := e1
    rw [show Try.prog.cellsOf 26 = 1 from by kernel_rfl] at q1
    simp at q1
    obtain ⟨y2, g2, t2, f2⟩ := fl 2 _ rfl
    obtain ⟨a2, e2, wf2⟩ := op_int Try.underlying3 t2
    have q2 : List.take (Try.prog.cellsOf 3) (List.drop 8 [u0, u1, u2, u3, u4, u5, u6, u7, u8, u9]) = _ := e2
    rw [show Try.prog.cellsOf 3 = 1 from by kernel_rfl] at q2
    simp at q2
    obtain ⟨y3, g3, t3, f3⟩ := fl 3 _ rfl
    obtain ⟨a3, e3, wf3⟩ := op_int Try.underlying22 t3
    have q3 : List.take (Try.prog.cellsOf 22) (List.drop 9 [u0, u1, u2, u3, u4, u5, u6, u7, u8, u9]) = _ := e3
    rw [show Try.prog.cellsOf 22 = 1 from by kernel_rfl] at q3
    simp at q3
    subst q0_0 q0_1 q0_2 q0_3 q0_4 q0_5 q0_6 q1 q2 q3
    exact ⟨hh, A1, d1, xs1, a2, a3, rfl, okh, ⟨lc1, lb1, rd1, wf1⟩, wf2, wf3⟩
set_option maxHeartbeats 1000000 in
set_option maxRecDepth 100000 in
theorem op_copens (h : DataW.trod enc Try.prog w base (fun _ => true) held fuel 39 cs = some x) (hf : Fits Try.prog 39 x.1) :
    ∃ (A0 : Option Addr) (d0 : Nat) (xs0 : List Int) (A1 : Option Addr) (d1 : Nat) (xs1 : List Int) (hh : Hd) (A3 : Option Addr) (d3 : Nat) (xs3 : List Int) (A4 : Option Addr) (d4 : Nat) (xs4 : List Int), cs = [.slice A0 xs0.length d0, .slice A1 xs1.length d1, .int .u8 hh.k, .int .u32 hh.e, .int .u32 hh.b, .int .u16 hh.i, .int .u16 hh.c, .int .u32 hh.l, .int .u32 hh.m, .slice A3 xs3.length d3, .slice A4 xs4.length d4] ∧ (xs0.length ≤ d0 ∧ xs0.length * 1 ≤ 140737488351232 ∧ ReadsInt w .u8 A0 xs0.length xs0 ∧ ∀ n ∈ xs0, (Lit.int .u8 n).wf = true) ∧ (xs1.length ≤ d1 ∧ xs1.length * 1 ≤ 140737488351232 ∧ ReadsInt w .u8 A1 xs1.length xs1 ∧ ∀ n ∈ xs1, (Lit.int .u8 n).wf = true) ∧ hh.ok ∧ (xs3.length ≤ d3 ∧ xs3.length * 8 ≤ 140737488351232 ∧ ReadsInt w .i64 A3 xs3.length xs3 ∧ ∀ n ∈ xs3, (Lit.int .i64 n).wf = true) ∧ (xs4.length ≤ d4 ∧ xs4.length * 1 ≤ 140737488351232 ∧ ReadsInt w .u8 A4 xs4.length xs4 ∧ ∀ n ∈ xs4, (Lit.int .u8 n).wf = true) := by
  obtain ⟨hl, fl⟩ := op_struct Try.underlying39 h hf
  have hl3 : cs.length = 11 := hl.trans (show Try.prog.cellsOf 39 = 11 from by kernel_rfl)
  match cs, hl3 with
  | [u0, u1, u2, u3, u4, u5, u6, u7, u8, u9, u10], _ =>
    obtain ⟨y0, g0, t0, f0⟩ := fl 0 _ rfl
    obtain ⟨A0, d0, xs0, e0, lc0, lb0, rd0, wf0⟩ := op_ints Try.underlying26 Try.underlying5 (by kernel_rfl) (B := 1) (by kernel_rfl) t0 f0
    have q0 : List.take (Try.prog.cellsOf 26) (List.drop 0 [u0, u1, u2, u3, u4, u5, u6, u7, u8, u9, u10]) = _ := e0
    rw [show Try.prog.cellsOf 26 = 1 from by kernel_rfl] at q0
    simp at q0
    obtain ⟨y1, g1, t1, f1⟩ := fl 1 _ rfl
    obtain ⟨A1, d1, xs1, e1, lc1, lb1, rd1, wf1⟩ := op_ints Try.underlying26 Try.underlying5 (by kernel_rfl) (B := 1) (by kernel_rfl) t1 f1
    have q1 : List.take (Try.prog.cellsOf 26) (List.drop 1 [u0, u1, u2, u3, u4, u5, u6, u7, u8, u9, u10]) = _ := e1
    rw [show Try.prog.cellsOf 26 = 1 from by kernel_rfl] at q1
    simp at q1
    obtain ⟨y2, g2, t2, f2⟩ := fl 2 _ rfl
    obtain ⟨hh, okh, e2⟩ := op_hdr t2 f2
    have q2 : List.take (Try.prog.cellsOf 25) (List.drop 2 [u0, u1, u2, u3, u4, u5, u6, u7, u8, u9, u10]) = _ := e2
    rw [show Try.prog.cellsOf 25 = 7 from by kernel_rfl] at q2
    simp [hdC] at q2
    obtain ⟨q2_0, q2_1, q2_2, q2_3, q2_4, q2_5, q2_6⟩ := q2
    obtain ⟨y3, g3, t3, f3⟩ := fl 3 _ rfl
    obtain ⟨A3, d3, xs3, e3, lc3, lb3, rd3, wf3⟩ := op_ints Try.underlying37 Try.underlying3 (by kernel_rfl) (B := 8) (by kernel_rfl) t3 f3
    have q3 : List.take (Try.prog.cellsOf 37) (List.drop 9 [u0, u1, u2, u3, u4, u5, u6, u7, u8, u9, u10]) = _ := e3
    rw [show Try.prog.cellsOf 37 = 1 from by kernel_rfl] at q3
    simp at q3
    obtain ⟨y4, g4, t4, f4⟩ := fl 4 _ rfl
    obtain ⟨A4, d4, xs4, e4, lc4, lb4, rd4, wf4⟩ := op_ints Try.underlying26 Try.underlying5 (by kernel_rfl) (B := 1) (by kernel_rfl) t4 f4
    have q4 : List.take (Try.prog.cellsOf 26) (List.drop 10 [u0, u1, u2, u3, u4, u5, u6, u7, u8, u9, u10]) = _ := e4
    rw [show Try.prog.cellsOf 26 = 1 from by kernel_rfl] at q4
    simp at q4
    subst q0 q1 q2_0 q2_1 q2_2 q2_3 q2_4 q2_5 q2_6 q3 q4
    exact ⟨A0, d0, xs0, A1, d1, xs1, hh, A3, d3, xs3, A4, d4, xs4, rfl, ⟨lc0, lb0, rd0, wf0⟩, ⟨lc1, lb1, rd1, wf1⟩, okh, ⟨lc3, lb3, rd3, wf3⟩, ⟨lc4, lb4, rd4, wf4⟩⟩
end
end Go.Proofs.Ytkmfdnoklabndaa
