import Derived.Test.YtkbjndfmbimjiaaOpr
import Derived.Test.YtkbjndfmbimjiaaPgs
/-! The cells of the parity laws' cases opened. -/
set_option linter.unusedVariables false
namespace Go.Proofs.Ytkbjndfmbimjiaa
open Go.RowKit Go.Proofs.YtkbjndfmbimjiaaW.PrintWords Go.ChangeShapes Go.WideShapes Go.Deep
section
variable {H : Type} {enc : TypeId × Value → H} {w : World} {base : Nat} {held : Bool} {fuel : Nat} {cs : List Value} {x : DataW H × List MemPlace}
set_option maxHeartbeats 1000000 in
set_option maxRecDepth 100000 in
theorem op_hdr (h : DataW.trod enc Try.prog w base (fun _ => true) held fuel 35 cs = some x) (hf : Fits Try.prog 35 x.1) :
    ∃ hh : Hd, hh.ok ∧ cs = (hdC hh).toList := by
  obtain ⟨hl, fl⟩ := op_struct Try.underlying35 h hf
  have hl3 : cs.length = 7 := hl.trans (show Try.prog.cellsOf 35 = 7 from by kernel_rfl)
  match cs, hl3 with
  | [u0, u1, u2, u3, u4, u5, u6], _ =>
    obtain ⟨y0, g0, t0, f0⟩ := fl 0 _ rfl
    obtain ⟨a0, e0, w0⟩ := op_int Try.underlying5 t0
    have q0 : List.take (Try.prog.cellsOf 5) (List.drop 0 [u0, u1, u2, u3, u4, u5, u6]) = _ := e0
    rw [show Try.prog.cellsOf 5 = 1 from by kernel_rfl] at q0
    simp at q0
    obtain ⟨y1, g1, t1, f1⟩ := fl 1 _ rfl
    obtain ⟨a1, e1, w1⟩ := op_int Try.underlying32 t1
    have q1 : List.take (Try.prog.cellsOf 32) (List.drop 1 [u0, u1, u2, u3, u4, u5, u6]) = _ := e1
    rw [show Try.prog.cellsOf 32 = 1 from by kernel_rfl] at q1
    simp at q1
    obtain ⟨y2, g2, t2, f2⟩ := fl 2 _ rfl
    obtain ⟨a2, e2, w2⟩ := op_int Try.underlying32 t2
    have q2 : List.take (Try.prog.cellsOf 32) (List.drop 2 [u0, u1, u2, u3, u4, u5, u6]) = _ := e2
    rw [show Try.prog.cellsOf 32 = 1 from by kernel_rfl] at q2
    simp at q2
    obtain ⟨y3, g3, t3, f3⟩ := fl 3 _ rfl
    obtain ⟨a3, e3, w3⟩ := op_int Try.underlying33 t3
    have q3 : List.take (Try.prog.cellsOf 33) (List.drop 3 [u0, u1, u2, u3, u4, u5, u6]) = _ := e3
    rw [show Try.prog.cellsOf 33 = 1 from by kernel_rfl] at q3
    simp at q3
    obtain ⟨y4, g4, t4, f4⟩ := fl 4 _ rfl
    obtain ⟨a4, e4, w4⟩ := op_int Try.underlying33 t4
    have q4 : List.take (Try.prog.cellsOf 33) (List.drop 4 [u0, u1, u2, u3, u4, u5, u6]) = _ := e4
    rw [show Try.prog.cellsOf 33 = 1 from by kernel_rfl] at q4
    simp at q4
    obtain ⟨y5, g5, t5, f5⟩ := fl 5 _ rfl
    obtain ⟨a5, e5, w5⟩ := op_int Try.underlying32 t5
    have q5 : List.take (Try.prog.cellsOf 32) (List.drop 5 [u0, u1, u2, u3, u4, u5, u6]) = _ := e5
    rw [show Try.prog.cellsOf 32 = 1 from by kernel_rfl] at q5
    simp at q5
    obtain ⟨y6, g6, t6, f6⟩ := fl 6 _ rfl
    obtain ⟨a6, e6, w6⟩ := op_int Try.underlying32 t6
    have q6 : List.take (Try.prog.cellsOf 32) (List.drop 6 [u0, u1, u2, u3, u4, u5, u6]) = _ := e6
    rw [show Try.prog.cellsOf 32 = 1 from by kernel_rfl] at q6
    simp at q6
    subst q0 q1 q2 q3 q4 q5 q6
    exact ⟨⟨a0, a1, a2, a3, a4, a5, a6⟩, ⟨(wf_u8 w0).1, (wf_u8 w0).2, (wf_u32 w1).1, (wf_u32 w1).2, (wf_u32 w2).1, (wf_u32 w2).2, (wf_u16 w3).1, (wf_u16 w3).2, (wf_u16 w4).1, (wf_u16 w4).2, (wf_u32 w5).1, (wf_u32 w5).2, (wf_u32 w6).1, (wf_u32 w6).2⟩, rfl⟩
set_option maxHeartbeats 1000000 in
set_option maxRecDepth 100000 in
theorem op_heads (h : DataW.trod enc Try.prog w base (fun _ => true) held fuel 31 cs = some x) (hf : Fits Try.prog 31 x.1) :
    ∃ (A : Option Addr) (c : Nat) (hs : List Hd), cs = [.slice A hs.length c] ∧ RdHeads w A hs := by
  obtain ⟨A, n, c, rfl, hc, hm, hb, hel⟩ := op_slice Try.underlying31 (B := 24) (by kernel_rfl) (C := 7) (by kernel_rfl) h hf
  have each : ∀ i, i < n → ∃ h : Hd, ∃ a, A = some a ∧ w.cell? (a.add (i * 7)) = some (.int .u8 h.k) ∧ w.cell? ⟨(a.add (i * 7)).block, (a.add (i * 7)).off + 1, none⟩ = some (.int .u32 h.e) ∧ w.cell? ⟨(a.add (i * 7)).block, (a.add (i * 7)).off + 2, none⟩ = some (.int .u32 h.b) ∧ w.cell? ⟨(a.add (i * 7)).block, (a.add (i * 7)).off + 3, none⟩ = some (.int .u16 h.i) ∧ w.cell? ⟨(a.add (i * 7)).block, (a.add (i * 7)).off + 4, none⟩ = some (.int .u16 h.c) ∧ w.cell? ⟨(a.add (i * 7)).block, (a.add (i * 7)).off + 5, none⟩ = some (.int .u32 h.l) ∧ w.cell? ⟨(a.add (i * 7)).block, (a.add (i * 7)).off + 6, none⟩ = some (.int .u32 h.m) ∧ h.ok := by
    intro i hi
    obtain ⟨a, cs', y, g, hA, hl, hcell, htr, hfy⟩ := hel i hi
    obtain ⟨hh, hok, rfl⟩ := op_hdr htr hfy
    have c0 := hcell 0 (by omega)
    rw [Nat.add_zero] at c0
    have c1 := hcell 1 (by omega)
    rw [add_field a (i * 7) 1 (by omega)] at c1
    have c2 := hcell 2 (by omega)
    rw [add_field a (i * 7) 2 (by omega)] at c2
    have c3 := hcell 3 (by omega)
    rw [add_field a (i * 7) 3 (by omega)] at c3
    have c4 := hcell 4 (by omega)
    rw [add_field a (i * 7) 4 (by omega)] at c4
    have c5 := hcell 5 (by omega)
    rw [add_field a (i * 7) 5 (by omega)] at c5
    have c6 := hcell 6 (by omega)
    rw [add_field a (i * 7) 6 (by omega)] at c6
    exact ⟨hh, a, hA, c0, c1, c2, c3, c4, c5, c6, hok⟩
  obtain ⟨f, hfr⟩ := choose_lt each
  refine ⟨A, c, (List.range n).map f, by simp, by simpa using hm, ?_⟩
  intro i hi
  have hi' : i < n := by simpa using hi
  have hg : ((List.range n).map f).getD i default = f i := by simp [List.getD_eq_getElem?_getD, hi']
  rw [hg]
  exact hfr i hi'
set_option maxHeartbeats 1000000 in
set_option maxRecDepth 100000 in
theorem op_pcase (h : DataW.trod enc Try.prog w base (fun _ => true) held fuel 37 cs = some x) (hf : Fits Try.prog 37 x.1) :
    ∃ (A0 : Option Addr) (d0 : Nat) (hs0 : List Hd) (A1 : Option Addr) (d1 : Nat) (rs1 : List Row) (a2 : Int) (a3 : Int) (hh : Hd), cs = [.slice A0 hs0.length d0, .slice A1 rs1.length d1, .int .i64 a2, .int .i64 a3, .int .u8 hh.k, .int .u32 hh.e, .int .u32 hh.b, .int .u16 hh.i, .int .u16 hh.c, .int .u32 hh.l, .int .u32 hh.m] ∧ RdHeads w A0 hs0 ∧ RdRows w A1 rs1 ∧ (Lit.int .i64 a2).wf = true ∧ (Lit.int .i64 a3).wf = true ∧ hh.ok := by
  obtain ⟨hl, fl⟩ := op_struct Try.underlying37 h hf
  have hl3 : cs.length = 11 := hl.trans (show Try.prog.cellsOf 37 = 11 from by kernel_rfl)
  match cs, hl3 with
  | [u0, u1, u2, u3, u4, u5, u6, u7, u8, u9, u10], _ =>
    obtain ⟨y0, g0, t0, f0⟩ := fl 0 _ rfl
    obtain ⟨A0, d0, hs0, e0, rd0⟩ := op_heads t0 f0
    have q0 : List.take (Try.prog.cellsOf 31) (List.drop 0 [u0, u1, u2, u3, u4, u5, u6, u7, u8, u9, u10]) = _ := e0
    rw [show Try.prog.cellsOf 31 = 1 from by kernel_rfl] at q0
    simp at q0
    obtain ⟨y1, g1, t1, f1⟩ := fl 1 _ rfl
    obtain ⟨A1, d1, rs1, e1, lc1, lb1, rd1, lr1⟩ := op_rows Try.underlying22 Try.underlying24 Try.underlying5 (by kernel_rfl) (by kernel_rfl) (by kernel_rfl) (by kernel_rfl) t1 f1
    have q1 : List.take (Try.prog.cellsOf 22) (List.drop 1 [u0, u1, u2, u3, u4, u5, u6, u7, u8, u9, u10]) = _ := e1
    rw [show Try.prog.cellsOf 22 = 1 from by kernel_rfl] at q1
    simp at q1
    obtain ⟨y2, g2, t2, f2⟩ := fl 2 _ rfl
    obtain ⟨a2, e2, wf2⟩ := op_int Try.underlying3 t2
    have q2 : List.take (Try.prog.cellsOf 3) (List.drop 2 [u0, u1, u2, u3, u4, u5, u6, u7, u8, u9, u10]) = _ := e2
    rw [show Try.prog.cellsOf 3 = 1 from by kernel_rfl] at q2
    simp at q2
    obtain ⟨y3, g3, t3, f3⟩ := fl 3 _ rfl
    obtain ⟨a3, e3, wf3⟩ := op_int Try.underlying3 t3
    have q3 : List.take (Try.prog.cellsOf 3) (List.drop 3 [u0, u1, u2, u3, u4, u5, u6, u7, u8, u9, u10]) = _ := e3
    rw [show Try.prog.cellsOf 3 = 1 from by kernel_rfl] at q3
    simp at q3
    obtain ⟨y4, g4, t4, f4⟩ := fl 4 _ rfl
    obtain ⟨hh, okh, e4⟩ := op_hdr t4 f4
    have q4 : List.take (Try.prog.cellsOf 35) (List.drop 4 [u0, u1, u2, u3, u4, u5, u6, u7, u8, u9, u10]) = _ := e4
    rw [show Try.prog.cellsOf 35 = 7 from by kernel_rfl] at q4
    simp [hdC] at q4
    obtain ⟨q4_0, q4_1, q4_2, q4_3, q4_4, q4_5, q4_6⟩ := q4
    subst q0 q1 q2 q3 q4_0 q4_1 q4_2 q4_3 q4_4 q4_5 q4_6
    exact ⟨A0, d0, hs0, A1, d1, rs1, a2, a3, hh, rfl, rd0, rd1, wf2, wf3, okh⟩
set_option maxHeartbeats 1000000 in
set_option maxRecDepth 100000 in
theorem op_pspoilt (h : DataW.trod enc Try.prog w base (fun _ => true) held fuel 56 cs = some x) (hf : Fits Try.prog 56 x.1) :
    ∃ (A0_ : Option Addr) (d0_ : Nat) (hs_ : List Hd) (A1_ : Option Addr) (d1_ : Nat) (rs_ : List Row) (p_ q_ : Int) (x_ : Hd) (a1 : Int) (a2 : Int) (a3 : Int), cs = [.slice A0_ hs_.length d0_, .slice A1_ rs_.length d1_, .int .i64 p_, .int .i64 q_, .int .u8 x_.k, .int .u32 x_.e, .int .u32 x_.b, .int .u16 x_.i, .int .u16 x_.c, .int .u32 x_.l, .int .u32 x_.m, .int .i64 a1, .int .i64 a2, .int .u8 a3] ∧ RdHeads w A0_ hs_ ∧ RdRows w A1_ rs_ ∧ x_.ok ∧ (Lit.int .i64 a1).wf = true ∧ (Lit.int .i64 a2).wf = true ∧ (Lit.int .u8 a3).wf = true := by
  obtain ⟨hl, fl⟩ := op_struct Try.underlying56 h hf
  have hl3 : cs.length = 14 := hl.trans (show Try.prog.cellsOf 56 = 14 from by kernel_rfl)
  match cs, hl3 with
  | [u0, u1, u2, u3, u4, u5, u6, u7, u8, u9, u10, u11, u12, u13], _ =>
    obtain ⟨y0, g0, t0, f0⟩ := fl 0 _ rfl
    obtain ⟨A0_, d0_, hs_, A1_, d1_, rs_, p_, q_, x_, e0, ra_, rb_, -, -, rx_⟩ := op_pcase t0 f0
    have q0 : List.take (Try.prog.cellsOf 37) (List.drop 0 [u0, u1, u2, u3, u4, u5, u6, u7, u8, u9, u10, u11, u12, u13]) = _ := e0
    rw [show Try.prog.cellsOf 37 = 11 from by kernel_rfl] at q0
    simp at q0
    obtain ⟨q0_0, q0_1, q0_2, q0_3, q0_4, q0_5, q0_6, q0_7, q0_8, q0_9, q0_10⟩ := q0
    obtain ⟨y1, g1, t1, f1⟩ := fl 1 _ rfl
    obtain ⟨a1, e1, wf1⟩ := op_int Try.underlying3 t1
    have q1 : List.take (Try.prog.cellsOf 3) (List.drop 11 [u0, u1, u2, u3, u4, u5, u6, u7, u8, u9, u10, u11, u12, u13]) = _ := e1
    rw [show Try.prog.cellsOf 3 = 1 from by kernel_rfl] at q1
    simp at q1
    obtain ⟨y2, g2, t2, f2⟩ := fl 2 _ rfl
    obtain ⟨a2, e2, wf2⟩ := op_int Try.underlying3 t2
    have q2 : List.take (Try.prog.cellsOf 3) (List.drop 12 [u0, u1, u2, u3, u4, u5, u6, u7, u8, u9, u10, u11, u12, u13]) = _ := e2
    rw [show Try.prog.cellsOf 3 = 1 from by kernel_rfl] at q2
    simp at q2
    obtain ⟨y3, g3, t3, f3⟩ := fl 3 _ rfl
    obtain ⟨a3, e3, wf3⟩ := op_int Try.underlying5 t3
    have q3 : List.take (Try.prog.cellsOf 5) (List.drop 13 [u0, u1, u2, u3, u4, u5, u6, u7, u8, u9, u10, u11, u12, u13]) = _ := e3
    rw [show Try.prog.cellsOf 5 = 1 from by kernel_rfl] at q3
    simp at q3
    subst q0_0 q0_1 q0_2 q0_3 q0_4 q0_5 q0_6 q0_7 q0_8 q0_9 q0_10 q1 q2 q3
    exact ⟨A0_, d0_, hs_, A1_, d1_, rs_, p_, q_, x_, a1, a2, a3, rfl, ra_, rb_, rx_, wf1, wf2, wf3⟩
end
end Go.Proofs.Ytkbjndfmbimjiaa
