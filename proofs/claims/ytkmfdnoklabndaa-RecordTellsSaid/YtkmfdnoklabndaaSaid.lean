import Derived.Test.YtkmfdnoklabndaaBlank
import Derived.Test.YtkmfdnoklabndaaRcom
/-! record.Said, at each type. -/
set_option linter.unusedVariables false
set_option linter.unusedSimpArgs false
namespace Go.Proofs.Ytkmfdnoklabndaa
open Go.RowKit Go.Proofs.YtkmfdnoklabndaaW.PrintWords Go.Proofs.YtkmfdnoklabndaaW.PrintLast
def fitsB (i n : Int) : Bool := decide (0 ≤ i) && (decide (i ≤ 65535) && (decide (0 ≤ n) && decide (n ≤ 65535)))
/-- The header that is said. -/
def saidH (h : Hd) (i n : Int) : Hd := if fitsB i n then ⟨h.k, h.e, h.b, i, n, h.l, h.m⟩ else hd0
theorem saidH_yes {h : Hd} {i n : Int} (hf : fitsB i n = true) : saidH h i n = ⟨h.k, h.e, h.b, i, n, h.l, h.m⟩ := by rw [saidH, if_pos hf]
theorem saidH_no {h : Hd} {i n : Int} (hf : fitsB i n = false) : saidH h i n = hd0 := by rw [saidH, hf]; rfl
theorem u16w {i : Int} (h0 : 0 ≤ i) (h1 : i ≤ 65535) : IntKind.u16.wrap i = i := by rw [IntKind.wrap_u16]; omega
set_option maxHeartbeats 4000000 in
set_option maxRecDepth 100000 in
theorem said_Table (x0 x1 x2 : Int) (w : World) : Calls Try.prog 19 #[(.iface 87 (.agg #[.int .u32 x0, .int .i64 x1, .int .i64 x2]))] w fun e w' => Below w.heap.size w w' ∧ e = .returned (.tuple #[.agg (hdC (saidH ⟨1, x0, 0, 0, 0, 0, 0⟩ (x1) (x2))), .bool (fitsB (x1) (x2))]) := by
  have ta0 : ∀ W : World, (Instr.typeAssert (.iface 87 (.agg #[.int .u32 x0, .int .i64 x1, .int .i64 x2])) 20 87 true).run Try.prog W = .ok (.tuple #[.agg #[.int .u32 x0, .int .i64 x1, .int .i64 x2], .bool true]) W := fun W => by first | rfl | kernel_rfl
  go_enter Try.func19, Try.ntmps19
  go_wp2_with fail
  have ha := alloc3 w #[.int .u8 0, .int .u32 0, .int .u32 0, .int .u16 0, .int .u16 0, .int .u32 0, .int .u32 0] #[.int .u8 0, .int .u32 0, .int .u32 0, .int .u16 0, .int .u16 0, .int .u32 0, .int .u32 0] #[.int .u32 x0, .int .i64 x1, .int .i64 x2] 25 25 87 _ rfl
  obtain ⟨W, hW⟩ : ∃ W, (((w.alloc (.cells #[.int .u8 0, .int .u32 0, .int .u32 0, .int .u16 0, .int .u16 0, .int .u32 0, .int .u32 0] 25)).alloc (.cells #[.int .u8 0, .int .u32 0, .int .u32 0, .int .u16 0, .int .u16 0, .int .u32 0, .int .u32 0] 25)).alloc (.cells #[.int .u32 x0, .int .i64 x1, .int .i64 x2] 87)) = W := ⟨_, rfl⟩
  rw [hW] at ha ⊢
  have HW := Lib.hid ha
  clear hW ha
  have yc0 : W.cell? ⟨w.heap.size + 1 + 1, 0, none⟩ = some (.int .u32 x0) := (blk_cell HW.out.2.2.1 0).trans rfl
  have yc1 : W.cell? ⟨w.heap.size + 1 + 1, 1, none⟩ = some (.int .i64 x1) := (blk_cell HW.out.2.2.1 1).trans rfl
  have yc2 : W.cell? ⟨w.heap.size + 1 + 1, 2, none⟩ = some (.int .i64 x2) := (blk_cell HW.out.2.2.1 2).trans rfl
  have zc0 : W.cell? ⟨w.heap.size + 1, 0, none⟩ = some (.int .u8 0) := (blk_cell HW.out.2.1 0).trans rfl
  have zf0 := blk_frozen HW.out.2.1 0
  have zc1 : W.cell? ⟨w.heap.size + 1, 1, none⟩ = some (.int .u32 0) := (blk_cell HW.out.2.1 1).trans rfl
  have zf1 := blk_frozen HW.out.2.1 1
  have zc2 : W.cell? ⟨w.heap.size + 1, 2, none⟩ = some (.int .u32 0) := (blk_cell HW.out.2.1 2).trans rfl
  have zf2 := blk_frozen HW.out.2.1 2
  have zc3 : W.cell? ⟨w.heap.size + 1, 3, none⟩ = some (.int .u16 0) := (blk_cell HW.out.2.1 3).trans rfl
  have zf3 := blk_frozen HW.out.2.1 3
  have zc4 : W.cell? ⟨w.heap.size + 1, 4, none⟩ = some (.int .u16 0) := (blk_cell HW.out.2.1 4).trans rfl
  have zf4 := blk_frozen HW.out.2.1 4
  have zc5 : W.cell? ⟨w.heap.size + 1, 5, none⟩ = some (.int .u32 0) := (blk_cell HW.out.2.1 5).trans rfl
  have zf5 := blk_frozen HW.out.2.1 5
  have zc6 : W.cell? ⟨w.heap.size + 1, 6, none⟩ = some (.int .u32 0) := (blk_cell HW.out.2.1 6).trans rfl
  have zf6 := blk_frozen HW.out.2.1 6
  go_region
  have hh := put7 HW.out.2.1 (.int .u8 1) (.int .u32 x0) (.int .u32 0) (.int .u16 0) (.int .u16 0) (.int .u32 0) (.int .u32 0)
  have rr := far7 HW.out.1 (show w.heap.size ≠ w.heap.size + 1 by omega) (.int .u8 1) (.int .u32 x0) (.int .u32 0) (.int .u16 0) (.int .u16 0) (.int .u32 0) (.int .u32 0)
  have bb := bel7 HW.out.2.2.2 (show w.heap.size ≤ w.heap.size + 1 by omega) (.int .u8 1) (.int .u32 x0) (.int .u32 0) (.int .u16 0) (.int .u16 0) (.int .u32 0) (.int .u32 0)
  generalize (((((((W.setCell ⟨w.heap.size + 1, 0, none⟩ (.int .u8 1)).setCell ⟨w.heap.size + 1, 1, none⟩ (.int .u32 x0)).setCell ⟨w.heap.size + 1, 2, none⟩ (.int .u32 0)).setCell ⟨w.heap.size + 1, 3, none⟩ (.int .u16 0)).setCell ⟨w.heap.size + 1, 4, none⟩ (.int .u16 0)).setCell ⟨w.heap.size + 1, 5, none⟩ (.int .u32 0)).setCell ⟨w.heap.size + 1, 6, none⟩ (.int .u32 0)) = Wc at hh rr bb ⊢
  replace hh : Wc.drew.heap[w.heap.size + 1]? = some (.cells #[.int .u8 1, .int .u32 x0, .int .u32 0, .int .u16 0, .int .u16 0, .int .u32 0, .int .u32 0] 25 (0, 0)) := hh
  replace rr : Wc.drew.heap[w.heap.size]? = some (.cells #[.int .u8 0, .int .u32 0, .int .u32 0, .int .u16 0, .int .u16 0, .int .u32 0, .int .u32 0] 25 (0, 0)) := rr
  replace bb : Below w.heap.size w Wc.drew := bl_drew bb
  generalize Wc.drew = W2 at hh rr bb ⊢
  have HH := Lib.hid hh
  have RR := Lib.hid rr
  have BB := Lib.hid bb
  clear hh rr bb HW yc0 yc1 yc2 zc0 zf0 zc1 zf1 zc2 zf2 zc3 zf3 zc4 zf4 zc5 zf5 zc6 zf6
  by_cases i0 : x1 < 0
  · have HN : Hid (fitsB (x1) (x2) = false) := Lib.hid (by simp [fitsB]; omega)
    have y0 := (blk_cell RR.out 0).trans rfl
    have q0 := blk_frozen RR.out 0
    have y1 := (blk_cell RR.out 1).trans rfl
    have q1 := blk_frozen RR.out 1
    have y2 := (blk_cell RR.out 2).trans rfl
    have q2 := blk_frozen RR.out 2
    have y3 := (blk_cell RR.out 3).trans rfl
    have q3 := blk_frozen RR.out 3
    have y4 := (blk_cell RR.out 4).trans rfl
    have q4 := blk_frozen RR.out 4
    have y5 := (blk_cell RR.out 5).trans rfl
    have q5 := blk_frozen RR.out 5
    have y6 := (blk_cell RR.out 6).trans rfl
    have q6 := blk_frozen RR.out 6
    go_wp2_with fail
    have hf := put7 RR.out (.int .u8 0) (.int .u32 0) (.int .u32 0) (.int .u16 0) (.int .u16 0) (.int .u32 0) (.int .u32 0)
    have T9 := bel7 BB.out (Nat.le_refl _) (.int .u8 0) (.int .u32 0) (.int .u32 0) (.int .u16 0) (.int .u16 0) (.int .u32 0) (.int .u32 0)
    generalize (((((((W2.setCell ⟨w.heap.size, 0, none⟩ (.int .u8 0)).setCell ⟨w.heap.size, 1, none⟩ (.int .u32 0)).setCell ⟨w.heap.size, 2, none⟩ (.int .u32 0)).setCell ⟨w.heap.size, 3, none⟩ (.int .u16 0)).setCell ⟨w.heap.size, 4, none⟩ (.int .u16 0)).setCell ⟨w.heap.size, 5, none⟩ (.int .u32 0)).setCell ⟨w.heap.size, 6, none⟩ (.int .u32 0)) = w9 at hf T9 ⊢
    have HF := Lib.hid hf
    have TF := Lib.hid T9
    clear hf T9
    have c0 : w9.cell? ⟨w.heap.size, 0, none⟩ = some (.int .u8 0) := (blk_cell HF.out 0).trans rfl
    have c1 : w9.cell? ⟨w.heap.size, 1, none⟩ = some (.int .u32 0) := (blk_cell HF.out 1).trans rfl
    have c2 : w9.cell? ⟨w.heap.size, 2, none⟩ = some (.int .u32 0) := (blk_cell HF.out 2).trans rfl
    have c3 : w9.cell? ⟨w.heap.size, 3, none⟩ = some (.int .u16 0) := (blk_cell HF.out 3).trans rfl
    have c4 : w9.cell? ⟨w.heap.size, 4, none⟩ = some (.int .u16 0) := (blk_cell HF.out 4).trans rfl
    have c5 : w9.cell? ⟨w.heap.size, 5, none⟩ = some (.int .u32 0) := (blk_cell HF.out 5).trans rfl
    have c6 : w9.cell? ⟨w.heap.size, 6, none⟩ = some (.int .u32 0) := (blk_cell HF.out 6).trans rfl
    refine bodyPost_ret (v := .tuple #[.agg #[.int .u8 0, .int .u32 0, .int .u32 0, .int .u16 0, .int .u16 0, .int .u32 0, .int .u32 0], .bool false]) (by simp [results, Try.results19, go_sem, c0, c1, c2, c3, c4, c5, c6]) rfl ⟨TF.out, ?_⟩
    rw [HN.out, saidH_no HN.out]
    rfl
  by_cases i1 : 65535 < x1
  · have HN : Hid (fitsB (x1) (x2) = false) := Lib.hid (by simp [fitsB]; omega)
    have y0 := (blk_cell RR.out 0).trans rfl
    have q0 := blk_frozen RR.out 0
    have y1 := (blk_cell RR.out 1).trans rfl
    have q1 := blk_frozen RR.out 1
    have y2 := (blk_cell RR.out 2).trans rfl
    have q2 := blk_frozen RR.out 2
    have y3 := (blk_cell RR.out 3).trans rfl
    have q3 := blk_frozen RR.out 3
    have y4 := (blk_cell RR.out 4).trans rfl
    have q4 := blk_frozen RR.out 4
    have y5 := (blk_cell RR.out 5).trans rfl
    have q5 := blk_frozen RR.out 5
    have y6 := (blk_cell RR.out 6).trans rfl
    have q6 := blk_frozen RR.out 6
    go_wp2_with fail
    have hf := put7 RR.out (.int .u8 0) (.int .u32 0) (.int .u32 0) (.int .u16 0) (.int .u16 0) (.int .u32 0) (.int .u32 0)
    have T9 := bel7 BB.out (Nat.le_refl _) (.int .u8 0) (.int .u32 0) (.int .u32 0) (.int .u16 0) (.int .u16 0) (.int .u32 0) (.int .u32 0)
    generalize (((((((W2.setCell ⟨w.heap.size, 0, none⟩ (.int .u8 0)).setCell ⟨w.heap.size, 1, none⟩ (.int .u32 0)).setCell ⟨w.heap.size, 2, none⟩ (.int .u32 0)).setCell ⟨w.heap.size, 3, none⟩ (.int .u16 0)).setCell ⟨w.heap.size, 4, none⟩ (.int .u16 0)).setCell ⟨w.heap.size, 5, none⟩ (.int .u32 0)).setCell ⟨w.heap.size, 6, none⟩ (.int .u32 0)) = w9 at hf T9 ⊢
    have HF := Lib.hid hf
    have TF := Lib.hid T9
    clear hf T9
    have c0 : w9.cell? ⟨w.heap.size, 0, none⟩ = some (.int .u8 0) := (blk_cell HF.out 0).trans rfl
    have c1 : w9.cell? ⟨w.heap.size, 1, none⟩ = some (.int .u32 0) := (blk_cell HF.out 1).trans rfl
    have c2 : w9.cell? ⟨w.heap.size, 2, none⟩ = some (.int .u32 0) := (blk_cell HF.out 2).trans rfl
    have c3 : w9.cell? ⟨w.heap.size, 3, none⟩ = some (.int .u16 0) := (blk_cell HF.out 3).trans rfl
    have c4 : w9.cell? ⟨w.heap.size, 4, none⟩ = some (.int .u16 0) := (blk_cell HF.out 4).trans rfl
    have c5 : w9.cell? ⟨w.heap.size, 5, none⟩ = some (.int .u32 0) := (blk_cell HF.out 5).trans rfl
    have c6 : w9.cell? ⟨w.heap.size, 6, none⟩ = some (.int .u32 0) := (blk_cell HF.out 6).trans rfl
    refine bodyPost_ret (v := .tuple #[.agg #[.int .u8 0, .int .u32 0, .int .u32 0, .int .u16 0, .int .u16 0, .int .u32 0, .int .u32 0], .bool false]) (by simp [results, Try.results19, go_sem, c0, c1, c2, c3, c4, c5, c6]) rfl ⟨TF.out, ?_⟩
    rw [HN.out, saidH_no HN.out]
    rfl
  by_cases n0 : x2 < 0
  · have HN : Hid (fitsB (x1) (x2) = false) := Lib.hid (by simp [fitsB]; omega)
    have y0 := (blk_cell RR.out 0).trans rfl
    have q0 := blk_frozen RR.out 0
    have y1 := (blk_cell RR.out 1).trans rfl
    have q1 := blk_frozen RR.out 1
    have y2 := (blk_cell RR.out 2).trans rfl
    have q2 := blk_frozen RR.out 2
    have y3 := (blk_cell RR.out 3).trans rfl
    have q3 := blk_frozen RR.out 3
    have y4 := (blk_cell RR.out 4).trans rfl
    have q4 := blk_frozen RR.out 4
    have y5 := (blk_cell RR.out 5).trans rfl
    have q5 := blk_frozen RR.out 5
    have y6 := (blk_cell RR.out 6).trans rfl
    have q6 := blk_frozen RR.out 6
    go_wp2_with fail
    have hf := put7 RR.out (.int .u8 0) (.int .u32 0) (.int .u32 0) (.int .u16 0) (.int .u16 0) (.int .u32 0) (.int .u32 0)
    have T9 := bel7 BB.out (Nat.le_refl _) (.int .u8 0) (.int .u32 0) (.int .u32 0) (.int .u16 0) (.int .u16 0) (.int .u32 0) (.int .u32 0)
    generalize (((((((W2.setCell ⟨w.heap.size, 0, none⟩ (.int .u8 0)).setCell ⟨w.heap.size, 1, none⟩ (.int .u32 0)).setCell ⟨w.heap.size, 2, none⟩ (.int .u32 0)).setCell ⟨w.heap.size, 3, none⟩ (.int .u16 0)).setCell ⟨w.heap.size, 4, none⟩ (.int .u16 0)).setCell ⟨w.heap.size, 5, none⟩ (.int .u32 0)).setCell ⟨w.heap.size, 6, none⟩ (.int .u32 0)) = w9 at hf T9 ⊢
    have HF := Lib.hid hf
    have TF := Lib.hid T9
    clear hf T9
    have c0 : w9.cell? ⟨w.heap.size, 0, none⟩ = some (.int .u8 0) := (blk_cell HF.out 0).trans rfl
    have c1 : w9.cell? ⟨w.heap.size, 1, none⟩ = some (.int .u32 0) := (blk_cell HF.out 1).trans rfl
    have c2 : w9.cell? ⟨w.heap.size, 2, none⟩ = some (.int .u32 0) := (blk_cell HF.out 2).trans rfl
    have c3 : w9.cell? ⟨w.heap.size, 3, none⟩ = some (.int .u16 0) := (blk_cell HF.out 3).trans rfl
    have c4 : w9.cell? ⟨w.heap.size, 4, none⟩ = some (.int .u16 0) := (blk_cell HF.out 4).trans rfl
    have c5 : w9.cell? ⟨w.heap.size, 5, none⟩ = some (.int .u32 0) := (blk_cell HF.out 5).trans rfl
    have c6 : w9.cell? ⟨w.heap.size, 6, none⟩ = some (.int .u32 0) := (blk_cell HF.out 6).trans rfl
    refine bodyPost_ret (v := .tuple #[.agg #[.int .u8 0, .int .u32 0, .int .u32 0, .int .u16 0, .int .u16 0, .int .u32 0, .int .u32 0], .bool false]) (by simp [results, Try.results19, go_sem, c0, c1, c2, c3, c4, c5, c6]) rfl ⟨TF.out, ?_⟩
    rw [HN.out, saidH_no HN.out]
    rfl
  by_cases n1 : 65535 < x2
  · have HN : Hid (fitsB (x1) (x2) = false) := Lib.hid (by simp [fitsB]; omega)
    have y0 := (blk_cell RR.out 0).trans rfl
    have q0 := blk_frozen RR.out 0
    have y1 := (blk_cell RR.out 1).trans rfl
    have q1 := blk_frozen RR.out 1
    have y2 := (blk_cell RR.out 2).trans rfl
    have q2 := blk_frozen RR.out 2
    have y3 := (blk_cell RR.out 3).trans rfl
    have q3 := blk_frozen RR.out 3
    have y4 := (blk_cell RR.out 4).trans rfl
    have q4 := blk_frozen RR.out 4
    have y5 := (blk_cell RR.out 5).trans rfl
    have q5 := blk_frozen RR.out 5
    have y6 := (blk_cell RR.out 6).trans rfl
    have q6 := blk_frozen RR.out 6
    go_wp2_with fail
    have hf := put7 RR.out (.int .u8 0) (.int .u32 0) (.int .u32 0) (.int .u16 0) (.int .u16 0) (.int .u32 0) (.int .u32 0)
    have T9 := bel7 BB.out (Nat.le_refl _) (.int .u8 0) (.int .u32 0) (.int .u32 0) (.int .u16 0) (.int .u16 0) (.int .u32 0) (.int .u32 0)
    generalize (((((((W2.setCell ⟨w.heap.size, 0, none⟩ (.int .u8 0)).setCell ⟨w.heap.size, 1, none⟩ (.int .u32 0)).setCell ⟨w.heap.size, 2, none⟩ (.int .u32 0)).setCell ⟨w.heap.size, 3, none⟩ (.int .u16 0)).setCell ⟨w.heap.size, 4, none⟩ (.int .u16 0)).setCell ⟨w.heap.size, 5, none⟩ (.int .u32 0)).setCell ⟨w.heap.size, 6, none⟩ (.int .u32 0)) = w9 at hf T9 ⊢
    have HF := Lib.hid hf
    have TF := Lib.hid T9
    clear hf T9
    have c0 : w9.cell? ⟨w.heap.size, 0, none⟩ = some (.int .u8 0) := (blk_cell HF.out 0).trans rfl
    have c1 : w9.cell? ⟨w.heap.size, 1, none⟩ = some (.int .u32 0) := (blk_cell HF.out 1).trans rfl
    have c2 : w9.cell? ⟨w.heap.size, 2, none⟩ = some (.int .u32 0) := (blk_cell HF.out 2).trans rfl
    have c3 : w9.cell? ⟨w.heap.size, 3, none⟩ = some (.int .u16 0) := (blk_cell HF.out 3).trans rfl
    have c4 : w9.cell? ⟨w.heap.size, 4, none⟩ = some (.int .u16 0) := (blk_cell HF.out 4).trans rfl
    have c5 : w9.cell? ⟨w.heap.size, 5, none⟩ = some (.int .u32 0) := (blk_cell HF.out 5).trans rfl
    have c6 : w9.cell? ⟨w.heap.size, 6, none⟩ = some (.int .u32 0) := (blk_cell HF.out 6).trans rfl
    refine bodyPost_ret (v := .tuple #[.agg #[.int .u8 0, .int .u32 0, .int .u32 0, .int .u16 0, .int .u16 0, .int .u32 0, .int .u32 0], .bool false]) (by simp [results, Try.results19, go_sem, c0, c1, c2, c3, c4, c5, c6]) rfl ⟨TF.out, ?_⟩
    rw [HN.out, saidH_no HN.out]
    rfl
  have HN : Hid (fitsB (x1) (x2) = true) := Lib.hid (by simp [fitsB]; omega)
  have uw1 := u16w (i := x1) (by omega) (by omega)
  have uw2 := u16w (i := x2) (by omega) (by omega)
  have y0 := (blk_cell RR.out 0).trans rfl
  have q0 := blk_frozen RR.out 0
  have y1 := (blk_cell RR.out 1).trans rfl
  have q1 := blk_frozen RR.out 1
  have y2 := (blk_cell RR.out 2).trans rfl
  have q2 := blk_frozen RR.out 2
  have y3 := (blk_cell RR.out 3).trans rfl
  have q3 := blk_frozen RR.out 3
  have y4 := (blk_cell RR.out 4).trans rfl
  have q4 := blk_frozen RR.out 4
  have y5 := (blk_cell RR.out 5).trans rfl
  have q5 := blk_frozen RR.out 5
  have y6 := (blk_cell RR.out 6).trans rfl
  have q6 := blk_frozen RR.out 6
  have h0_ := (blk_cell HH.out 0).trans rfl
  have h1_ := (blk_cell HH.out 1).trans rfl
  have h2_ := (blk_cell HH.out 2).trans rfl
  have h3_ := (blk_cell HH.out 3).trans rfl
  have h4_ := (blk_cell HH.out 4).trans rfl
  have h5_ := (blk_cell HH.out 5).trans rfl
  have h6_ := (blk_cell HH.out 6).trans rfl
  have hf3_ := blk_frozen HH.out 3
  have hf4_ := blk_frozen HH.out 4
  go_wp2_with fail
  have r3 := blk_far (blk_far RR.out (p := ⟨w.heap.size + 1, 3, none⟩) (by show w.heap.size ≠ w.heap.size + 1; omega) (.int .u16 (x1))) (p := ⟨w.heap.size + 1, 4, none⟩) (by show w.heap.size ≠ w.heap.size + 1; omega) (.int .u16 (x2))
  have b3 := bl_set (bl_set BB.out (p := ⟨w.heap.size + 1, 3, none⟩) (by show w.heap.size ≤ w.heap.size + 1; omega) (.int .u16 (x1))) (p := ⟨w.heap.size + 1, 4, none⟩) (by show w.heap.size ≤ w.heap.size + 1; omega) (.int .u16 (x2))
  have hf := put7 r3 (.int .u8 1) (.int .u32 x0) (.int .u32 0) (.int .u16 x1) (.int .u16 x2) (.int .u32 0) (.int .u32 0)
  have T9 := bel7 b3 (Nat.le_refl _) (.int .u8 1) (.int .u32 x0) (.int .u32 0) (.int .u16 x1) (.int .u16 x2) (.int .u32 0) (.int .u32 0)
  generalize (((((((((W2.setCell ⟨w.heap.size + 1, 3, none⟩ (.int .u16 (x1))).setCell ⟨w.heap.size + 1, 4, none⟩ (.int .u16 (x2))).setCell ⟨w.heap.size, 0, none⟩ (.int .u8 1)).setCell ⟨w.heap.size, 1, none⟩ (.int .u32 x0)).setCell ⟨w.heap.size, 2, none⟩ (.int .u32 0)).setCell ⟨w.heap.size, 3, none⟩ (.int .u16 x1)).setCell ⟨w.heap.size, 4, none⟩ (.int .u16 x2)).setCell ⟨w.heap.size, 5, none⟩ (.int .u32 0)).setCell ⟨w.heap.size, 6, none⟩ (.int .u32 0)) = w9 at hf T9 ⊢
  have HF := Lib.hid hf
  have TF := Lib.hid T9
  clear hf T9 r3 b3
  have c0 : w9.cell? ⟨w.heap.size, 0, none⟩ = some (.int .u8 1) := (blk_cell HF.out 0).trans rfl
  have c1 : w9.cell? ⟨w.heap.size, 1, none⟩ = some (.int .u32 x0) := (blk_cell HF.out 1).trans rfl
  have c2 : w9.cell? ⟨w.heap.size, 2, none⟩ = some (.int .u32 0) := (blk_cell HF.out 2).trans rfl
  have c3 : w9.cell? ⟨w.heap.size, 3, none⟩ = some (.int .u16 x1) := (blk_cell HF.out 3).trans rfl
  have c4 : w9.cell? ⟨w.heap.size, 4, none⟩ = some (.int .u16 x2) := (blk_cell HF.out 4).trans rfl
  have c5 : w9.cell? ⟨w.heap.size, 5, none⟩ = some (.int .u32 0) := (blk_cell HF.out 5).trans rfl
  have c6 : w9.cell? ⟨w.heap.size, 6, none⟩ = some (.int .u32 0) := (blk_cell HF.out 6).trans rfl
  refine bodyPost_ret (v := .tuple #[.agg #[.int .u8 1, .int .u32 x0, .int .u32 0, .int .u16 x1, .int .u16 x2, .int .u32 0, .int .u32 0], .bool true]) (by simp [results, Try.results19, go_sem, c0, c1, c2, c3, c4, c5, c6]) rfl ⟨TF.out, ?_⟩
  rw [HN.out, saidH_yes HN.out]
set_option maxHeartbeats 4000000 in
set_option maxRecDepth 100000 in
theorem said_Member (x0 : Int) (w : World) : Calls Try.prog 19 #[(.iface 89 (.agg #[.int .u32 x0]))] w fun e w' => Below w.heap.size w w' ∧ e = .returned (.tuple #[.agg (hdC (saidH ⟨2, x0, 0, 0, 0, 0, 0⟩ (0) (1))), .bool (fitsB (0) (1))]) := by
  have ta0 : ∀ W : World, (Instr.typeAssert (.iface 89 (.agg #[.int .u32 x0])) 20 87 true).run Try.prog W = .ok (.tuple #[.agg #[.int .u32 0, .int .i64 0, .int .i64 0], .bool false]) W := fun W => by first | rfl | kernel_rfl
  have ta1 : ∀ W : World, (Instr.typeAssert (.iface 89 (.agg #[.int .u32 x0])) 20 89 true).run Try.prog W = .ok (.tuple #[.agg #[.int .u32 x0], .bool true]) W := fun W => by first | rfl | kernel_rfl
  go_enter Try.func19, Try.ntmps19
  go_wp2_with fail
  have HN : Hid (fitsB (0) (1) = true) := Lib.hid (by decide)
  have ha := alloc3 w #[.int .u8 2, .int .u32 x0, .int .u32 0, .int .u16 0, .int .u16 1, .int .u32 0, .int .u32 0] #[.int .u8 2, .int .u32 x0, .int .u32 0, .int .u16 0, .int .u16 1, .int .u32 0, .int .u32 0] #[.int .u32 x0] 25 25 89 _ rfl
  generalize (((w.alloc (.cells #[.int .u8 2, .int .u32 x0, .int .u32 0, .int .u16 0, .int .u16 1, .int .u32 0, .int .u32 0] 25)).alloc (.cells #[.int .u8 2, .int .u32 x0, .int .u32 0, .int .u16 0, .int .u16 1, .int .u32 0, .int .u32 0] 25)).alloc (.cells #[.int .u32 x0] 89)) = w9 at ha ⊢
  have HF := Lib.hid ha.1
  have TF := Lib.hid ha.2.2.2
  clear ha
  have c0 : w9.cell? ⟨w.heap.size, 0, none⟩ = some (.int .u8 2) := (blk_cell HF.out 0).trans rfl
  have c1 : w9.cell? ⟨w.heap.size, 1, none⟩ = some (.int .u32 x0) := (blk_cell HF.out 1).trans rfl
  have c2 : w9.cell? ⟨w.heap.size, 2, none⟩ = some (.int .u32 0) := (blk_cell HF.out 2).trans rfl
  have c3 : w9.cell? ⟨w.heap.size, 3, none⟩ = some (.int .u16 0) := (blk_cell HF.out 3).trans rfl
  have c4 : w9.cell? ⟨w.heap.size, 4, none⟩ = some (.int .u16 1) := (blk_cell HF.out 4).trans rfl
  have c5 : w9.cell? ⟨w.heap.size, 5, none⟩ = some (.int .u32 0) := (blk_cell HF.out 5).trans rfl
  have c6 : w9.cell? ⟨w.heap.size, 6, none⟩ = some (.int .u32 0) := (blk_cell HF.out 6).trans rfl
  refine bodyPost_ret (v := .tuple #[.agg #[.int .u8 2, .int .u32 x0, .int .u32 0, .int .u16 0, .int .u16 1, .int .u32 0, .int .u32 0], .bool true]) (by simp [results, Try.results19, go_sem, c0, c1, c2, c3, c4, c5, c6]) rfl ⟨TF.out, ?_⟩
  rw [HN.out, saidH_yes HN.out]
set_option maxHeartbeats 4000000 in
set_option maxRecDepth 100000 in
theorem said_Point (x0 x1 x2 : Int) (w : World) : Calls Try.prog 19 #[(.iface 90 (.agg #[.int .u32 x0, .int .i64 x1, .int .i64 x2]))] w fun e w' => Below w.heap.size w w' ∧ e = .returned (.tuple #[.agg (hdC (saidH ⟨3, x0, 0, 0, 0, 0, 0⟩ (x1) (x2))), .bool (fitsB (x1) (x2))]) := by
  have ta0 : ∀ W : World, (Instr.typeAssert (.iface 90 (.agg #[.int .u32 x0, .int .i64 x1, .int .i64 x2])) 20 87 true).run Try.prog W = .ok (.tuple #[.agg #[.int .u32 0, .int .i64 0, .int .i64 0], .bool false]) W := fun W => by first | rfl | kernel_rfl
  have ta1 : ∀ W : World, (Instr.typeAssert (.iface 90 (.agg #[.int .u32 x0, .int .i64 x1, .int .i64 x2])) 20 89 true).run Try.prog W = .ok (.tuple #[.agg #[.int .u32 0], .bool false]) W := fun W => by first | rfl | kernel_rfl
  have ta2 : ∀ W : World, (Instr.typeAssert (.iface 90 (.agg #[.int .u32 x0, .int .i64 x1, .int .i64 x2])) 20 90 true).run Try.prog W = .ok (.tuple #[.agg #[.int .u32 x0, .int .i64 x1, .int .i64 x2], .bool true]) W := fun W => by first | rfl | kernel_rfl
  go_enter Try.func19, Try.ntmps19
  go_wp2_with fail
  have ha := alloc3 w #[.int .u8 0, .int .u32 0, .int .u32 0, .int .u16 0, .int .u16 0, .int .u32 0, .int .u32 0] #[.int .u8 0, .int .u32 0, .int .u32 0, .int .u16 0, .int .u16 0, .int .u32 0, .int .u32 0] #[.int .u32 x0, .int .i64 x1, .int .i64 x2] 25 25 90 _ rfl
  obtain ⟨W, hW⟩ : ∃ W, (((w.alloc (.cells #[.int .u8 0, .int .u32 0, .int .u32 0, .int .u16 0, .int .u16 0, .int .u32 0, .int .u32 0] 25)).alloc (.cells #[.int .u8 0, .int .u32 0, .int .u32 0, .int .u16 0, .int .u16 0, .int .u32 0, .int .u32 0] 25)).alloc (.cells #[.int .u32 x0, .int .i64 x1, .int .i64 x2] 90)) = W := ⟨_, rfl⟩
  rw [hW] at ha ⊢
  have HW := Lib.hid ha
  clear hW ha
  have yc0 : W.cell? ⟨w.heap.size + 1 + 1, 0, none⟩ = some (.int .u32 x0) := (blk_cell HW.out.2.2.1 0).trans rfl
  have yc1 : W.cell? ⟨w.heap.size + 1 + 1, 1, none⟩ = some (.int .i64 x1) := (blk_cell HW.out.2.2.1 1).trans rfl
  have yc2 : W.cell? ⟨w.heap.size + 1 + 1, 2, none⟩ = some (.int .i64 x2) := (blk_cell HW.out.2.2.1 2).trans rfl
  have zc0 : W.cell? ⟨w.heap.size + 1, 0, none⟩ = some (.int .u8 0) := (blk_cell HW.out.2.1 0).trans rfl
  have zf0 := blk_frozen HW.out.2.1 0
  have zc1 : W.cell? ⟨w.heap.size + 1, 1, none⟩ = some (.int .u32 0) := (blk_cell HW.out.2.1 1).trans rfl
  have zf1 := blk_frozen HW.out.2.1 1
  have zc2 : W.cell? ⟨w.heap.size + 1, 2, none⟩ = some (.int .u32 0) := (blk_cell HW.out.2.1 2).trans rfl
  have zf2 := blk_frozen HW.out.2.1 2
  have zc3 : W.cell? ⟨w.heap.size + 1, 3, none⟩ = some (.int .u16 0) := (blk_cell HW.out.2.1 3).trans rfl
  have zf3 := blk_frozen HW.out.2.1 3
  have zc4 : W.cell? ⟨w.heap.size + 1, 4, none⟩ = some (.int .u16 0) := (blk_cell HW.out.2.1 4).trans rfl
  have zf4 := blk_frozen HW.out.2.1 4
  have zc5 : W.cell? ⟨w.heap.size + 1, 5, none⟩ = some (.int .u32 0) := (blk_cell HW.out.2.1 5).trans rfl
  have zf5 := blk_frozen HW.out.2.1 5
  have zc6 : W.cell? ⟨w.heap.size + 1, 6, none⟩ = some (.int .u32 0) := (blk_cell HW.out.2.1 6).trans rfl
  have zf6 := blk_frozen HW.out.2.1 6
  go_region
  have hh := put7 HW.out.2.1 (.int .u8 3) (.int .u32 x0) (.int .u32 0) (.int .u16 0) (.int .u16 0) (.int .u32 0) (.int .u32 0)
  have rr := far7 HW.out.1 (show w.heap.size ≠ w.heap.size + 1 by omega) (.int .u8 3) (.int .u32 x0) (.int .u32 0) (.int .u16 0) (.int .u16 0) (.int .u32 0) (.int .u32 0)
  have bb := bel7 HW.out.2.2.2 (show w.heap.size ≤ w.heap.size + 1 by omega) (.int .u8 3) (.int .u32 x0) (.int .u32 0) (.int .u16 0) (.int .u16 0) (.int .u32 0) (.int .u32 0)
  generalize (((((((W.setCell ⟨w.heap.size + 1, 0, none⟩ (.int .u8 3)).setCell ⟨w.heap.size + 1, 1, none⟩ (.int .u32 x0)).setCell ⟨w.heap.size + 1, 2, none⟩ (.int .u32 0)).setCell ⟨w.heap.size + 1, 3, none⟩ (.int .u16 0)).setCell ⟨w.heap.size + 1, 4, none⟩ (.int .u16 0)).setCell ⟨w.heap.size + 1, 5, none⟩ (.int .u32 0)).setCell ⟨w.heap.size + 1, 6, none⟩ (.int .u32 0)) = Wc at hh rr bb ⊢
  replace hh : Wc.drew.heap[w.heap.size + 1]? = some (.cells #[.int .u8 3, .int .u32 x0, .int .u32 0, .int .u16 0, .int .u16 0, .int .u32 0, .int .u32 0] 25 (0, 0)) := hh
  replace rr : Wc.drew.heap[w.heap.size]? = some (.cells #[.int .u8 0, .int .u32 0, .int .u32 0, .int .u16 0, .int .u16 0, .int .u32 0, .int .u32 0] 25 (0, 0)) := rr
  replace bb : Below w.heap.size w Wc.drew := bl_drew bb
  generalize Wc.drew = W2 at hh rr bb ⊢
  have HH := Lib.hid hh
  have RR := Lib.hid rr
  have BB := Lib.hid bb
  clear hh rr bb HW yc0 yc1 yc2 zc0 zf0 zc1 zf1 zc2 zf2 zc3 zf3 zc4 zf4 zc5 zf5 zc6 zf6
  by_cases i0 : x1 < 0
  · have HN : Hid (fitsB (x1) (x2) = false) := Lib.hid (by simp [fitsB]; omega)
    have y0 := (blk_cell RR.out 0).trans rfl
    have q0 := blk_frozen RR.out 0
    have y1 := (blk_cell RR.out 1).trans rfl
    have q1 := blk_frozen RR.out 1
    have y2 := (blk_cell RR.out 2).trans rfl
    have q2 := blk_frozen RR.out 2
    have y3 := (blk_cell RR.out 3).trans rfl
    have q3 := blk_frozen RR.out 3
    have y4 := (blk_cell RR.out 4).trans rfl
    have q4 := blk_frozen RR.out 4
    have y5 := (blk_cell RR.out 5).trans rfl
    have q5 := blk_frozen RR.out 5
    have y6 := (blk_cell RR.out 6).trans rfl
    have q6 := blk_frozen RR.out 6
    go_wp2_with fail
    have hf := put7 RR.out (.int .u8 0) (.int .u32 0) (.int .u32 0) (.int .u16 0) (.int .u16 0) (.int .u32 0) (.int .u32 0)
    have T9 := bel7 BB.out (Nat.le_refl _) (.int .u8 0) (.int .u32 0) (.int .u32 0) (.int .u16 0) (.int .u16 0) (.int .u32 0) (.int .u32 0)
    generalize (((((((W2.setCell ⟨w.heap.size, 0, none⟩ (.int .u8 0)).setCell ⟨w.heap.size, 1, none⟩ (.int .u32 0)).setCell ⟨w.heap.size, 2, none⟩ (.int .u32 0)).setCell ⟨w.heap.size, 3, none⟩ (.int .u16 0)).setCell ⟨w.heap.size, 4, none⟩ (.int .u16 0)).setCell ⟨w.heap.size, 5, none⟩ (.int .u32 0)).setCell ⟨w.heap.size, 6, none⟩ (.int .u32 0)) = w9 at hf T9 ⊢
    have HF := Lib.hid hf
    have TF := Lib.hid T9
    clear hf T9
    have c0 : w9.cell? ⟨w.heap.size, 0, none⟩ = some (.int .u8 0) := (blk_cell HF.out 0).trans rfl
    have c1 : w9.cell? ⟨w.heap.size, 1, none⟩ = some (.int .u32 0) := (blk_cell HF.out 1).trans rfl
    have c2 : w9.cell? ⟨w.heap.size, 2, none⟩ = some (.int .u32 0) := (blk_cell HF.out 2).trans rfl
    have c3 : w9.cell? ⟨w.heap.size, 3, none⟩ = some (.int .u16 0) := (blk_cell HF.out 3).trans rfl
    have c4 : w9.cell? ⟨w.heap.size, 4, none⟩ = some (.int .u16 0) := (blk_cell HF.out 4).trans rfl
    have c5 : w9.cell? ⟨w.heap.size, 5, none⟩ = some (.int .u32 0) := (blk_cell HF.out 5).trans rfl
    have c6 : w9.cell? ⟨w.heap.size, 6, none⟩ = some (.int .u32 0) := (blk_cell HF.out 6).trans rfl
    refine bodyPost_ret (v := .tuple #[.agg #[.int .u8 0, .int .u32 0, .int .u32 0, .int .u16 0, .int .u16 0, .int .u32 0, .int .u32 0], .bool false]) (by simp [results, Try.results19, go_sem, c0, c1, c2, c3, c4, c5, c6]) rfl ⟨TF.out, ?_⟩
    rw [HN.out, saidH_no HN.out]
    rfl
  by_cases i1 : 65535 < x1
  · have HN : Hid (fitsB (x1) (x2) = false) := Lib.hid (by simp [fitsB]; omega)
    have y0 := (blk_cell RR.out 0).trans rfl
    have q0 := blk_frozen RR.out 0
    have y1 := (blk_cell RR.out 1).trans rfl
    have q1 := blk_frozen RR.out 1
    have y2 := (blk_cell RR.out 2).trans rfl
    have q2 := blk_frozen RR.out 2
    have y3 := (blk_cell RR.out 3).trans rfl
    have q3 := blk_frozen RR.out 3
    have y4 := (blk_cell RR.out 4).trans rfl
    have q4 := blk_frozen RR.out 4
    have y5 := (blk_cell RR.out 5).trans rfl
    have q5 := blk_frozen RR.out 5
    have y6 := (blk_cell RR.out 6).trans rfl
    have q6 := blk_frozen RR.out 6
    go_wp2_with fail
    have hf := put7 RR.out (.int .u8 0) (.int .u32 0) (.int .u32 0) (.int .u16 0) (.int .u16 0) (.int .u32 0) (.int .u32 0)
    have T9 := bel7 BB.out (Nat.le_refl _) (.int .u8 0) (.int .u32 0) (.int .u32 0) (.int .u16 0) (.int .u16 0) (.int .u32 0) (.int .u32 0)
    generalize (((((((W2.setCell ⟨w.heap.size, 0, none⟩ (.int .u8 0)).setCell ⟨w.heap.size, 1, none⟩ (.int .u32 0)).setCell ⟨w.heap.size, 2, none⟩ (.int .u32 0)).setCell ⟨w.heap.size, 3, none⟩ (.int .u16 0)).setCell ⟨w.heap.size, 4, none⟩ (.int .u16 0)).setCell ⟨w.heap.size, 5, none⟩ (.int .u32 0)).setCell ⟨w.heap.size, 6, none⟩ (.int .u32 0)) = w9 at hf T9 ⊢
    have HF := Lib.hid hf
    have TF := Lib.hid T9
    clear hf T9
    have c0 : w9.cell? ⟨w.heap.size, 0, none⟩ = some (.int .u8 0) := (blk_cell HF.out 0).trans rfl
    have c1 : w9.cell? ⟨w.heap.size, 1, none⟩ = some (.int .u32 0) := (blk_cell HF.out 1).trans rfl
    have c2 : w9.cell? ⟨w.heap.size, 2, none⟩ = some (.int .u32 0) := (blk_cell HF.out 2).trans rfl
    have c3 : w9.cell? ⟨w.heap.size, 3, none⟩ = some (.int .u16 0) := (blk_cell HF.out 3).trans rfl
    have c4 : w9.cell? ⟨w.heap.size, 4, none⟩ = some (.int .u16 0) := (blk_cell HF.out 4).trans rfl
    have c5 : w9.cell? ⟨w.heap.size, 5, none⟩ = some (.int .u32 0) := (blk_cell HF.out 5).trans rfl
    have c6 : w9.cell? ⟨w.heap.size, 6, none⟩ = some (.int .u32 0) := (blk_cell HF.out 6).trans rfl
    refine bodyPost_ret (v := .tuple #[.agg #[.int .u8 0, .int .u32 0, .int .u32 0, .int .u16 0, .int .u16 0, .int .u32 0, .int .u32 0], .bool false]) (by simp [results, Try.results19, go_sem, c0, c1, c2, c3, c4, c5, c6]) rfl ⟨TF.out, ?_⟩
    rw [HN.out, saidH_no HN.out]
    rfl
  by_cases n0 : x2 < 0
  · have HN : Hid (fitsB (x1) (x2) = false) := Lib.hid (by simp [fitsB]; omega)
    have y0 := (blk_cell RR.out 0).trans rfl
    have q0 := blk_frozen RR.out 0
    have y1 := (blk_cell RR.out 1).trans rfl
    have q1 := blk_frozen RR.out 1
    have y2 := (blk_cell RR.out 2).trans rfl
    have q2 := blk_frozen RR.out 2
    have y3 := (blk_cell RR.out 3).trans rfl
    have q3 := blk_frozen RR.out 3
    have y4 := (blk_cell RR.out 4).trans rfl
    have q4 := blk_frozen RR.out 4
    have y5 := (blk_cell RR.out 5).trans rfl
    have q5 := blk_frozen RR.out 5
    have y6 := (blk_cell RR.out 6).trans rfl
    have q6 := blk_frozen RR.out 6
    go_wp2_with fail
    have hf := put7 RR.out (.int .u8 0) (.int .u32 0) (.int .u32 0) (.int .u16 0) (.int .u16 0) (.int .u32 0) (.int .u32 0)
    have T9 := bel7 BB.out (Nat.le_refl _) (.int .u8 0) (.int .u32 0) (.int .u32 0) (.int .u16 0) (.int .u16 0) (.int .u32 0) (.int .u32 0)
    generalize (((((((W2.setCell ⟨w.heap.size, 0, none⟩ (.int .u8 0)).setCell ⟨w.heap.size, 1, none⟩ (.int .u32 0)).setCell ⟨w.heap.size, 2, none⟩ (.int .u32 0)).setCell ⟨w.heap.size, 3, none⟩ (.int .u16 0)).setCell ⟨w.heap.size, 4, none⟩ (.int .u16 0)).setCell ⟨w.heap.size, 5, none⟩ (.int .u32 0)).setCell ⟨w.heap.size, 6, none⟩ (.int .u32 0)) = w9 at hf T9 ⊢
    have HF := Lib.hid hf
    have TF := Lib.hid T9
    clear hf T9
    have c0 : w9.cell? ⟨w.heap.size, 0, none⟩ = some (.int .u8 0) := (blk_cell HF.out 0).trans rfl
    have c1 : w9.cell? ⟨w.heap.size, 1, none⟩ = some (.int .u32 0) := (blk_cell HF.out 1).trans rfl
    have c2 : w9.cell? ⟨w.heap.size, 2, none⟩ = some (.int .u32 0) := (blk_cell HF.out 2).trans rfl
    have c3 : w9.cell? ⟨w.heap.size, 3, none⟩ = some (.int .u16 0) := (blk_cell HF.out 3).trans rfl
    have c4 : w9.cell? ⟨w.heap.size, 4, none⟩ = some (.int .u16 0) := (blk_cell HF.out 4).trans rfl
    have c5 : w9.cell? ⟨w.heap.size, 5, none⟩ = some (.int .u32 0) := (blk_cell HF.out 5).trans rfl
    have c6 : w9.cell? ⟨w.heap.size, 6, none⟩ = some (.int .u32 0) := (blk_cell HF.out 6).trans rfl
    refine bodyPost_ret (v := .tuple #[.agg #[.int .u8 0, .int .u32 0, .int .u32 0, .int .u16 0, .int .u16 0, .int .u32 0, .int .u32 0], .bool false]) (by simp [results, Try.results19, go_sem, c0, c1, c2, c3, c4, c5, c6]) rfl ⟨TF.out, ?_⟩
    rw [HN.out, saidH_no HN.out]
    rfl
  by_cases n1 : 65535 < x2
  · have HN : Hid (fitsB (x1) (x2) = false) := Lib.hid (by simp [fitsB]; omega)
    have y0 := (blk_cell RR.out 0).trans rfl
    have q0 := blk_frozen RR.out 0
    have y1 := (blk_cell RR.out 1).trans rfl
    have q1 := blk_frozen RR.out 1
    have y2 := (blk_cell RR.out 2).trans rfl
    have q2 := blk_frozen RR.out 2
    have y3 := (blk_cell RR.out 3).trans rfl
    have q3 := blk_frozen RR.out 3
    have y4 := (blk_cell RR.out 4).trans rfl
    have q4 := blk_frozen RR.out 4
    have y5 := (blk_cell RR.out 5).trans rfl
    have q5 := blk_frozen RR.out 5
    have y6 := (blk_cell RR.out 6).trans rfl
    have q6 := blk_frozen RR.out 6
    go_wp2_with fail
    have hf := put7 RR.out (.int .u8 0) (.int .u32 0) (.int .u32 0) (.int .u16 0) (.int .u16 0) (.int .u32 0) (.int .u32 0)
    have T9 := bel7 BB.out (Nat.le_refl _) (.int .u8 0) (.int .u32 0) (.int .u32 0) (.int .u16 0) (.int .u16 0) (.int .u32 0) (.int .u32 0)
    generalize (((((((W2.setCell ⟨w.heap.size, 0, none⟩ (.int .u8 0)).setCell ⟨w.heap.size, 1, none⟩ (.int .u32 0)).setCell ⟨w.heap.size, 2, none⟩ (.int .u32 0)).setCell ⟨w.heap.size, 3, none⟩ (.int .u16 0)).setCell ⟨w.heap.size, 4, none⟩ (.int .u16 0)).setCell ⟨w.heap.size, 5, none⟩ (.int .u32 0)).setCell ⟨w.heap.size, 6, none⟩ (.int .u32 0)) = w9 at hf T9 ⊢
    have HF := Lib.hid hf
    have TF := Lib.hid T9
    clear hf T9
    have c0 : w9.cell? ⟨w.heap.size, 0, none⟩ = some (.int .u8 0) := (blk_cell HF.out 0).trans rfl
    have c1 : w9.cell? ⟨w.heap.size, 1, none⟩ = some (.int .u32 0) := (blk_cell HF.out 1).trans rfl
    have c2 : w9.cell? ⟨w.heap.size, 2, none⟩ = some (.int .u32 0) := (blk_cell HF.out 2).trans rfl
    have c3 : w9.cell? ⟨w.heap.size, 3, none⟩ = some (.int .u16 0) := (blk_cell HF.out 3).trans rfl
    have c4 : w9.cell? ⟨w.heap.size, 4, none⟩ = some (.int .u16 0) := (blk_cell HF.out 4).trans rfl
    have c5 : w9.cell? ⟨w.heap.size, 5, none⟩ = some (.int .u32 0) := (blk_cell HF.out 5).trans rfl
    have c6 : w9.cell? ⟨w.heap.size, 6, none⟩ = some (.int .u32 0) := (blk_cell HF.out 6).trans rfl
    refine bodyPost_ret (v := .tuple #[.agg #[.int .u8 0, .int .u32 0, .int .u32 0, .int .u16 0, .int .u16 0, .int .u32 0, .int .u32 0], .bool false]) (by simp [results, Try.results19, go_sem, c0, c1, c2, c3, c4, c5, c6]) rfl ⟨TF.out, ?_⟩
    rw [HN.out, saidH_no HN.out]
    rfl
  have HN : Hid (fitsB (x1) (x2) = true) := Lib.hid (by simp [fitsB]; omega)
  have uw1 := u16w (i := x1) (by omega) (by omega)
  have uw2 := u16w (i := x2) (by omega) (by omega)
  have y0 := (blk_cell RR.out 0).trans rfl
  have q0 := blk_frozen RR.out 0
  have y1 := (blk_cell RR.out 1).trans rfl
  have q1 := blk_frozen RR.out 1
  have y2 := (blk_cell RR.out 2).trans rfl
  have q2 := blk_frozen RR.out 2
  have y3 := (blk_cell RR.out 3).trans rfl
  have q3 := blk_frozen RR.out 3
  have y4 := (blk_cell RR.out 4).trans rfl
  have q4 := blk_frozen RR.out 4
  have y5 := (blk_cell RR.out 5).trans rfl
  have q5 := blk_frozen RR.out 5
  have y6 := (blk_cell RR.out 6).trans rfl
  have q6 := blk_frozen RR.out 6
  have h0_ := (blk_cell HH.out 0).trans rfl
  have h1_ := (blk_cell HH.out 1).trans rfl
  have h2_ := (blk_cell HH.out 2).trans rfl
  have h3_ := (blk_cell HH.out 3).trans rfl
  have h4_ := (blk_cell HH.out 4).trans rfl
  have h5_ := (blk_cell HH.out 5).trans rfl
  have h6_ := (blk_cell HH.out 6).trans rfl
  have hf3_ := blk_frozen HH.out 3
  have hf4_ := blk_frozen HH.out 4
  go_wp2_with fail
  have r3 := blk_far (blk_far RR.out (p := ⟨w.heap.size + 1, 3, none⟩) (by show w.heap.size ≠ w.heap.size + 1; omega) (.int .u16 (x1))) (p := ⟨w.heap.size + 1, 4, none⟩) (by show w.heap.size ≠ w.heap.size + 1; omega) (.int .u16 (x2))
  have b3 := bl_set (bl_set BB.out (p := ⟨w.heap.size + 1, 3, none⟩) (by show w.heap.size ≤ w.heap.size + 1; omega) (.int .u16 (x1))) (p := ⟨w.heap.size + 1, 4, none⟩) (by show w.heap.size ≤ w.heap.size + 1; omega) (.int .u16 (x2))
  have hf := put7 r3 (.int .u8 3) (.int .u32 x0) (.int .u32 0) (.int .u16 x1) (.int .u16 x2) (.int .u32 0) (.int .u32 0)
  have T9 := bel7 b3 (Nat.le_refl _) (.int .u8 3) (.int .u32 x0) (.int .u32 0) (.int .u16 x1) (.int .u16 x2) (.int .u32 0) (.int .u32 0)
  generalize (((((((((W2.setCell ⟨w.heap.size + 1, 3, none⟩ (.int .u16 (x1))).setCell ⟨w.heap.size + 1, 4, none⟩ (.int .u16 (x2))).setCell ⟨w.heap.size, 0, none⟩ (.int .u8 3)).setCell ⟨w.heap.size, 1, none⟩ (.int .u32 x0)).setCell ⟨w.heap.size, 2, none⟩ (.int .u32 0)).setCell ⟨w.heap.size, 3, none⟩ (.int .u16 x1)).setCell ⟨w.heap.size, 4, none⟩ (.int .u16 x2)).setCell ⟨w.heap.size, 5, none⟩ (.int .u32 0)).setCell ⟨w.heap.size, 6, none⟩ (.int .u32 0)) = w9 at hf T9 ⊢
  have HF := Lib.hid hf
  have TF := Lib.hid T9
  clear hf T9 r3 b3
  have c0 : w9.cell? ⟨w.heap.size, 0, none⟩ = some (.int .u8 3) := (blk_cell HF.out 0).trans rfl
  have c1 : w9.cell? ⟨w.heap.size, 1, none⟩ = some (.int .u32 x0) := (blk_cell HF.out 1).trans rfl
  have c2 : w9.cell? ⟨w.heap.size, 2, none⟩ = some (.int .u32 0) := (blk_cell HF.out 2).trans rfl
  have c3 : w9.cell? ⟨w.heap.size, 3, none⟩ = some (.int .u16 x1) := (blk_cell HF.out 3).trans rfl
  have c4 : w9.cell? ⟨w.heap.size, 4, none⟩ = some (.int .u16 x2) := (blk_cell HF.out 4).trans rfl
  have c5 : w9.cell? ⟨w.heap.size, 5, none⟩ = some (.int .u32 0) := (blk_cell HF.out 5).trans rfl
  have c6 : w9.cell? ⟨w.heap.size, 6, none⟩ = some (.int .u32 0) := (blk_cell HF.out 6).trans rfl
  refine bodyPost_ret (v := .tuple #[.agg #[.int .u8 3, .int .u32 x0, .int .u32 0, .int .u16 x1, .int .u16 x2, .int .u32 0, .int .u32 0], .bool true]) (by simp [results, Try.results19, go_sem, c0, c1, c2, c3, c4, c5, c6]) rfl ⟨TF.out, ?_⟩
  rw [HN.out, saidH_yes HN.out]
set_option maxHeartbeats 4000000 in
set_option maxRecDepth 100000 in
theorem said_Data (x0 x1 x2 x3 x4 : Int) (w : World) : Calls Try.prog 19 #[(.iface 53 (.agg #[.int .u32 x0, .int .u32 x1, .int .i64 x2, .int .i64 x3, .int .u32 x4]))] w fun e w' => Below w.heap.size w w' ∧ e = .returned (.tuple #[.agg (hdC (saidH ⟨4, x0, x1, 0, 0, x4, 0⟩ (x2) (x3))), .bool (fitsB (x2) (x3))]) := by
  have ta0 : ∀ W : World, (Instr.typeAssert (.iface 53 (.agg #[.int .u32 x0, .int .u32 x1, .int .i64 x2, .int .i64 x3, .int .u32 x4])) 20 87 true).run Try.prog W = .ok (.tuple #[.agg #[.int .u32 0, .int .i64 0, .int .i64 0], .bool false]) W := fun W => by first | rfl | kernel_rfl
  have ta1 : ∀ W : World, (Instr.typeAssert (.iface 53 (.agg #[.int .u32 x0, .int .u32 x1, .int .i64 x2, .int .i64 x3, .int .u32 x4])) 20 89 true).run Try.prog W = .ok (.tuple #[.agg #[.int .u32 0], .bool false]) W := fun W => by first | rfl | kernel_rfl
  have ta2 : ∀ W : World, (Instr.typeAssert (.iface 53 (.agg #[.int .u32 x0, .int .u32 x1, .int .i64 x2, .int .i64 x3, .int .u32 x4])) 20 90 true).run Try.prog W = .ok (.tuple #[.agg #[.int .u32 0, .int .i64 0, .int .i64 0], .bool false]) W := fun W => by first | rfl | kernel_rfl
  have ta3 : ∀ W : World, (Instr.typeAssert (.iface 53 (.agg #[.int .u32 x0, .int .u32 x1, .int .i64 x2, .int .i64 x3, .int .u32 x4])) 20 53 true).run Try.prog W = .ok (.tuple #[.agg #[.int .u32 x0, .int .u32 x1, .int .i64 x2, .int .i64 x3, .int .u32 x4], .bool true]) W := fun W => by first | rfl | kernel_rfl
  go_enter Try.func19, Try.ntmps19
  go_wp2_with fail
  have ha := alloc3 w #[.int .u8 0, .int .u32 0, .int .u32 0, .int .u16 0, .int .u16 0, .int .u32 0, .int .u32 0] #[.int .u8 0, .int .u32 0, .int .u32 0, .int .u16 0, .int .u16 0, .int .u32 0, .int .u32 0] #[.int .u32 x0, .int .u32 x1, .int .i64 x2, .int .i64 x3, .int .u32 x4] 25 25 53 _ rfl
  obtain ⟨W, hW⟩ : ∃ W, (((w.alloc (.cells #[.int .u8 0, .int .u32 0, .int .u32 0, .int .u16 0, .int .u16 0, .int .u32 0, .int .u32 0] 25)).alloc (.cells #[.int .u8 0, .int .u32 0, .int .u32 0, .int .u16 0, .int .u16 0, .int .u32 0, .int .u32 0] 25)).alloc (.cells #[.int .u32 x0, .int .u32 x1, .int .i64 x2, .int .i64 x3, .int .u32 x4] 53)) = W := ⟨_, rfl⟩
  rw [hW] at ha ⊢
  have HW := Lib.hid ha
  clear hW ha
  have yc0 : W.cell? ⟨w.heap.size + 1 + 1, 0, none⟩ = some (.int .u32 x0) := (blk_cell HW.out.2.2.1 0).trans rfl
  have yc1 : W.cell? ⟨w.heap.size + 1 + 1, 1, none⟩ = some (.int .u32 x1) := (blk_cell HW.out.2.2.1 1).trans rfl
  have yc2 : W.cell? ⟨w.heap.size + 1 + 1, 2, none⟩ = some (.int .i64 x2) := (blk_cell HW.out.2.2.1 2).trans rfl
  have yc3 : W.cell? ⟨w.heap.size + 1 + 1, 3, none⟩ = some (.int .i64 x3) := (blk_cell HW.out.2.2.1 3).trans rfl
  have yc4 : W.cell? ⟨w.heap.size + 1 + 1, 4, none⟩ = some (.int .u32 x4) := (blk_cell HW.out.2.2.1 4).trans rfl
  have zc0 : W.cell? ⟨w.heap.size + 1, 0, none⟩ = some (.int .u8 0) := (blk_cell HW.out.2.1 0).trans rfl
  have zf0 := blk_frozen HW.out.2.1 0
  have zc1 : W.cell? ⟨w.heap.size + 1, 1, none⟩ = some (.int .u32 0) := (blk_cell HW.out.2.1 1).trans rfl
  have zf1 := blk_frozen HW.out.2.1 1
  have zc2 : W.cell? ⟨w.heap.size + 1, 2, none⟩ = some (.int .u32 0) := (blk_cell HW.out.2.1 2).trans rfl
  have zf2 := blk_frozen HW.out.2.1 2
  have zc3 : W.cell? ⟨w.heap.size + 1, 3, none⟩ = some (.int .u16 0) := (blk_cell HW.out.2.1 3).trans rfl
  have zf3 := blk_frozen HW.out.2.1 3
  have zc4 : W.cell? ⟨w.heap.size + 1, 4, none⟩ = some (.int .u16 0) := (blk_cell HW.out.2.1 4).trans rfl
  have zf4 := blk_frozen HW.out.2.1 4
  have zc5 : W.cell? ⟨w.heap.size + 1, 5, none⟩ = some (.int .u32 0) := (blk_cell HW.out.2.1 5).trans rfl
  have zf5 := blk_frozen HW.out.2.1 5
  have zc6 : W.cell? ⟨w.heap.size + 1, 6, none⟩ = some (.int .u32 0) := (blk_cell HW.out.2.1 6).trans rfl
  have zf6 := blk_frozen HW.out.2.1 6
  go_region
  have hh := put7 HW.out.2.1 (.int .u8 4) (.int .u32 x0) (.int .u32 x1) (.int .u16 0) (.int .u16 0) (.int .u32 x4) (.int .u32 0)
  have rr := far7 HW.out.1 (show w.heap.size ≠ w.heap.size + 1 by omega) (.int .u8 4) (.int .u32 x0) (.int .u32 x1) (.int .u16 0) (.int .u16 0) (.int .u32 x4) (.int .u32 0)
  have bb := bel7 HW.out.2.2.2 (show w.heap.size ≤ w.heap.size + 1 by omega) (.int .u8 4) (.int .u32 x0) (.int .u32 x1) (.int .u16 0) (.int .u16 0) (.int .u32 x4) (.int .u32 0)
  generalize (((((((W.setCell ⟨w.heap.size + 1, 0, none⟩ (.int .u8 4)).setCell ⟨w.heap.size + 1, 1, none⟩ (.int .u32 x0)).setCell ⟨w.heap.size + 1, 2, none⟩ (.int .u32 x1)).setCell ⟨w.heap.size + 1, 3, none⟩ (.int .u16 0)).setCell ⟨w.heap.size + 1, 4, none⟩ (.int .u16 0)).setCell ⟨w.heap.size + 1, 5, none⟩ (.int .u32 x4)).setCell ⟨w.heap.size + 1, 6, none⟩ (.int .u32 0)) = Wc at hh rr bb ⊢
  replace hh : Wc.drew.heap[w.heap.size + 1]? = some (.cells #[.int .u8 4, .int .u32 x0, .int .u32 x1, .int .u16 0, .int .u16 0, .int .u32 x4, .int .u32 0] 25 (0, 0)) := hh
  replace rr : Wc.drew.heap[w.heap.size]? = some (.cells #[.int .u8 0, .int .u32 0, .int .u32 0, .int .u16 0, .int .u16 0, .int .u32 0, .int .u32 0] 25 (0, 0)) := rr
  replace bb : Below w.heap.size w Wc.drew := bl_drew bb
  generalize Wc.drew = W2 at hh rr bb ⊢
  have HH := Lib.hid hh
  have RR := Lib.hid rr
  have BB := Lib.hid bb
  clear hh rr bb HW yc0 yc1 yc2 yc3 yc4 zc0 zf0 zc1 zf1 zc2 zf2 zc3 zf3 zc4 zf4 zc5 zf5 zc6 zf6
  by_cases i0 : x2 < 0
  · have HN : Hid (fitsB (x2) (x3) = false) := Lib.hid (by simp [fitsB]; omega)
    have y0 := (blk_cell RR.out 0).trans rfl
    have q0 := blk_frozen RR.out 0
    have y1 := (blk_cell RR.out 1).trans rfl
    have q1 := blk_frozen RR.out 1
    have y2 := (blk_cell RR.out 2).trans rfl
    have q2 := blk_frozen RR.out 2
    have y3 := (blk_cell RR.out 3).trans rfl
    have q3 := blk_frozen RR.out 3
    have y4 := (blk_cell RR.out 4).trans rfl
    have q4 := blk_frozen RR.out 4
    have y5 := (blk_cell RR.out 5).trans rfl
    have q5 := blk_frozen RR.out 5
    have y6 := (blk_cell RR.out 6).trans rfl
    have q6 := blk_frozen RR.out 6
    go_wp2_with fail
    have hf := put7 RR.out (.int .u8 0) (.int .u32 0) (.int .u32 0) (.int .u16 0) (.int .u16 0) (.int .u32 0) (.int .u32 0)
    have T9 := bel7 BB.out (Nat.le_refl _) (.int .u8 0) (.int .u32 0) (.int .u32 0) (.int .u16 0) (.int .u16 0) (.int .u32 0) (.int .u32 0)
    generalize (((((((W2.setCell ⟨w.heap.size, 0, none⟩ (.int .u8 0)).setCell ⟨w.heap.size, 1, none⟩ (.int .u32 0)).setCell ⟨w.heap.size, 2, none⟩ (.int .u32 0)).setCell ⟨w.heap.size, 3, none⟩ (.int .u16 0)).setCell ⟨w.heap.size, 4, none⟩ (.int .u16 0)).setCell ⟨w.heap.size, 5, none⟩ (.int .u32 0)).setCell ⟨w.heap.size, 6, none⟩ (.int .u32 0)) = w9 at hf T9 ⊢
    have HF := Lib.hid hf
    have TF := Lib.hid T9
    clear hf T9
    have c0 : w9.cell? ⟨w.heap.size, 0, none⟩ = some (.int .u8 0) := (blk_cell HF.out 0).trans rfl
    have c1 : w9.cell? ⟨w.heap.size, 1, none⟩ = some (.int .u32 0) := (blk_cell HF.out 1).trans rfl
    have c2 : w9.cell? ⟨w.heap.size, 2, none⟩ = some (.int .u32 0) := (blk_cell HF.out 2).trans rfl
    have c3 : w9.cell? ⟨w.heap.size, 3, none⟩ = some (.int .u16 0) := (blk_cell HF.out 3).trans rfl
    have c4 : w9.cell? ⟨w.heap.size, 4, none⟩ = some (.int .u16 0) := (blk_cell HF.out 4).trans rfl
    have c5 : w9.cell? ⟨w.heap.size, 5, none⟩ = some (.int .u32 0) := (blk_cell HF.out 5).trans rfl
    have c6 : w9.cell? ⟨w.heap.size, 6, none⟩ = some (.int .u32 0) := (blk_cell HF.out 6).trans rfl
    refine bodyPost_ret (v := .tuple #[.agg #[.int .u8 0, .int .u32 0, .int .u32 0, .int .u16 0, .int .u16 0, .int .u32 0, .int .u32 0], .bool false]) (by simp [results, Try.results19, go_sem, c0, c1, c2, c3, c4, c5, c6]) rfl ⟨TF.out, ?_⟩
    rw [HN.out, saidH_no HN.out]
    rfl
  by_cases i1 : 65535 < x2
  · have HN : Hid (fitsB (x2) (x3) = false) := Lib.hid (by simp [fitsB]; omega)
    have y0 := (blk_cell RR.out 0).trans rfl
    have q0 := blk_frozen RR.out 0
    have y1 := (blk_cell RR.out 1).trans rfl
    have q1 := blk_frozen RR.out 1
    have y2 := (blk_cell RR.out 2).trans rfl
    have q2 := blk_frozen RR.out 2
    have y3 := (blk_cell RR.out 3).trans rfl
    have q3 := blk_frozen RR.out 3
    have y4 := (blk_cell RR.out 4).trans rfl
    have q4 := blk_frozen RR.out 4
    have y5 := (blk_cell RR.out 5).trans rfl
    have q5 := blk_frozen RR.out 5
    have y6 := (blk_cell RR.out 6).trans rfl
    have q6 := blk_frozen RR.out 6
    go_wp2_with fail
    have hf := put7 RR.out (.int .u8 0) (.int .u32 0) (.int .u32 0) (.int .u16 0) (.int .u16 0) (.int .u32 0) (.int .u32 0)
    have T9 := bel7 BB.out (Nat.le_refl _) (.int .u8 0) (.int .u32 0) (.int .u32 0) (.int .u16 0) (.int .u16 0) (.int .u32 0) (.int .u32 0)
    generalize (((((((W2.setCell ⟨w.heap.size, 0, none⟩ (.int .u8 0)).setCell ⟨w.heap.size, 1, none⟩ (.int .u32 0)).setCell ⟨w.heap.size, 2, none⟩ (.int .u32 0)).setCell ⟨w.heap.size, 3, none⟩ (.int .u16 0)).setCell ⟨w.heap.size, 4, none⟩ (.int .u16 0)).setCell ⟨w.heap.size, 5, none⟩ (.int .u32 0)).setCell ⟨w.heap.size, 6, none⟩ (.int .u32 0)) = w9 at hf T9 ⊢
    have HF := Lib.hid hf
    have TF := Lib.hid T9
    clear hf T9
    have c0 : w9.cell? ⟨w.heap.size, 0, none⟩ = some (.int .u8 0) := (blk_cell HF.out 0).trans rfl
    have c1 : w9.cell? ⟨w.heap.size, 1, none⟩ = some (.int .u32 0) := (blk_cell HF.out 1).trans rfl
    have c2 : w9.cell? ⟨w.heap.size, 2, none⟩ = some (.int .u32 0) := (blk_cell HF.out 2).trans rfl
    have c3 : w9.cell? ⟨w.heap.size, 3, none⟩ = some (.int .u16 0) := (blk_cell HF.out 3).trans rfl
    have c4 : w9.cell? ⟨w.heap.size, 4, none⟩ = some (.int .u16 0) := (blk_cell HF.out 4).trans rfl
    have c5 : w9.cell? ⟨w.heap.size, 5, none⟩ = some (.int .u32 0) := (blk_cell HF.out 5).trans rfl
    have c6 : w9.cell? ⟨w.heap.size, 6, none⟩ = some (.int .u32 0) := (blk_cell HF.out 6).trans rfl
    refine bodyPost_ret (v := .tuple #[.agg #[.int .u8 0, .int .u32 0, .int .u32 0, .int .u16 0, .int .u16 0, .int .u32 0, .int .u32 0], .bool false]) (by simp [results, Try.results19, go_sem, c0, c1, c2, c3, c4, c5, c6]) rfl ⟨TF.out, ?_⟩
    rw [HN.out, saidH_no HN.out]
    rfl
  by_cases n0 : x3 < 0
  · have HN : Hid (fitsB (x2) (x3) = false) := Lib.hid (by simp [fitsB]; omega)
    have y0 := (blk_cell RR.out 0).trans rfl
    have q0 := blk_frozen RR.out 0
    have y1 := (blk_cell RR.out 1).trans rfl
    have q1 := blk_frozen RR.out 1
    have y2 := (blk_cell RR.out 2).trans rfl
    have q2 := blk_frozen RR.out 2
    have y3 := (blk_cell RR.out 3).trans rfl
    have q3 := blk_frozen RR.out 3
    have y4 := (blk_cell RR.out 4).trans rfl
    have q4 := blk_frozen RR.out 4
    have y5 := (blk_cell RR.out 5).trans rfl
    have q5 := blk_frozen RR.out 5
    have y6 := (blk_cell RR.out 6).trans rfl
    have q6 := blk_frozen RR.out 6
    go_wp2_with fail
    have hf := put7 RR.out (.int .u8 0) (.int .u32 0) (.int .u32 0) (.int .u16 0) (.int .u16 0) (.int .u32 0) (.int .u32 0)
    have T9 := bel7 BB.out (Nat.le_refl _) (.int .u8 0) (.int .u32 0) (.int .u32 0) (.int .u16 0) (.int .u16 0) (.int .u32 0) (.int .u32 0)
    generalize (((((((W2.setCell ⟨w.heap.size, 0, none⟩ (.int .u8 0)).setCell ⟨w.heap.size, 1, none⟩ (.int .u32 0)).setCell ⟨w.heap.size, 2, none⟩ (.int .u32 0)).setCell ⟨w.heap.size, 3, none⟩ (.int .u16 0)).setCell ⟨w.heap.size, 4, none⟩ (.int .u16 0)).setCell ⟨w.heap.size, 5, none⟩ (.int .u32 0)).setCell ⟨w.heap.size, 6, none⟩ (.int .u32 0)) = w9 at hf T9 ⊢
    have HF := Lib.hid hf
    have TF := Lib.hid T9
    clear hf T9
    have c0 : w9.cell? ⟨w.heap.size, 0, none⟩ = some (.int .u8 0) := (blk_cell HF.out 0).trans rfl
    have c1 : w9.cell? ⟨w.heap.size, 1, none⟩ = some (.int .u32 0) := (blk_cell HF.out 1).trans rfl
    have c2 : w9.cell? ⟨w.heap.size, 2, none⟩ = some (.int .u32 0) := (blk_cell HF.out 2).trans rfl
    have c3 : w9.cell? ⟨w.heap.size, 3, none⟩ = some (.int .u16 0) := (blk_cell HF.out 3).trans rfl
    have c4 : w9.cell? ⟨w.heap.size, 4, none⟩ = some (.int .u16 0) := (blk_cell HF.out 4).trans rfl
    have c5 : w9.cell? ⟨w.heap.size, 5, none⟩ = some (.int .u32 0) := (blk_cell HF.out 5).trans rfl
    have c6 : w9.cell? ⟨w.heap.size, 6, none⟩ = some (.int .u32 0) := (blk_cell HF.out 6).trans rfl
    refine bodyPost_ret (v := .tuple #[.agg #[.int .u8 0, .int .u32 0, .int .u32 0, .int .u16 0, .int .u16 0, .int .u32 0, .int .u32 0], .bool false]) (by simp [results, Try.results19, go_sem, c0, c1, c2, c3, c4, c5, c6]) rfl ⟨TF.out, ?_⟩
    rw [HN.out, saidH_no HN.out]
    rfl
  by_cases n1 : 65535 < x3
  · have HN : Hid (fitsB (x2) (x3) = false) := Lib.hid (by simp [fitsB]; omega)
    have y0 := (blk_cell RR.out 0).trans rfl
    have q0 := blk_frozen RR.out 0
    have y1 := (blk_cell RR.out 1).trans rfl
    have q1 := blk_frozen RR.out 1
    have y2 := (blk_cell RR.out 2).trans rfl
    have q2 := blk_frozen RR.out 2
    have y3 := (blk_cell RR.out 3).trans rfl
    have q3 := blk_frozen RR.out 3
    have y4 := (blk_cell RR.out 4).trans rfl
    have q4 := blk_frozen RR.out 4
    have y5 := (blk_cell RR.out 5).trans rfl
    have q5 := blk_frozen RR.out 5
    have y6 := (blk_cell RR.out 6).trans rfl
    have q6 := blk_frozen RR.out 6
    go_wp2_with fail
    have hf := put7 RR.out (.int .u8 0) (.int .u32 0) (.int .u32 0) (.int .u16 0) (.int .u16 0) (.int .u32 0) (.int .u32 0)
    have T9 := bel7 BB.out (Nat.le_refl _) (.int .u8 0) (.int .u32 0) (.int .u32 0) (.int .u16 0) (.int .u16 0) (.int .u32 0) (.int .u32 0)
    generalize (((((((W2.setCell ⟨w.heap.size, 0, none⟩ (.int .u8 0)).setCell ⟨w.heap.size, 1, none⟩ (.int .u32 0)).setCell ⟨w.heap.size, 2, none⟩ (.int .u32 0)).setCell ⟨w.heap.size, 3, none⟩ (.int .u16 0)).setCell ⟨w.heap.size, 4, none⟩ (.int .u16 0)).setCell ⟨w.heap.size, 5, none⟩ (.int .u32 0)).setCell ⟨w.heap.size, 6, none⟩ (.int .u32 0)) = w9 at hf T9 ⊢
    have HF := Lib.hid hf
    have TF := Lib.hid T9
    clear hf T9
    have c0 : w9.cell? ⟨w.heap.size, 0, none⟩ = some (.int .u8 0) := (blk_cell HF.out 0).trans rfl
    have c1 : w9.cell? ⟨w.heap.size, 1, none⟩ = some (.int .u32 0) := (blk_cell HF.out 1).trans rfl
    have c2 : w9.cell? ⟨w.heap.size, 2, none⟩ = some (.int .u32 0) := (blk_cell HF.out 2).trans rfl
    have c3 : w9.cell? ⟨w.heap.size, 3, none⟩ = some (.int .u16 0) := (blk_cell HF.out 3).trans rfl
    have c4 : w9.cell? ⟨w.heap.size, 4, none⟩ = some (.int .u16 0) := (blk_cell HF.out 4).trans rfl
    have c5 : w9.cell? ⟨w.heap.size, 5, none⟩ = some (.int .u32 0) := (blk_cell HF.out 5).trans rfl
    have c6 : w9.cell? ⟨w.heap.size, 6, none⟩ = some (.int .u32 0) := (blk_cell HF.out 6).trans rfl
    refine bodyPost_ret (v := .tuple #[.agg #[.int .u8 0, .int .u32 0, .int .u32 0, .int .u16 0, .int .u16 0, .int .u32 0, .int .u32 0], .bool false]) (by simp [results, Try.results19, go_sem, c0, c1, c2, c3, c4, c5, c6]) rfl ⟨TF.out, ?_⟩
    rw [HN.out, saidH_no HN.out]
    rfl
  have HN : Hid (fitsB (x2) (x3) = true) := Lib.hid (by simp [fitsB]; omega)
  have uw1 := u16w (i := x2) (by omega) (by omega)
  have uw2 := u16w (i := x3) (by omega) (by omega)
  have y0 := (blk_cell RR.out 0).trans rfl
  have q0 := blk_frozen RR.out 0
  have y1 := (blk_cell RR.out 1).trans rfl
  have q1 := blk_frozen RR.out 1
  have y2 := (blk_cell RR.out 2).trans rfl
  have q2 := blk_frozen RR.out 2
  have y3 := (blk_cell RR.out 3).trans rfl
  have q3 := blk_frozen RR.out 3
  have y4 := (blk_cell RR.out 4).trans rfl
  have q4 := blk_frozen RR.out 4
  have y5 := (blk_cell RR.out 5).trans rfl
  have q5 := blk_frozen RR.out 5
  have y6 := (blk_cell RR.out 6).trans rfl
  have q6 := blk_frozen RR.out 6
  have h0_ := (blk_cell HH.out 0).trans rfl
  have h1_ := (blk_cell HH.out 1).trans rfl
  have h2_ := (blk_cell HH.out 2).trans rfl
  have h3_ := (blk_cell HH.out 3).trans rfl
  have h4_ := (blk_cell HH.out 4).trans rfl
  have h5_ := (blk_cell HH.out 5).trans rfl
  have h6_ := (blk_cell HH.out 6).trans rfl
  have hf3_ := blk_frozen HH.out 3
  have hf4_ := blk_frozen HH.out 4
  go_wp2_with fail
  have r3 := blk_far (blk_far RR.out (p := ⟨w.heap.size + 1, 3, none⟩) (by show w.heap.size ≠ w.heap.size + 1; omega) (.int .u16 (x2))) (p := ⟨w.heap.size + 1, 4, none⟩) (by show w.heap.size ≠ w.heap.size + 1; omega) (.int .u16 (x3))
  have b3 := bl_set (bl_set BB.out (p := ⟨w.heap.size + 1, 3, none⟩) (by show w.heap.size ≤ w.heap.size + 1; omega) (.int .u16 (x2))) (p := ⟨w.heap.size + 1, 4, none⟩) (by show w.heap.size ≤ w.heap.size + 1; omega) (.int .u16 (x3))
  have hf := put7 r3 (.int .u8 4) (.int .u32 x0) (.int .u32 x1) (.int .u16 x2) (.int .u16 x3) (.int .u32 x4) (.int .u32 0)
  have T9 := bel7 b3 (Nat.le_refl _) (.int .u8 4) (.int .u32 x0) (.int .u32 x1) (.int .u16 x2) (.int .u16 x3) (.int .u32 x4) (.int .u32 0)
  generalize (((((((((W2.setCell ⟨w.heap.size + 1, 3, none⟩ (.int .u16 (x2))).setCell ⟨w.heap.size + 1, 4, none⟩ (.int .u16 (x3))).setCell ⟨w.heap.size, 0, none⟩ (.int .u8 4)).setCell ⟨w.heap.size, 1, none⟩ (.int .u32 x0)).setCell ⟨w.heap.size, 2, none⟩ (.int .u32 x1)).setCell ⟨w.heap.size, 3, none⟩ (.int .u16 x2)).setCell ⟨w.heap.size, 4, none⟩ (.int .u16 x3)).setCell ⟨w.heap.size, 5, none⟩ (.int .u32 x4)).setCell ⟨w.heap.size, 6, none⟩ (.int .u32 0)) = w9 at hf T9 ⊢
  have HF := Lib.hid hf
  have TF := Lib.hid T9
  clear hf T9 r3 b3
  have c0 : w9.cell? ⟨w.heap.size, 0, none⟩ = some (.int .u8 4) := (blk_cell HF.out 0).trans rfl
  have c1 : w9.cell? ⟨w.heap.size, 1, none⟩ = some (.int .u32 x0) := (blk_cell HF.out 1).trans rfl
  have c2 : w9.cell? ⟨w.heap.size, 2, none⟩ = some (.int .u32 x1) := (blk_cell HF.out 2).trans rfl
  have c3 : w9.cell? ⟨w.heap.size, 3, none⟩ = some (.int .u16 x2) := (blk_cell HF.out 3).trans rfl
  have c4 : w9.cell? ⟨w.heap.size, 4, none⟩ = some (.int .u16 x3) := (blk_cell HF.out 4).trans rfl
  have c5 : w9.cell? ⟨w.heap.size, 5, none⟩ = some (.int .u32 x4) := (blk_cell HF.out 5).trans rfl
  have c6 : w9.cell? ⟨w.heap.size, 6, none⟩ = some (.int .u32 0) := (blk_cell HF.out 6).trans rfl
  refine bodyPost_ret (v := .tuple #[.agg #[.int .u8 4, .int .u32 x0, .int .u32 x1, .int .u16 x2, .int .u16 x3, .int .u32 x4, .int .u32 0], .bool true]) (by simp [results, Try.results19, go_sem, c0, c1, c2, c3, c4, c5, c6]) rfl ⟨TF.out, ?_⟩
  rw [HN.out, saidH_yes HN.out]
set_option maxHeartbeats 4000000 in
set_option maxRecDepth 100000 in
theorem said_Parity (x0 x1 x2 x3 : Int) (w : World) : Calls Try.prog 19 #[(.iface 55 (.agg #[.int .u32 x0, .int .u32 x1, .int .i64 x2, .int .i64 x3]))] w fun e w' => Below w.heap.size w w' ∧ e = .returned (.tuple #[.agg (hdC (saidH ⟨5, x0, x1, 0, 0, 0, 0⟩ (x2) (x3))), .bool (fitsB (x2) (x3))]) := by
  have ta0 : ∀ W : World, (Instr.typeAssert (.iface 55 (.agg #[.int .u32 x0, .int .u32 x1, .int .i64 x2, .int .i64 x3])) 20 87 true).run Try.prog W = .ok (.tuple #[.agg #[.int .u32 0, .int .i64 0, .int .i64 0], .bool false]) W := fun W => by first | rfl | kernel_rfl
  have ta1 : ∀ W : World, (Instr.typeAssert (.iface 55 (.agg #[.int .u32 x0, .int .u32 x1, .int .i64 x2, .int .i64 x3])) 20 89 true).run Try.prog W = .ok (.tuple #[.agg #[.int .u32 0], .bool false]) W := fun W => by first | rfl | kernel_rfl
  have ta2 : ∀ W : World, (Instr.typeAssert (.iface 55 (.agg #[.int .u32 x0, .int .u32 x1, .int .i64 x2, .int .i64 x3])) 20 90 true).run Try.prog W = .ok (.tuple #[.agg #[.int .u32 0, .int .i64 0, .int .i64 0], .bool false]) W := fun W => by first | rfl | kernel_rfl
  have ta3 : ∀ W : World, (Instr.typeAssert (.iface 55 (.agg #[.int .u32 x0, .int .u32 x1, .int .i64 x2, .int .i64 x3])) 20 53 true).run Try.prog W = .ok (.tuple #[.agg #[.int .u32 0, .int .u32 0, .int .i64 0, .int .i64 0, .int .u32 0], .bool false]) W := fun W => by first | rfl | kernel_rfl
  have ta4 : ∀ W : World, (Instr.typeAssert (.iface 55 (.agg #[.int .u32 x0, .int .u32 x1, .int .i64 x2, .int .i64 x3])) 20 55 true).run Try.prog W = .ok (.tuple #[.agg #[.int .u32 x0, .int .u32 x1, .int .i64 x2, .int .i64 x3], .bool true]) W := fun W => by first | rfl | kernel_rfl
  go_enter Try.func19, Try.ntmps19
  go_wp2_with fail
  have ha := alloc3 w #[.int .u8 0, .int .u32 0, .int .u32 0, .int .u16 0, .int .u16 0, .int .u32 0, .int .u32 0] #[.int .u8 0, .int .u32 0, .int .u32 0, .int .u16 0, .int .u16 0, .int .u32 0, .int .u32 0] #[.int .u32 x0, .int .u32 x1, .int .i64 x2, .int .i64 x3] 25 25 55 _ rfl
  obtain ⟨W, hW⟩ : ∃ W, (((w.alloc (.cells #[.int .u8 0, .int .u32 0, .int .u32 0, .int .u16 0, .int .u16 0, .int .u32 0, .int .u32 0] 25)).alloc (.cells #[.int .u8 0, .int .u32 0, .int .u32 0, .int .u16 0, .int .u16 0, .int .u32 0, .int .u32 0] 25)).alloc (.cells #[.int .u32 x0, .int .u32 x1, .int .i64 x2, .int .i64 x3] 55)) = W := ⟨_, rfl⟩
  rw [hW] at ha ⊢
  have HW := Lib.hid ha
  clear hW ha
  have yc0 : W.cell? ⟨w.heap.size + 1 + 1, 0, none⟩ = some (.int .u32 x0) := (blk_cell HW.out.2.2.1 0).trans rfl
  have yc1 : W.cell? ⟨w.heap.size + 1 + 1, 1, none⟩ = some (.int .u32 x1) := (blk_cell HW.out.2.2.1 1).trans rfl
  have yc2 : W.cell? ⟨w.heap.size + 1 + 1, 2, none⟩ = some (.int .i64 x2) := (blk_cell HW.out.2.2.1 2).trans rfl
  have yc3 : W.cell? ⟨w.heap.size + 1 + 1, 3, none⟩ = some (.int .i64 x3) := (blk_cell HW.out.2.2.1 3).trans rfl
  have zc0 : W.cell? ⟨w.heap.size + 1, 0, none⟩ = some (.int .u8 0) := (blk_cell HW.out.2.1 0).trans rfl
  have zf0 := blk_frozen HW.out.2.1 0
  have zc1 : W.cell? ⟨w.heap.size + 1, 1, none⟩ = some (.int .u32 0) := (blk_cell HW.out.2.1 1).trans rfl
  have zf1 := blk_frozen HW.out.2.1 1
  have zc2 : W.cell? ⟨w.heap.size + 1, 2, none⟩ = some (.int .u32 0) := (blk_cell HW.out.2.1 2).trans rfl
  have zf2 := blk_frozen HW.out.2.1 2
  have zc3 : W.cell? ⟨w.heap.size + 1, 3, none⟩ = some (.int .u16 0) := (blk_cell HW.out.2.1 3).trans rfl
  have zf3 := blk_frozen HW.out.2.1 3
  have zc4 : W.cell? ⟨w.heap.size + 1, 4, none⟩ = some (.int .u16 0) := (blk_cell HW.out.2.1 4).trans rfl
  have zf4 := blk_frozen HW.out.2.1 4
  have zc5 : W.cell? ⟨w.heap.size + 1, 5, none⟩ = some (.int .u32 0) := (blk_cell HW.out.2.1 5).trans rfl
  have zf5 := blk_frozen HW.out.2.1 5
  have zc6 : W.cell? ⟨w.heap.size + 1, 6, none⟩ = some (.int .u32 0) := (blk_cell HW.out.2.1 6).trans rfl
  have zf6 := blk_frozen HW.out.2.1 6
  go_region
  have hh := put7 HW.out.2.1 (.int .u8 5) (.int .u32 x0) (.int .u32 x1) (.int .u16 0) (.int .u16 0) (.int .u32 0) (.int .u32 0)
  have rr := far7 HW.out.1 (show w.heap.size ≠ w.heap.size + 1 by omega) (.int .u8 5) (.int .u32 x0) (.int .u32 x1) (.int .u16 0) (.int .u16 0) (.int .u32 0) (.int .u32 0)
  have bb := bel7 HW.out.2.2.2 (show w.heap.size ≤ w.heap.size + 1 by omega) (.int .u8 5) (.int .u32 x0) (.int .u32 x1) (.int .u16 0) (.int .u16 0) (.int .u32 0) (.int .u32 0)
  generalize (((((((W.setCell ⟨w.heap.size + 1, 0, none⟩ (.int .u8 5)).setCell ⟨w.heap.size + 1, 1, none⟩ (.int .u32 x0)).setCell ⟨w.heap.size + 1, 2, none⟩ (.int .u32 x1)).setCell ⟨w.heap.size + 1, 3, none⟩ (.int .u16 0)).setCell ⟨w.heap.size + 1, 4, none⟩ (.int .u16 0)).setCell ⟨w.heap.size + 1, 5, none⟩ (.int .u32 0)).setCell ⟨w.heap.size + 1, 6, none⟩ (.int .u32 0)) = Wc at hh rr bb ⊢
  replace hh : Wc.drew.heap[w.heap.size + 1]? = some (.cells #[.int .u8 5, .int .u32 x0, .int .u32 x1, .int .u16 0, .int .u16 0, .int .u32 0, .int .u32 0] 25 (0, 0)) := hh
  replace rr : Wc.drew.heap[w.heap.size]? = some (.cells #[.int .u8 0, .int .u32 0, .int .u32 0, .int .u16 0, .int .u16 0, .int .u32 0, .int .u32 0] 25 (0, 0)) := rr
  replace bb : Below w.heap.size w Wc.drew := bl_drew bb
  generalize Wc.drew = W2 at hh rr bb ⊢
  have HH := Lib.hid hh
  have RR := Lib.hid rr
  have BB := Lib.hid bb
  clear hh rr bb HW yc0 yc1 yc2 yc3 zc0 zf0 zc1 zf1 zc2 zf2 zc3 zf3 zc4 zf4 zc5 zf5 zc6 zf6
  by_cases i0 : x2 < 0
  · have HN : Hid (fitsB (x2) (x3) = false) := Lib.hid (by simp [fitsB]; omega)
    have y0 := (blk_cell RR.out 0).trans rfl
    have q0 := blk_frozen RR.out 0
    have y1 := (blk_cell RR.out 1).trans rfl
    have q1 := blk_frozen RR.out 1
    have y2 := (blk_cell RR.out 2).trans rfl
    have q2 := blk_frozen RR.out 2
    have y3 := (blk_cell RR.out 3).trans rfl
    have q3 := blk_frozen RR.out 3
    have y4 := (blk_cell RR.out 4).trans rfl
    have q4 := blk_frozen RR.out 4
    have y5 := (blk_cell RR.out 5).trans rfl
    have q5 := blk_frozen RR.out 5
    have y6 := (blk_cell RR.out 6).trans rfl
    have q6 := blk_frozen RR.out 6
    go_wp2_with fail
    have hf := put7 RR.out (.int .u8 0) (.int .u32 0) (.int .u32 0) (.int .u16 0) (.int .u16 0) (.int .u32 0) (.int .u32 0)
    have T9 := bel7 BB.out (Nat.le_refl _) (.int .u8 0) (.int .u32 0) (.int .u32 0) (.int .u16 0) (.int .u16 0) (.int .u32 0) (.int .u32 0)
    generalize (((((((W2.setCell ⟨w.heap.size, 0, none⟩ (.int .u8 0)).setCell ⟨w.heap.size, 1, none⟩ (.int .u32 0)).setCell ⟨w.heap.size, 2, none⟩ (.int .u32 0)).setCell ⟨w.heap.size, 3, none⟩ (.int .u16 0)).setCell ⟨w.heap.size, 4, none⟩ (.int .u16 0)).setCell ⟨w.heap.size, 5, none⟩ (.int .u32 0)).setCell ⟨w.heap.size, 6, none⟩ (.int .u32 0)) = w9 at hf T9 ⊢
    have HF := Lib.hid hf
    have TF := Lib.hid T9
    clear hf T9
    have c0 : w9.cell? ⟨w.heap.size, 0, none⟩ = some (.int .u8 0) := (blk_cell HF.out 0).trans rfl
    have c1 : w9.cell? ⟨w.heap.size, 1, none⟩ = some (.int .u32 0) := (blk_cell HF.out 1).trans rfl
    have c2 : w9.cell? ⟨w.heap.size, 2, none⟩ = some (.int .u32 0) := (blk_cell HF.out 2).trans rfl
    have c3 : w9.cell? ⟨w.heap.size, 3, none⟩ = some (.int .u16 0) := (blk_cell HF.out 3).trans rfl
    have c4 : w9.cell? ⟨w.heap.size, 4, none⟩ = some (.int .u16 0) := (blk_cell HF.out 4).trans rfl
    have c5 : w9.cell? ⟨w.heap.size, 5, none⟩ = some (.int .u32 0) := (blk_cell HF.out 5).trans rfl
    have c6 : w9.cell? ⟨w.heap.size, 6, none⟩ = some (.int .u32 0) := (blk_cell HF.out 6).trans rfl
    refine bodyPost_ret (v := .tuple #[.agg #[.int .u8 0, .int .u32 0, .int .u32 0, .int .u16 0, .int .u16 0, .int .u32 0, .int .u32 0], .bool false]) (by simp [results, Try.results19, go_sem, c0, c1, c2, c3, c4, c5, c6]) rfl ⟨TF.out, ?_⟩
    rw [HN.out, saidH_no HN.out]
    rfl
  by_cases i1 : 65535 < x2
  · have HN : Hid (fitsB (x2) (x3) = false) := Lib.hid (by simp [fitsB]; omega)
    have y0 := (blk_cell RR.out 0).trans rfl
    have q0 := blk_frozen RR.out 0
    have y1 := (blk_cell RR.out 1).trans rfl
    have q1 := blk_frozen RR.out 1
    have y2 := (blk_cell RR.out 2).trans rfl
    have q2 := blk_frozen RR.out 2
    have y3 := (blk_cell RR.out 3).trans rfl
    have q3 := blk_frozen RR.out 3
    have y4 := (blk_cell RR.out 4).trans rfl
    have q4 := blk_frozen RR.out 4
    have y5 := (blk_cell RR.out 5).trans rfl
    have q5 := blk_frozen RR.out 5
    have y6 := (blk_cell RR.out 6).trans rfl
    have q6 := blk_frozen RR.out 6
    go_wp2_with fail
    have hf := put7 RR.out (.int .u8 0) (.int .u32 0) (.int .u32 0) (.int .u16 0) (.int .u16 0) (.int .u32 0) (.int .u32 0)
    have T9 := bel7 BB.out (Nat.le_refl _) (.int .u8 0) (.int .u32 0) (.int .u32 0) (.int .u16 0) (.int .u16 0) (.int .u32 0) (.int .u32 0)
    generalize (((((((W2.setCell ⟨w.heap.size, 0, none⟩ (.int .u8 0)).setCell ⟨w.heap.size, 1, none⟩ (.int .u32 0)).setCell ⟨w.heap.size, 2, none⟩ (.int .u32 0)).setCell ⟨w.heap.size, 3, none⟩ (.int .u16 0)).setCell ⟨w.heap.size, 4, none⟩ (.int .u16 0)).setCell ⟨w.heap.size, 5, none⟩ (.int .u32 0)).setCell ⟨w.heap.size, 6, none⟩ (.int .u32 0)) = w9 at hf T9 ⊢
    have HF := Lib.hid hf
    have TF := Lib.hid T9
    clear hf T9
    have c0 : w9.cell? ⟨w.heap.size, 0, none⟩ = some (.int .u8 0) := (blk_cell HF.out 0).trans rfl
    have c1 : w9.cell? ⟨w.heap.size, 1, none⟩ = some (.int .u32 0) := (blk_cell HF.out 1).trans rfl
    have c2 : w9.cell? ⟨w.heap.size, 2, none⟩ = some (.int .u32 0) := (blk_cell HF.out 2).trans rfl
    have c3 : w9.cell? ⟨w.heap.size, 3, none⟩ = some (.int .u16 0) := (blk_cell HF.out 3).trans rfl
    have c4 : w9.cell? ⟨w.heap.size, 4, none⟩ = some (.int .u16 0) := (blk_cell HF.out 4).trans rfl
    have c5 : w9.cell? ⟨w.heap.size, 5, none⟩ = some (.int .u32 0) := (blk_cell HF.out 5).trans rfl
    have c6 : w9.cell? ⟨w.heap.size, 6, none⟩ = some (.int .u32 0) := (blk_cell HF.out 6).trans rfl
    refine bodyPost_ret (v := .tuple #[.agg #[.int .u8 0, .int .u32 0, .int .u32 0, .int .u16 0, .int .u16 0, .int .u32 0, .int .u32 0], .bool false]) (by simp [results, Try.results19, go_sem, c0, c1, c2, c3, c4, c5, c6]) rfl ⟨TF.out, ?_⟩
    rw [HN.out, saidH_no HN.out]
    rfl
  by_cases n0 : x3 < 0
  · have HN : Hid (fitsB (x2) (x3) = false) := Lib.hid (by simp [fitsB]; omega)
    have y0 := (blk_cell RR.out 0).trans rfl
    have q0 := blk_frozen RR.out 0
    have y1 := (blk_cell RR.out 1).trans rfl
    have q1 := blk_frozen RR.out 1
    have y2 := (blk_cell RR.out 2).trans rfl
    have q2 := blk_frozen RR.out 2
    have y3 := (blk_cell RR.out 3).trans rfl
    have q3 := blk_frozen RR.out 3
    have y4 := (blk_cell RR.out 4).trans rfl
    have q4 := blk_frozen RR.out 4
    have y5 := (blk_cell RR.out 5).trans rfl
    have q5 := blk_frozen RR.out 5
    have y6 := (blk_cell RR.out 6).trans rfl
    have q6 := blk_frozen RR.out 6
    go_wp2_with fail
    have hf := put7 RR.out (.int .u8 0) (.int .u32 0) (.int .u32 0) (.int .u16 0) (.int .u16 0) (.int .u32 0) (.int .u32 0)
    have T9 := bel7 BB.out (Nat.le_refl _) (.int .u8 0) (.int .u32 0) (.int .u32 0) (.int .u16 0) (.int .u16 0) (.int .u32 0) (.int .u32 0)
    generalize (((((((W2.setCell ⟨w.heap.size, 0, none⟩ (.int .u8 0)).setCell ⟨w.heap.size, 1, none⟩ (.int .u32 0)).setCell ⟨w.heap.size, 2, none⟩ (.int .u32 0)).setCell ⟨w.heap.size, 3, none⟩ (.int .u16 0)).setCell ⟨w.heap.size, 4, none⟩ (.int .u16 0)).setCell ⟨w.heap.size, 5, none⟩ (.int .u32 0)).setCell ⟨w.heap.size, 6, none⟩ (.int .u32 0)) = w9 at hf T9 ⊢
    have HF := Lib.hid hf
    have TF := Lib.hid T9
    clear hf T9
    have c0 : w9.cell? ⟨w.heap.size, 0, none⟩ = some (.int .u8 0) := (blk_cell HF.out 0).trans rfl
    have c1 : w9.cell? ⟨w.heap.size, 1, none⟩ = some (.int .u32 0) := (blk_cell HF.out 1).trans rfl
    have c2 : w9.cell? ⟨w.heap.size, 2, none⟩ = some (.int .u32 0) := (blk_cell HF.out 2).trans rfl
    have c3 : w9.cell? ⟨w.heap.size, 3, none⟩ = some (.int .u16 0) := (blk_cell HF.out 3).trans rfl
    have c4 : w9.cell? ⟨w.heap.size, 4, none⟩ = some (.int .u16 0) := (blk_cell HF.out 4).trans rfl
    have c5 : w9.cell? ⟨w.heap.size, 5, none⟩ = some (.int .u32 0) := (blk_cell HF.out 5).trans rfl
    have c6 : w9.cell? ⟨w.heap.size, 6, none⟩ = some (.int .u32 0) := (blk_cell HF.out 6).trans rfl
    refine bodyPost_ret (v := .tuple #[.agg #[.int .u8 0, .int .u32 0, .int .u32 0, .int .u16 0, .int .u16 0, .int .u32 0, .int .u32 0], .bool false]) (by simp [results, Try.results19, go_sem, c0, c1, c2, c3, c4, c5, c6]) rfl ⟨TF.out, ?_⟩
    rw [HN.out, saidH_no HN.out]
    rfl
  by_cases n1 : 65535 < x3
  · have HN : Hid (fitsB (x2) (x3) = false) := Lib.hid (by simp [fitsB]; omega)
    have y0 := (blk_cell RR.out 0).trans rfl
    have q0 := blk_frozen RR.out 0
    have y1 := (blk_cell RR.out 1).trans rfl
    have q1 := blk_frozen RR.out 1
    have y2 := (blk_cell RR.out 2).trans rfl
    have q2 := blk_frozen RR.out 2
    have y3 := (blk_cell RR.out 3).trans rfl
    have q3 := blk_frozen RR.out 3
    have y4 := (blk_cell RR.out 4).trans rfl
    have q4 := blk_frozen RR.out 4
    have y5 := (blk_cell RR.out 5).trans rfl
    have q5 := blk_frozen RR.out 5
    have y6 := (blk_cell RR.out 6).trans rfl
    have q6 := blk_frozen RR.out 6
    go_wp2_with fail
    have hf := put7 RR.out (.int .u8 0) (.int .u32 0) (.int .u32 0) (.int .u16 0) (.int .u16 0) (.int .u32 0) (.int .u32 0)
    have T9 := bel7 BB.out (Nat.le_refl _) (.int .u8 0) (.int .u32 0) (.int .u32 0) (.int .u16 0) (.int .u16 0) (.int .u32 0) (.int .u32 0)
    generalize (((((((W2.setCell ⟨w.heap.size, 0, none⟩ (.int .u8 0)).setCell ⟨w.heap.size, 1, none⟩ (.int .u32 0)).setCell ⟨w.heap.size, 2, none⟩ (.int .u32 0)).setCell ⟨w.heap.size, 3, none⟩ (.int .u16 0)).setCell ⟨w.heap.size, 4, none⟩ (.int .u16 0)).setCell ⟨w.heap.size, 5, none⟩ (.int .u32 0)).setCell ⟨w.heap.size, 6, none⟩ (.int .u32 0)) = w9 at hf T9 ⊢
    have HF := Lib.hid hf
    have TF := Lib.hid T9
    clear hf T9
    have c0 : w9.cell? ⟨w.heap.size, 0, none⟩ = some (.int .u8 0) := (blk_cell HF.out 0).trans rfl
    have c1 : w9.cell? ⟨w.heap.size, 1, none⟩ = some (.int .u32 0) := (blk_cell HF.out 1).trans rfl
    have c2 : w9.cell? ⟨w.heap.size, 2, none⟩ = some (.int .u32 0) := (blk_cell HF.out 2).trans rfl
    have c3 : w9.cell? ⟨w.heap.size, 3, none⟩ = some (.int .u16 0) := (blk_cell HF.out 3).trans rfl
    have c4 : w9.cell? ⟨w.heap.size, 4, none⟩ = some (.int .u16 0) := (blk_cell HF.out 4).trans rfl
    have c5 : w9.cell? ⟨w.heap.size, 5, none⟩ = some (.int .u32 0) := (blk_cell HF.out 5).trans rfl
    have c6 : w9.cell? ⟨w.heap.size, 6, none⟩ = some (.int .u32 0) := (blk_cell HF.out 6).trans rfl
    refine bodyPost_ret (v := .tuple #[.agg #[.int .u8 0, .int .u32 0, .int .u32 0, .int .u16 0, .int .u16 0, .int .u32 0, .int .u32 0], .bool false]) (by simp [results, Try.results19, go_sem, c0, c1, c2, c3, c4, c5, c6]) rfl ⟨TF.out, ?_⟩
    rw [HN.out, saidH_no HN.out]
    rfl
  have HN : Hid (fitsB (x2) (x3) = true) := Lib.hid (by simp [fitsB]; omega)
  have uw1 := u16w (i := x2) (by omega) (by omega)
  have uw2 := u16w (i := x3) (by omega) (by omega)
  have y0 := (blk_cell RR.out 0).trans rfl
  have q0 := blk_frozen RR.out 0
  have y1 := (blk_cell RR.out 1).trans rfl
  have q1 := blk_frozen RR.out 1
  have y2 := (blk_cell RR.out 2).trans rfl
  have q2 := blk_frozen RR.out 2
  have y3 := (blk_cell RR.out 3).trans rfl
  have q3 := blk_frozen RR.out 3
  have y4 := (blk_cell RR.out 4).trans rfl
  have q4 := blk_frozen RR.out 4
  have y5 := (blk_cell RR.out 5).trans rfl
  have q5 := blk_frozen RR.out 5
  have y6 := (blk_cell RR.out 6).trans rfl
  have q6 := blk_frozen RR.out 6
  have h0_ := (blk_cell HH.out 0).trans rfl
  have h1_ := (blk_cell HH.out 1).trans rfl
  have h2_ := (blk_cell HH.out 2).trans rfl
  have h3_ := (blk_cell HH.out 3).trans rfl
  have h4_ := (blk_cell HH.out 4).trans rfl
  have h5_ := (blk_cell HH.out 5).trans rfl
  have h6_ := (blk_cell HH.out 6).trans rfl
  have hf3_ := blk_frozen HH.out 3
  have hf4_ := blk_frozen HH.out 4
  go_wp2_with fail
  have r3 := blk_far (blk_far RR.out (p := ⟨w.heap.size + 1, 3, none⟩) (by show w.heap.size ≠ w.heap.size + 1; omega) (.int .u16 (x2))) (p := ⟨w.heap.size + 1, 4, none⟩) (by show w.heap.size ≠ w.heap.size + 1; omega) (.int .u16 (x3))
  have b3 := bl_set (bl_set BB.out (p := ⟨w.heap.size + 1, 3, none⟩) (by show w.heap.size ≤ w.heap.size + 1; omega) (.int .u16 (x2))) (p := ⟨w.heap.size + 1, 4, none⟩) (by show w.heap.size ≤ w.heap.size + 1; omega) (.int .u16 (x3))
  have hf := put7 r3 (.int .u8 5) (.int .u32 x0) (.int .u32 x1) (.int .u16 x2) (.int .u16 x3) (.int .u32 0) (.int .u32 0)
  have T9 := bel7 b3 (Nat.le_refl _) (.int .u8 5) (.int .u32 x0) (.int .u32 x1) (.int .u16 x2) (.int .u16 x3) (.int .u32 0) (.int .u32 0)
  generalize (((((((((W2.setCell ⟨w.heap.size + 1, 3, none⟩ (.int .u16 (x2))).setCell ⟨w.heap.size + 1, 4, none⟩ (.int .u16 (x3))).setCell ⟨w.heap.size, 0, none⟩ (.int .u8 5)).setCell ⟨w.heap.size, 1, none⟩ (.int .u32 x0)).setCell ⟨w.heap.size, 2, none⟩ (.int .u32 x1)).setCell ⟨w.heap.size, 3, none⟩ (.int .u16 x2)).setCell ⟨w.heap.size, 4, none⟩ (.int .u16 x3)).setCell ⟨w.heap.size, 5, none⟩ (.int .u32 0)).setCell ⟨w.heap.size, 6, none⟩ (.int .u32 0)) = w9 at hf T9 ⊢
  have HF := Lib.hid hf
  have TF := Lib.hid T9
  clear hf T9 r3 b3
  have c0 : w9.cell? ⟨w.heap.size, 0, none⟩ = some (.int .u8 5) := (blk_cell HF.out 0).trans rfl
  have c1 : w9.cell? ⟨w.heap.size, 1, none⟩ = some (.int .u32 x0) := (blk_cell HF.out 1).trans rfl
  have c2 : w9.cell? ⟨w.heap.size, 2, none⟩ = some (.int .u32 x1) := (blk_cell HF.out 2).trans rfl
  have c3 : w9.cell? ⟨w.heap.size, 3, none⟩ = some (.int .u16 x2) := (blk_cell HF.out 3).trans rfl
  have c4 : w9.cell? ⟨w.heap.size, 4, none⟩ = some (.int .u16 x3) := (blk_cell HF.out 4).trans rfl
  have c5 : w9.cell? ⟨w.heap.size, 5, none⟩ = some (.int .u32 0) := (blk_cell HF.out 5).trans rfl
  have c6 : w9.cell? ⟨w.heap.size, 6, none⟩ = some (.int .u32 0) := (blk_cell HF.out 6).trans rfl
  refine bodyPost_ret (v := .tuple #[.agg #[.int .u8 5, .int .u32 x0, .int .u32 x1, .int .u16 x2, .int .u16 x3, .int .u32 0, .int .u32 0], .bool true]) (by simp [results, Try.results19, go_sem, c0, c1, c2, c3, c4, c5, c6]) rfl ⟨TF.out, ?_⟩
  rw [HN.out, saidH_yes HN.out]
set_option maxHeartbeats 4000000 in
set_option maxRecDepth 100000 in
theorem said_Fill (x0 x1 : Int) (w : World) : Calls Try.prog 19 #[(.iface 92 (.agg #[.int .u32 x0, .int .u32 x1]))] w fun e w' => Below w.heap.size w w' ∧ e = .returned (.tuple #[.agg (hdC (saidH ⟨6, x0, x1, 0, 0, 0, 0⟩ (0) (0))), .bool (fitsB (0) (0))]) := by
  have ta0 : ∀ W : World, (Instr.typeAssert (.iface 92 (.agg #[.int .u32 x0, .int .u32 x1])) 20 87 true).run Try.prog W = .ok (.tuple #[.agg #[.int .u32 0, .int .i64 0, .int .i64 0], .bool false]) W := fun W => by first | rfl | kernel_rfl
  have ta1 : ∀ W : World, (Instr.typeAssert (.iface 92 (.agg #[.int .u32 x0, .int .u32 x1])) 20 89 true).run Try.prog W = .ok (.tuple #[.agg #[.int .u32 0], .bool false]) W := fun W => by first | rfl | kernel_rfl
  have ta2 : ∀ W : World, (Instr.typeAssert (.iface 92 (.agg #[.int .u32 x0, .int .u32 x1])) 20 90 true).run Try.prog W = .ok (.tuple #[.agg #[.int .u32 0, .int .i64 0, .int .i64 0], .bool false]) W := fun W => by first | rfl | kernel_rfl
  have ta3 : ∀ W : World, (Instr.typeAssert (.iface 92 (.agg #[.int .u32 x0, .int .u32 x1])) 20 53 true).run Try.prog W = .ok (.tuple #[.agg #[.int .u32 0, .int .u32 0, .int .i64 0, .int .i64 0, .int .u32 0], .bool false]) W := fun W => by first | rfl | kernel_rfl
  have ta4 : ∀ W : World, (Instr.typeAssert (.iface 92 (.agg #[.int .u32 x0, .int .u32 x1])) 20 55 true).run Try.prog W = .ok (.tuple #[.agg #[.int .u32 0, .int .u32 0, .int .i64 0, .int .i64 0], .bool false]) W := fun W => by first | rfl | kernel_rfl
  have ta5 : ∀ W : World, (Instr.typeAssert (.iface 92 (.agg #[.int .u32 x0, .int .u32 x1])) 20 92 true).run Try.prog W = .ok (.tuple #[.agg #[.int .u32 x0, .int .u32 x1], .bool true]) W := fun W => by first | rfl | kernel_rfl
  go_enter Try.func19, Try.ntmps19
  go_wp2_with fail
  have HN : Hid (fitsB (0) (0) = true) := Lib.hid (by decide)
  have ha := alloc3 w #[.int .u8 6, .int .u32 x0, .int .u32 x1, .int .u16 0, .int .u16 0, .int .u32 0, .int .u32 0] #[.int .u8 6, .int .u32 x0, .int .u32 x1, .int .u16 0, .int .u16 0, .int .u32 0, .int .u32 0] #[.int .u32 x0, .int .u32 x1] 25 25 92 _ rfl
  generalize (((w.alloc (.cells #[.int .u8 6, .int .u32 x0, .int .u32 x1, .int .u16 0, .int .u16 0, .int .u32 0, .int .u32 0] 25)).alloc (.cells #[.int .u8 6, .int .u32 x0, .int .u32 x1, .int .u16 0, .int .u16 0, .int .u32 0, .int .u32 0] 25)).alloc (.cells #[.int .u32 x0, .int .u32 x1] 92)) = w9 at ha ⊢
  have HF := Lib.hid ha.1
  have TF := Lib.hid ha.2.2.2
  clear ha
  have c0 : w9.cell? ⟨w.heap.size, 0, none⟩ = some (.int .u8 6) := (blk_cell HF.out 0).trans rfl
  have c1 : w9.cell? ⟨w.heap.size, 1, none⟩ = some (.int .u32 x0) := (blk_cell HF.out 1).trans rfl
  have c2 : w9.cell? ⟨w.heap.size, 2, none⟩ = some (.int .u32 x1) := (blk_cell HF.out 2).trans rfl
  have c3 : w9.cell? ⟨w.heap.size, 3, none⟩ = some (.int .u16 0) := (blk_cell HF.out 3).trans rfl
  have c4 : w9.cell? ⟨w.heap.size, 4, none⟩ = some (.int .u16 0) := (blk_cell HF.out 4).trans rfl
  have c5 : w9.cell? ⟨w.heap.size, 5, none⟩ = some (.int .u32 0) := (blk_cell HF.out 5).trans rfl
  have c6 : w9.cell? ⟨w.heap.size, 6, none⟩ = some (.int .u32 0) := (blk_cell HF.out 6).trans rfl
  refine bodyPost_ret (v := .tuple #[.agg #[.int .u8 6, .int .u32 x0, .int .u32 x1, .int .u16 0, .int .u16 0, .int .u32 0, .int .u32 0], .bool true]) (by simp [results, Try.results19, go_sem, c0, c1, c2, c3, c4, c5, c6]) rfl ⟨TF.out, ?_⟩
  rw [HN.out, saidH_yes HN.out]
set_option maxHeartbeats 4000000 in
set_option maxRecDepth 100000 in
theorem said_int (q : Int) (w : World) : Calls Try.prog 19 #[(.iface 3 (.int .i64 q))] w fun e w' => Below w.heap.size w w' ∧ e = .returned (.tuple #[.agg (hdC hd0), .bool false]) := by
  have ta0 : ∀ W : World, (Instr.typeAssert (.iface 3 (.int .i64 q)) 20 87 true).run Try.prog W = .ok (.tuple #[.agg #[.int .u32 0, .int .i64 0, .int .i64 0], .bool false]) W := fun W => by first | rfl | kernel_rfl
  have ta1 : ∀ W : World, (Instr.typeAssert (.iface 3 (.int .i64 q)) 20 89 true).run Try.prog W = .ok (.tuple #[.agg #[.int .u32 0], .bool false]) W := fun W => by first | rfl | kernel_rfl
  have ta2 : ∀ W : World, (Instr.typeAssert (.iface 3 (.int .i64 q)) 20 90 true).run Try.prog W = .ok (.tuple #[.agg #[.int .u32 0, .int .i64 0, .int .i64 0], .bool false]) W := fun W => by first | rfl | kernel_rfl
  have ta3 : ∀ W : World, (Instr.typeAssert (.iface 3 (.int .i64 q)) 20 53 true).run Try.prog W = .ok (.tuple #[.agg #[.int .u32 0, .int .u32 0, .int .i64 0, .int .i64 0, .int .u32 0], .bool false]) W := fun W => by first | rfl | kernel_rfl
  have ta4 : ∀ W : World, (Instr.typeAssert (.iface 3 (.int .i64 q)) 20 55 true).run Try.prog W = .ok (.tuple #[.agg #[.int .u32 0, .int .u32 0, .int .i64 0, .int .i64 0], .bool false]) W := fun W => by first | rfl | kernel_rfl
  have ta5 : ∀ W : World, (Instr.typeAssert (.iface 3 (.int .i64 q)) 20 92 true).run Try.prog W = .ok (.tuple #[.agg #[.int .u32 0, .int .u32 0], .bool false]) W := fun W => by first | rfl | kernel_rfl
  go_enter Try.func19, Try.ntmps19
  go_wp2_with fail
  have hf := heap_alloc_new w (.cells #[.int .u8 0, .int .u32 0, .int .u32 0, .int .u16 0, .int .u16 0, .int .u32 0, .int .u32 0] 25)
  have hf2 := blk_alloc hf (.cells #[.int .u8 0, .int .u32 0, .int .u32 0, .int .u16 0, .int .u16 0, .int .u32 0, .int .u32 0] 25)
  have t9 : Below w.heap.size w ((w.alloc (.cells #[.int .u8 0, .int .u32 0, .int .u32 0, .int .u16 0, .int .u16 0, .int .u32 0, .int .u32 0] 25)).alloc (.cells #[.int .u8 0, .int .u32 0, .int .u32 0, .int .u16 0, .int .u16 0, .int .u32 0, .int .u32 0] 25)) := bl_alloc (bl_alloc (Below.refl _ _) _) _
  generalize ((w.alloc (.cells #[.int .u8 0, .int .u32 0, .int .u32 0, .int .u16 0, .int .u16 0, .int .u32 0, .int .u32 0] 25)).alloc (.cells #[.int .u8 0, .int .u32 0, .int .u32 0, .int .u16 0, .int .u16 0, .int .u32 0, .int .u32 0] 25)) = w9 at hf2 t9 ⊢
  have HF := Lib.hid hf2
  have TF := Lib.hid t9
  clear hf hf2 t9
  have c0 : w9.cell? ⟨w.heap.size, 0, none⟩ = some (.int .u8 0) := (blk_cell HF.out 0).trans rfl
  have c1 : w9.cell? ⟨w.heap.size, 1, none⟩ = some (.int .u32 0) := (blk_cell HF.out 1).trans rfl
  have c2 : w9.cell? ⟨w.heap.size, 2, none⟩ = some (.int .u32 0) := (blk_cell HF.out 2).trans rfl
  have c3 : w9.cell? ⟨w.heap.size, 3, none⟩ = some (.int .u16 0) := (blk_cell HF.out 3).trans rfl
  have c4 : w9.cell? ⟨w.heap.size, 4, none⟩ = some (.int .u16 0) := (blk_cell HF.out 4).trans rfl
  have c5 : w9.cell? ⟨w.heap.size, 5, none⟩ = some (.int .u32 0) := (blk_cell HF.out 5).trans rfl
  have c6 : w9.cell? ⟨w.heap.size, 6, none⟩ = some (.int .u32 0) := (blk_cell HF.out 6).trans rfl
  refine bodyPost_ret (v := .tuple #[.agg #[.int .u8 0, .int .u32 0, .int .u32 0, .int .u16 0, .int .u16 0, .int .u32 0, .int .u32 0], .bool false]) (by simp [results, Try.results19, go_sem, c0, c1, c2, c3, c4, c5, c6]) rfl ⟨TF.out, ?_⟩
  rfl
set_option maxHeartbeats 4000000 in
set_option maxRecDepth 100000 in
theorem said_nil (w : World) : Calls Try.prog 19 #[.nilIface] w fun e w' => Below w.heap.size w w' ∧ e = .returned (.tuple #[.agg (hdC hd0), .bool false]) := by
  have ta0 : ∀ W : World, (Instr.typeAssert .nilIface 20 87 true).run Try.prog W = .ok (.tuple #[.agg #[.int .u32 0, .int .i64 0, .int .i64 0], .bool false]) W := fun W => by first | rfl | kernel_rfl
  have ta1 : ∀ W : World, (Instr.typeAssert .nilIface 20 89 true).run Try.prog W = .ok (.tuple #[.agg #[.int .u32 0], .bool false]) W := fun W => by first | rfl | kernel_rfl
  have ta2 : ∀ W : World, (Instr.typeAssert .nilIface 20 90 true).run Try.prog W = .ok (.tuple #[.agg #[.int .u32 0, .int .i64 0, .int .i64 0], .bool false]) W := fun W => by first | rfl | kernel_rfl
  have ta3 : ∀ W : World, (Instr.typeAssert .nilIface 20 53 true).run Try.prog W = .ok (.tuple #[.agg #[.int .u32 0, .int .u32 0, .int .i64 0, .int .i64 0, .int .u32 0], .bool false]) W := fun W => by first | rfl | kernel_rfl
  have ta4 : ∀ W : World, (Instr.typeAssert .nilIface 20 55 true).run Try.prog W = .ok (.tuple #[.agg #[.int .u32 0, .int .u32 0, .int .i64 0, .int .i64 0], .bool false]) W := fun W => by first | rfl | kernel_rfl
  have ta5 : ∀ W : World, (Instr.typeAssert .nilIface 20 92 true).run Try.prog W = .ok (.tuple #[.agg #[.int .u32 0, .int .u32 0], .bool false]) W := fun W => by first | rfl | kernel_rfl
  go_enter Try.func19, Try.ntmps19
  go_wp2_with fail
  have hf := heap_alloc_new w (.cells #[.int .u8 0, .int .u32 0, .int .u32 0, .int .u16 0, .int .u16 0, .int .u32 0, .int .u32 0] 25)
  have hf2 := blk_alloc hf (.cells #[.int .u8 0, .int .u32 0, .int .u32 0, .int .u16 0, .int .u16 0, .int .u32 0, .int .u32 0] 25)
  have t9 : Below w.heap.size w ((w.alloc (.cells #[.int .u8 0, .int .u32 0, .int .u32 0, .int .u16 0, .int .u16 0, .int .u32 0, .int .u32 0] 25)).alloc (.cells #[.int .u8 0, .int .u32 0, .int .u32 0, .int .u16 0, .int .u16 0, .int .u32 0, .int .u32 0] 25)) := bl_alloc (bl_alloc (Below.refl _ _) _) _
  generalize ((w.alloc (.cells #[.int .u8 0, .int .u32 0, .int .u32 0, .int .u16 0, .int .u16 0, .int .u32 0, .int .u32 0] 25)).alloc (.cells #[.int .u8 0, .int .u32 0, .int .u32 0, .int .u16 0, .int .u16 0, .int .u32 0, .int .u32 0] 25)) = w9 at hf2 t9 ⊢
  have HF := Lib.hid hf2
  have TF := Lib.hid t9
  clear hf hf2 t9
  have c0 : w9.cell? ⟨w.heap.size, 0, none⟩ = some (.int .u8 0) := (blk_cell HF.out 0).trans rfl
  have c1 : w9.cell? ⟨w.heap.size, 1, none⟩ = some (.int .u32 0) := (blk_cell HF.out 1).trans rfl
  have c2 : w9.cell? ⟨w.heap.size, 2, none⟩ = some (.int .u32 0) := (blk_cell HF.out 2).trans rfl
  have c3 : w9.cell? ⟨w.heap.size, 3, none⟩ = some (.int .u16 0) := (blk_cell HF.out 3).trans rfl
  have c4 : w9.cell? ⟨w.heap.size, 4, none⟩ = some (.int .u16 0) := (blk_cell HF.out 4).trans rfl
  have c5 : w9.cell? ⟨w.heap.size, 5, none⟩ = some (.int .u32 0) := (blk_cell HF.out 5).trans rfl
  have c6 : w9.cell? ⟨w.heap.size, 6, none⟩ = some (.int .u32 0) := (blk_cell HF.out 6).trans rfl
  refine bodyPost_ret (v := .tuple #[.agg #[.int .u8 0, .int .u32 0, .int .u32 0, .int .u16 0, .int .u16 0, .int .u32 0, .int .u32 0], .bool false]) (by simp [results, Try.results19, go_sem, c0, c1, c2, c3, c4, c5, c6]) rfl ⟨TF.out, ?_⟩
  rfl
end Go.Proofs.Ytkmfdnoklabndaa
