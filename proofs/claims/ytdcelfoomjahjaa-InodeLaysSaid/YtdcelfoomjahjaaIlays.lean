import Derived.Test.YtdcelfoomjahjaaLain
import Derived.Test.YtdcelfoomjahjaaRlay
/-! The law InodeLays: its walk. -/
set_option linter.unusedVariables false
set_option linter.unusedSimpArgs false
namespace Go.Proofs.Ytdcelfoomjahjaa
open Go.RowKit Go.Proofs.YtdcelfoomjahjaaW.PrintWords
set_option maxHeartbeats 2000000 in
set_option maxRecDepth 100000 in
theorem ilays_walk (b s : Int) (w : World) (h0 : -9223372036854775808 ≤ b) (h1 : b ≤ 9223372036854775807) (h2 : -9223372036854775808 ≤ s) (h3 : s ≤ 9223372036854775807) :
    Calls Try.prog 3 #[.int .i64 b, .int .i64 s] w fun e w' => e = .returned (.bool true) ∧ Below w.heap.size w w' := by
  have c1 := fun w => lay_any b s w h0 h1 h2 h3
  have c2 := fun w => rlay_any b s w h0 h1 h2 h3
  generalize layF b s = r at c1 c2
  obtain ⟨⟨x1, x2, x3, x4, x5⟩, x6⟩ := r
  simp only [layV] at c1 c2
  have C1 := Lib.hid c1
  have C2 := Lib.hid c2
  clear c1 c2 h0 h1 h2 h3
  go_enter Try.func3, Try.ntmps3
  go_wp2_with fail
  refine (C1.out _).mono ?_
  rintro e w1 ⟨rfl, hb1⟩
  have H1 := Lib.hid hb1
  clear hb1
  go_wp2_with fail
  refine (C2.out _).mono ?_
  rintro e w2 ⟨rfl, hb2⟩
  have H2 := Lib.hid hb2
  clear hb2
  go_wp2_with fail
  refine (laid_any _).mono ?_
  rintro e w3 ⟨rfl, hb3⟩
  have hbx : (w1.alloc (.cells #[.int .i64 x1, .int .i64 x2, .int .i64 x3, .int .i64 x4, .int .i64 x5] 23)).heap[w1.heap.size]? = some (.cells #[.int .i64 x1, .int .i64 x2, .int .i64 x3, .int .i64 x4, .int .i64 x5] 23 (0, 0)) := heap_alloc_new _ _
  have hbx2 := (H2.out.block _ (by simp)).trans hbx
  have hby : (w2.alloc (.cells #[.int .i64 x1, .int .i64 x2, .int .i64 x3, .int .i64 x4, .int .i64 x5] 27)).heap[w2.heap.size]? = some (.cells #[.int .i64 x1, .int .i64 x2, .int .i64 x3, .int .i64 x4, .int .i64 x5] 27 (0, 0)) := heap_alloc_new _ _
  have hby2 := (hb3.block _ (by simp)).trans hby
  have hbx3 := (hb3.block _ (by have h_ := blk_lt hbx2; simp; omega)).trans (blk_alloc hbx2 (.cells #[.int .i64 x1, .int .i64 x2, .int .i64 x3, .int .i64 x4, .int .i64 x5] 27))
  have z0 := (blk_cell hbx3 0).trans rfl
  have z1 := (blk_cell hbx3 1).trans rfl
  have z2 := (blk_cell hbx3 2).trans rfl
  have z3 := (blk_cell hbx3 3).trans rfl
  have z4 := (blk_cell hbx3 4).trans rfl
  have y0 := (blk_cell hby2 0).trans rfl
  have y1 := (blk_cell hby2 1).trans rfl
  have y2 := (blk_cell hby2 2).trans rfl
  have y3 := (blk_cell hby2 3).trans rfl
  have y4 := (blk_cell hby2 4).trans rfl
  have H3 := Lib.hid hb3
  clear hb3 hbx hbx2 hby hby2 hbx3
  go_wp2_with fail
  go_ret
  exact ⟨by simp, bl_seq (bl_alloc (bl_seq (bl_alloc H1.out _) H2.out) _) H3.out⟩
end Go.Proofs.Ytdcelfoomjahjaa
