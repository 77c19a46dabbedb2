import Derived.Test.YtdcelfoomjahjaaLayo
/-! gabionlaw17.laid. -/
set_option linter.unusedVariables false
set_option linter.unusedSimpArgs false
namespace Go.Proofs.Ytdcelfoomjahjaa
open Go.RowKit Go.Proofs.YtdcelfoomjahjaaW.PrintWords
set_option maxHeartbeats 2000000 in
set_option maxRecDepth 100000 in
theorem laid_any (w : World) : Calls Try.prog 11 #[] w fun e w' => e = .returned (.bool true) ∧ Below w.heap.size w w' := by
  go_enter Try.func11, Try.ntmps11
  go_wp2_with fail
  refine (lay_any 72 256 _ (by decide) (by decide) (by decide) (by decide)).mono ?_
  rintro e w1 ⟨rfl, hb1⟩
  rw [show layV (layF 72 256) = .tuple #[.agg #[.int .i64 20, .int .i64 5, .int .i64 6, .int .i64 72, .int .i64 256], .int .i64 0] from by kernel_rfl]
  have H1 := Lib.hid hb1
  clear hb1
  go_wp2_with fail
  refine (encode_any 1 1 5 0 0 0 0 0 0 0 0 0 0 _ (by decide) (by decide) (by decide) (by decide) (by decide) (by decide) (by decide) (by decide) (by decide) (by decide) (by decide) (by decide) (by decide) (by decide) (by decide) (by decide) (by decide) (by decide) (by decide) (by decide) (by decide) (by decide) (by decide) (by decide) (by decide) (by decide)).mono ?_
  rintro e w2 ⟨v2, rfl, hn⟩
  obtain ⟨g, c2, rfl, _, hgl⟩ := hn.1.form (by decide)
  have q0 := hn.1.cells rfl 0 (.int .u8 1) (by kernel_rfl)
  have q1 := hn.1.cells rfl 2 (.int .u8 1) (by kernel_rfl)
  have q2 := hn.1.cells rfl 4 (.int .u8 5) (by kernel_rfl)
  rw [add_plain] at q0 q1 q2
  rw [show (inoL 1 1 5 0 0 0 0 0 0 0 0 0 0).length = 64 from by decide]
  have HB := Lib.hid hn.bel
  clear hn
  have hbx : (w1.alloc (.cells #[.int .i64 20, .int .i64 5, .int .i64 6, .int .i64 72, .int .i64 256] 23)).heap[w1.heap.size]? = some (.cells #[.int .i64 20, .int .i64 5, .int .i64 6, .int .i64 72, .int .i64 256] 23 (0, 0)) := heap_alloc_new _ _
  have hbx2 := (HB.out.block _ (by simp)).trans hbx
  have z0 := (blk_cell hbx2 0).trans rfl
  have z1 := (blk_cell hbx2 1).trans rfl
  have z2 := (blk_cell hbx2 2).trans rfl
  clear hbx hbx2
  go_wp2_with fail
  go_ret
  exact ⟨by simp, bl_seq (bl_alloc H1.out _) HB.out⟩
end Go.Proofs.Ytdcelfoomjahjaa
