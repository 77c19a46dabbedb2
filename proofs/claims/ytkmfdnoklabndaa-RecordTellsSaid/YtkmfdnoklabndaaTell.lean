import Derived.Test.YtkmfdnoklabndaaRsays
import Derived.BigQuiet
/-! record.Tell, Epoch, AsData, MustData. -/
set_option linter.unusedVariables false
set_option linter.unusedSimpArgs false
namespace Go.Proofs.Ytkmfdnoklabndaa
open Go.RowKit Go.Proofs.YtkmfdnoklabndaaW.PrintWords Go.Proofs.YtkmfdnoklabndaaW.PrintLast
set_option maxHeartbeats 4000000 in
set_option maxRecDepth 100000 in
theorem tell_Table (e1 b1 i1 c1 l1 m1 : Int) (w : World) (i0 : 0 ≤ i1) (i9 : i1 ≤ 65535) (c0 : 0 ≤ c1) (c9 : c1 ≤ 65535) : Calls Try.prog 20 #[.agg #[.int .u8 1, .int .u32 e1, .int .u32 b1, .int .u16 i1, .int .u16 c1, .int .u32 l1, .int .u32 m1]] w fun e w' => Below w.heap.size w w' ∧ e = .returned (.iface 87 (.agg #[.int .u32 e1, .int .i64 i1, .int .i64 c1])) := by
  have wi := i64w (i := i1) (by omega) (by omega)
  have wc := i64w (i := c1) (by omega) (by omega)
  go_enter Try.func20, Try.ntmps20
  go_wp2_with fail
  have hb : (w.alloc (.cells #[.int .u8 1, .int .u32 e1, .int .u32 b1, .int .u16 i1, .int .u16 c1, .int .u32 l1, .int .u32 m1] 25)).heap[w.heap.size]? = some (.cells #[.int .u8 1, .int .u32 e1, .int .u32 b1, .int .u16 i1, .int .u16 c1, .int .u32 l1, .int .u32 m1] 25 (0, 0)) := heap_alloc_new _ _
  have tb : Below w.heap.size w (w.alloc (.cells #[.int .u8 1, .int .u32 e1, .int .u32 b1, .int .u16 i1, .int .u16 c1, .int .u32 l1, .int .u32 m1] 25)) := bl_alloc (Below.refl _ _) _
  generalize (w.alloc (.cells #[.int .u8 1, .int .u32 e1, .int .u32 b1, .int .u16 i1, .int .u16 c1, .int .u32 l1, .int .u32 m1] 25)) = w0 at hb tb ⊢
  have HB := Lib.hid hb
  have TB := Lib.hid tb
  clear hb tb
  have y3 : w0.cell? ⟨w.heap.size, 3, none⟩ = some (.int .u16 i1) := (blk_cell HB.out 3).trans rfl
  have y4 : w0.cell? ⟨w.heap.size, 4, none⟩ = some (.int .u16 c1) := (blk_cell HB.out 4).trans rfl
  go_quiet (fail)
  have hb : (w0.drewN nq).heap[w.heap.size]? = some (.cells #[.int .u8 1, .int .u32 e1, .int .u32 b1, .int .u16 i1, .int .u16 c1, .int .u32 l1, .int .u32 m1] 25 (0, 0)) := HB.out
  have tb : Below w.heap.size w (w0.drewN nq) := bl_drewN TB.out nq
  generalize w0.drewN nq = w1 at hb tb ⊢
  clear y3 y4 HB
  have z0 : w1.cell? ⟨w.heap.size, 0, none⟩ = some (.int .u8 1) := (blk_cell hb 0).trans rfl
  have z1 : w1.cell? ⟨w.heap.size, 1, none⟩ = some (.int .u32 e1) := (blk_cell hb 1).trans rfl
  have z2 : w1.cell? ⟨w.heap.size, 2, none⟩ = some (.int .u32 b1) := (blk_cell hb 2).trans rfl
  have z3 : w1.cell? ⟨w.heap.size, 3, none⟩ = some (.int .u16 i1) := (blk_cell hb 3).trans rfl
  have z4 : w1.cell? ⟨w.heap.size, 4, none⟩ = some (.int .u16 c1) := (blk_cell hb 4).trans rfl
  have z5 : w1.cell? ⟨w.heap.size, 5, none⟩ = some (.int .u32 l1) := (blk_cell hb 5).trans rfl
  have z6 : w1.cell? ⟨w.heap.size, 6, none⟩ = some (.int .u32 m1) := (blk_cell hb 6).trans rfl
  clear hb
  have TT := Lib.hid tb
  clear tb
  go_wp2_with fail
  go_ret
  exact ⟨TT.out, rfl⟩
set_option maxHeartbeats 4000000 in
set_option maxRecDepth 100000 in
theorem tell_Member (e1 b1 i1 c1 l1 m1 : Int) (w : World) (i0 : 0 ≤ i1) (i9 : i1 ≤ 65535) (c0 : 0 ≤ c1) (c9 : c1 ≤ 65535) : Calls Try.prog 20 #[.agg #[.int .u8 2, .int .u32 e1, .int .u32 b1, .int .u16 i1, .int .u16 c1, .int .u32 l1, .int .u32 m1]] w fun e w' => Below w.heap.size w w' ∧ e = .returned (.iface 89 (.agg #[.int .u32 e1])) := by
  have wi := i64w (i := i1) (by omega) (by omega)
  have wc := i64w (i := c1) (by omega) (by omega)
  go_enter Try.func20, Try.ntmps20
  go_wp2_with fail
  have hb : (w.alloc (.cells #[.int .u8 2, .int .u32 e1, .int .u32 b1, .int .u16 i1, .int .u16 c1, .int .u32 l1, .int .u32 m1] 25)).heap[w.heap.size]? = some (.cells #[.int .u8 2, .int .u32 e1, .int .u32 b1, .int .u16 i1, .int .u16 c1, .int .u32 l1, .int .u32 m1] 25 (0, 0)) := heap_alloc_new _ _
  have tb : Below w.heap.size w (w.alloc (.cells #[.int .u8 2, .int .u32 e1, .int .u32 b1, .int .u16 i1, .int .u16 c1, .int .u32 l1, .int .u32 m1] 25)) := bl_alloc (Below.refl _ _) _
  generalize (w.alloc (.cells #[.int .u8 2, .int .u32 e1, .int .u32 b1, .int .u16 i1, .int .u16 c1, .int .u32 l1, .int .u32 m1] 25)) = w0 at hb tb ⊢
  have HB := Lib.hid hb
  have TB := Lib.hid tb
  clear hb tb
  have y3 : w0.cell? ⟨w.heap.size, 3, none⟩ = some (.int .u16 i1) := (blk_cell HB.out 3).trans rfl
  have y4 : w0.cell? ⟨w.heap.size, 4, none⟩ = some (.int .u16 c1) := (blk_cell HB.out 4).trans rfl
  go_quiet (fail)
  have hb : (w0.drewN nq).heap[w.heap.size]? = some (.cells #[.int .u8 2, .int .u32 e1, .int .u32 b1, .int .u16 i1, .int .u16 c1, .int .u32 l1, .int .u32 m1] 25 (0, 0)) := HB.out
  have tb : Below w.heap.size w (w0.drewN nq) := bl_drewN TB.out nq
  generalize w0.drewN nq = w1 at hb tb ⊢
  clear y3 y4 HB
  have z0 : w1.cell? ⟨w.heap.size, 0, none⟩ = some (.int .u8 2) := (blk_cell hb 0).trans rfl
  have z1 : w1.cell? ⟨w.heap.size, 1, none⟩ = some (.int .u32 e1) := (blk_cell hb 1).trans rfl
  have z2 : w1.cell? ⟨w.heap.size, 2, none⟩ = some (.int .u32 b1) := (blk_cell hb 2).trans rfl
  have z3 : w1.cell? ⟨w.heap.size, 3, none⟩ = some (.int .u16 i1) := (blk_cell hb 3).trans rfl
  have z4 : w1.cell? ⟨w.heap.size, 4, none⟩ = some (.int .u16 c1) := (blk_cell hb 4).trans rfl
  have z5 : w1.cell? ⟨w.heap.size, 5, none⟩ = some (.int .u32 l1) := (blk_cell hb 5).trans rfl
  have z6 : w1.cell? ⟨w.heap.size, 6, none⟩ = some (.int .u32 m1) := (blk_cell hb 6).trans rfl
  clear hb
  have TT := Lib.hid tb
  clear tb
  go_wp2_with fail
  go_ret
  exact ⟨TT.out, rfl⟩
set_option maxHeartbeats 4000000 in
set_option maxRecDepth 100000 in
theorem tell_Point (e1 b1 i1 c1 l1 m1 : Int) (w : World) (i0 : 0 ≤ i1) (i9 : i1 ≤ 65535) (c0 : 0 ≤ c1) (c9 : c1 ≤ 65535) : Calls Try.prog 20 #[.agg #[.int .u8 3, .int .u32 e1, .int .u32 b1, .int .u16 i1, .int .u16 c1, .int .u32 l1, .int .u32 m1]] w fun e w' => Below w.heap.size w w' ∧ e = .returned (.iface 90 (.agg #[.int .u32 e1, .int .i64 i1, .int .i64 c1])) := by
  have wi := i64w (i := i1) (by omega) (by omega)
  have wc := i64w (i := c1) (by omega) (by omega)
  go_enter Try.func20, Try.ntmps20
  go_wp2_with fail
  have hb : (w.alloc (.cells #[.int .u8 3, .int .u32 e1, .int .u32 b1, .int .u16 i1, .int .u16 c1, .int .u32 l1, .int .u32 m1] 25)).heap[w.heap.size]? = some (.cells #[.int .u8 3, .int .u32 e1, .int .u32 b1, .int .u16 i1, .int .u16 c1, .int .u32 l1, .int .u32 m1] 25 (0, 0)) := heap_alloc_new _ _
  have tb : Below w.heap.size w (w.alloc (.cells #[.int .u8 3, .int .u32 e1, .int .u32 b1, .int .u16 i1, .int .u16 c1, .int .u32 l1, .int .u32 m1] 25)) := bl_alloc (Below.refl _ _) _
  generalize (w.alloc (.cells #[.int .u8 3, .int .u32 e1, .int .u32 b1, .int .u16 i1, .int .u16 c1, .int .u32 l1, .int .u32 m1] 25)) = w0 at hb tb ⊢
  have HB := Lib.hid hb
  have TB := Lib.hid tb
  clear hb tb
  have y3 : w0.cell? ⟨w.heap.size, 3, none⟩ = some (.int .u16 i1) := (blk_cell HB.out 3).trans rfl
  have y4 : w0.cell? ⟨w.heap.size, 4, none⟩ = some (.int .u16 c1) := (blk_cell HB.out 4).trans rfl
  go_quiet (fail)
  have hb : (w0.drewN nq).heap[w.heap.size]? = some (.cells #[.int .u8 3, .int .u32 e1, .int .u32 b1, .int .u16 i1, .int .u16 c1, .int .u32 l1, .int .u32 m1] 25 (0, 0)) := HB.out
  have tb : Below w.heap.size w (w0.drewN nq) := bl_drewN TB.out nq
  generalize w0.drewN nq = w1 at hb tb ⊢
  clear y3 y4 HB
  have z0 : w1.cell? ⟨w.heap.size, 0, none⟩ = some (.int .u8 3) := (blk_cell hb 0).trans rfl
  have z1 : w1.cell? ⟨w.heap.size, 1, none⟩ = some (.int .u32 e1) := (blk_cell hb 1).trans rfl
  have z2 : w1.cell? ⟨w.heap.size, 2, none⟩ = some (.int .u32 b1) := (blk_cell hb 2).trans rfl
  have z3 : w1.cell? ⟨w.heap.size, 3, none⟩ = some (.int .u16 i1) := (blk_cell hb 3).trans rfl
  have z4 : w1.cell? ⟨w.heap.size, 4, none⟩ = some (.int .u16 c1) := (blk_cell hb 4).trans rfl
  have z5 : w1.cell? ⟨w.heap.size, 5, none⟩ = some (.int .u32 l1) := (blk_cell hb 5).trans rfl
  have z6 : w1.cell? ⟨w.heap.size, 6, none⟩ = some (.int .u32 m1) := (blk_cell hb 6).trans rfl
  clear hb
  have TT := Lib.hid tb
  clear tb
  go_wp2_with fail
  go_ret
  exact ⟨TT.out, rfl⟩
set_option maxHeartbeats 4000000 in
set_option maxRecDepth 100000 in
theorem tell_Data (e1 b1 i1 c1 l1 m1 : Int) (w : World) (i0 : 0 ≤ i1) (i9 : i1 ≤ 65535) (c0 : 0 ≤ c1) (c9 : c1 ≤ 65535) : Calls Try.prog 20 #[.agg #[.int .u8 4, .int .u32 e1, .int .u32 b1, .int .u16 i1, .int .u16 c1, .int .u32 l1, .int .u32 m1]] w fun e w' => Below w.heap.size w w' ∧ e = .returned (.iface 53 (.agg #[.int .u32 e1, .int .u32 b1, .int .i64 i1, .int .i64 c1, .int .u32 l1])) := by
  have wi := i64w (i := i1) (by omega) (by omega)
  have wc := i64w (i := c1) (by omega) (by omega)
  go_enter Try.func20, Try.ntmps20
  go_wp2_with fail
  have hb : (w.alloc (.cells #[.int .u8 4, .int .u32 e1, .int .u32 b1, .int .u16 i1, .int .u16 c1, .int .u32 l1, .int .u32 m1] 25)).heap[w.heap.size]? = some (.cells #[.int .u8 4, .int .u32 e1, .int .u32 b1, .int .u16 i1, .int .u16 c1, .int .u32 l1, .int .u32 m1] 25 (0, 0)) := heap_alloc_new _ _
  have tb : Below w.heap.size w (w.alloc (.cells #[.int .u8 4, .int .u32 e1, .int .u32 b1, .int .u16 i1, .int .u16 c1, .int .u32 l1, .int .u32 m1] 25)) := bl_alloc (Below.refl _ _) _
  generalize (w.alloc (.cells #[.int .u8 4, .int .u32 e1, .int .u32 b1, .int .u16 i1, .int .u16 c1, .int .u32 l1, .int .u32 m1] 25)) = w0 at hb tb ⊢
  have HB := Lib.hid hb
  have TB := Lib.hid tb
  clear hb tb
  have y3 : w0.cell? ⟨w.heap.size, 3, none⟩ = some (.int .u16 i1) := (blk_cell HB.out 3).trans rfl
  have y4 : w0.cell? ⟨w.heap.size, 4, none⟩ = some (.int .u16 c1) := (blk_cell HB.out 4).trans rfl
  go_quiet (fail)
  have hb : (w0.drewN nq).heap[w.heap.size]? = some (.cells #[.int .u8 4, .int .u32 e1, .int .u32 b1, .int .u16 i1, .int .u16 c1, .int .u32 l1, .int .u32 m1] 25 (0, 0)) := HB.out
  have tb : Below w.heap.size w (w0.drewN nq) := bl_drewN TB.out nq
  generalize w0.drewN nq = w1 at hb tb ⊢
  clear y3 y4 HB
  have z0 : w1.cell? ⟨w.heap.size, 0, none⟩ = some (.int .u8 4) := (blk_cell hb 0).trans rfl
  have z1 : w1.cell? ⟨w.heap.size, 1, none⟩ = some (.int .u32 e1) := (blk_cell hb 1).trans rfl
  have z2 : w1.cell? ⟨w.heap.size, 2, none⟩ = some (.int .u32 b1) := (blk_cell hb 2).trans rfl
  have z3 : w1.cell? ⟨w.heap.size, 3, none⟩ = some (.int .u16 i1) := (blk_cell hb 3).trans rfl
  have z4 : w1.cell? ⟨w.heap.size, 4, none⟩ = some (.int .u16 c1) := (blk_cell hb 4).trans rfl
  have z5 : w1.cell? ⟨w.heap.size, 5, none⟩ = some (.int .u32 l1) := (blk_cell hb 5).trans rfl
  have z6 : w1.cell? ⟨w.heap.size, 6, none⟩ = some (.int .u32 m1) := (blk_cell hb 6).trans rfl
  clear hb
  have TT := Lib.hid tb
  clear tb
  go_wp2_with fail
  go_ret
  exact ⟨TT.out, rfl⟩
set_option maxHeartbeats 4000000 in
set_option maxRecDepth 100000 in
theorem tell_Parity (e1 b1 i1 c1 l1 m1 : Int) (w : World) (i0 : 0 ≤ i1) (i9 : i1 ≤ 65535) (c0 : 0 ≤ c1) (c9 : c1 ≤ 65535) : Calls Try.prog 20 #[.agg #[.int .u8 5, .int .u32 e1, .int .u32 b1, .int .u16 i1, .int .u16 c1, .int .u32 l1, .int .u32 m1]] w fun e w' => Below w.heap.size w w' ∧ e = .returned (.iface 55 (.agg #[.int .u32 e1, .int .u32 b1, .int .i64 i1, .int .i64 c1])) := by
  have wi := i64w (i := i1) (by omega) (by omega)
  have wc := i64w (i := c1) (by omega) (by omega)
  go_enter Try.func20, Try.ntmps20
  go_wp2_with fail
  have hb : (w.alloc (.cells #[.int .u8 5, .int .u32 e1, .int .u32 b1, .int .u16 i1, .int .u16 c1, .int .u32 l1, .int .u32 m1] 25)).heap[w.heap.size]? = some (.cells #[.int .u8 5, .int .u32 e1, .int .u32 b1, .int .u16 i1, .int .u16 c1, .int .u32 l1, .int .u32 m1] 25 (0, 0)) := heap_alloc_new _ _
  have tb : Below w.heap.size w (w.alloc (.cells #[.int .u8 5, .int .u32 e1, .int .u32 b1, .int .u16 i1, .int .u16 c1, .int .u32 l1, .int .u32 m1] 25)) := bl_alloc (Below.refl _ _) _
  generalize (w.alloc (.cells #[.int .u8 5, .int .u32 e1, .int .u32 b1, .int .u16 i1, .int .u16 c1, .int .u32 l1, .int .u32 m1] 25)) = w0 at hb tb ⊢
  have HB := Lib.hid hb
  have TB := Lib.hid tb
  clear hb tb
  have y3 : w0.cell? ⟨w.heap.size, 3, none⟩ = some (.int .u16 i1) := (blk_cell HB.out 3).trans rfl
  have y4 : w0.cell? ⟨w.heap.size, 4, none⟩ = some (.int .u16 c1) := (blk_cell HB.out 4).trans rfl
  go_quiet (fail)
  have hb : (w0.drewN nq).heap[w.heap.size]? = some (.cells #[.int .u8 5, .int .u32 e1, .int .u32 b1, .int .u16 i1, .int .u16 c1, .int .u32 l1, .int .u32 m1] 25 (0, 0)) := HB.out
  have tb : Below w.heap.size w (w0.drewN nq) := bl_drewN TB.out nq
  generalize w0.drewN nq = w1 at hb tb ⊢
  clear y3 y4 HB
  have z0 : w1.cell? ⟨w.heap.size, 0, none⟩ = some (.int .u8 5) := (blk_cell hb 0).trans rfl
  have z1 : w1.cell? ⟨w.heap.size, 1, none⟩ = some (.int .u32 e1) := (blk_cell hb 1).trans rfl
  have z2 : w1.cell? ⟨w.heap.size, 2, none⟩ = some (.int .u32 b1) := (blk_cell hb 2).trans rfl
  have z3 : w1.cell? ⟨w.heap.size, 3, none⟩ = some (.int .u16 i1) := (blk_cell hb 3).trans rfl
  have z4 : w1.cell? ⟨w.heap.size, 4, none⟩ = some (.int .u16 c1) := (blk_cell hb 4).trans rfl
  have z5 : w1.cell? ⟨w.heap.size, 5, none⟩ = some (.int .u32 l1) := (blk_cell hb 5).trans rfl
  have z6 : w1.cell? ⟨w.heap.size, 6, none⟩ = some (.int .u32 m1) := (blk_cell hb 6).trans rfl
  clear hb
  have TT := Lib.hid tb
  clear tb
  go_wp2_with fail
  go_ret
  exact ⟨TT.out, rfl⟩
set_option maxHeartbeats 4000000 in
set_option maxRecDepth 100000 in
theorem tell_Fill (e1 b1 i1 c1 l1 m1 : Int) (w : World) (i0 : 0 ≤ i1) (i9 : i1 ≤ 65535) (c0 : 0 ≤ c1) (c9 : c1 ≤ 65535) : Calls Try.prog 20 #[.agg #[.int .u8 6, .int .u32 e1, .int .u32 b1, .int .u16 i1, .int .u16 c1, .int .u32 l1, .int .u32 m1]] w fun e w' => Below w.heap.size w w' ∧ e = .returned (.iface 92 (.agg #[.int .u32 e1, .int .u32 b1])) := by
  have wi := i64w (i := i1) (by omega) (by omega)
  have wc := i64w (i := c1) (by omega) (by omega)
  go_enter Try.func20, Try.ntmps20
  go_wp2_with fail
  have hb : (w.alloc (.cells #[.int .u8 6, .int .u32 e1, .int .u32 b1, .int .u16 i1, .int .u16 c1, .int .u32 l1, .int .u32 m1] 25)).heap[w.heap.size]? = some (.cells #[.int .u8 6, .int .u32 e1, .int .u32 b1, .int .u16 i1, .int .u16 c1, .int .u32 l1, .int .u32 m1] 25 (0, 0)) := heap_alloc_new _ _
  have tb : Below w.heap.size w (w.alloc (.cells #[.int .u8 6, .int .u32 e1, .int .u32 b1, .int .u16 i1, .int .u16 c1, .int .u32 l1, .int .u32 m1] 25)) := bl_alloc (Below.refl _ _) _
  generalize (w.alloc (.cells #[.int .u8 6, .int .u32 e1, .int .u32 b1, .int .u16 i1, .int .u16 c1, .int .u32 l1, .int .u32 m1] 25)) = w0 at hb tb ⊢
  have HB := Lib.hid hb
  have TB := Lib.hid tb
  clear hb tb
  have y3 : w0.cell? ⟨w.heap.size, 3, none⟩ = some (.int .u16 i1) := (blk_cell HB.out 3).trans rfl
  have y4 : w0.cell? ⟨w.heap.size, 4, none⟩ = some (.int .u16 c1) := (blk_cell HB.out 4).trans rfl
  go_quiet (fail)
  have hb : (w0.drewN nq).heap[w.heap.size]? = some (.cells #[.int .u8 6, .int .u32 e1, .int .u32 b1, .int .u16 i1, .int .u16 c1, .int .u32 l1, .int .u32 m1] 25 (0, 0)) := HB.out
  have tb : Below w.heap.size w (w0.drewN nq) := bl_drewN TB.out nq
  generalize w0.drewN nq = w1 at hb tb ⊢
  clear y3 y4 HB
  have z0 : w1.cell? ⟨w.heap.size, 0, none⟩ = some (.int .u8 6) := (blk_cell hb 0).trans rfl
  have z1 : w1.cell? ⟨w.heap.size, 1, none⟩ = some (.int .u32 e1) := (blk_cell hb 1).trans rfl
  have z2 : w1.cell? ⟨w.heap.size, 2, none⟩ = some (.int .u32 b1) := (blk_cell hb 2).trans rfl
  have z3 : w1.cell? ⟨w.heap.size, 3, none⟩ = some (.int .u16 i1) := (blk_cell hb 3).trans rfl
  have z4 : w1.cell? ⟨w.heap.size, 4, none⟩ = some (.int .u16 c1) := (blk_cell hb 4).trans rfl
  have z5 : w1.cell? ⟨w.heap.size, 5, none⟩ = some (.int .u32 l1) := (blk_cell hb 5).trans rfl
  have z6 : w1.cell? ⟨w.heap.size, 6, none⟩ = some (.int .u32 m1) := (blk_cell hb 6).trans rfl
  clear hb
  have TT := Lib.hid tb
  clear tb
  go_wp2_with fail
  go_ret
  exact ⟨TT.out, rfl⟩
set_option maxHeartbeats 4000000 in
set_option maxRecDepth 100000 in
theorem tell_none (k e1 b1 i1 c1 l1 m1 : Int) (w : World) (i0 : 0 ≤ i1) (i9 : i1 ≤ 65535) (c0 : 0 ≤ c1) (c9 : c1 ≤ 65535) (k1 : (k == 1) = false) (k2 : (k == 2) = false) (k3 : (k == 3) = false) (k4 : (k == 4) = false) (k5 : (k == 5) = false) (k6 : (k == 6) = false) : Calls Try.prog 20 #[.agg #[.int .u8 k, .int .u32 e1, .int .u32 b1, .int .u16 i1, .int .u16 c1, .int .u32 l1, .int .u32 m1]] w fun e w' => Below w.heap.size w w' ∧ e = .returned (.nilIface) := by
  have wi := i64w (i := i1) (by omega) (by omega)
  have wc := i64w (i := c1) (by omega) (by omega)
  go_enter Try.func20, Try.ntmps20
  go_wp2_with fail
  have hb : (w.alloc (.cells #[.int .u8 k, .int .u32 e1, .int .u32 b1, .int .u16 i1, .int .u16 c1, .int .u32 l1, .int .u32 m1] 25)).heap[w.heap.size]? = some (.cells #[.int .u8 k, .int .u32 e1, .int .u32 b1, .int .u16 i1, .int .u16 c1, .int .u32 l1, .int .u32 m1] 25 (0, 0)) := heap_alloc_new _ _
  have tb : Below w.heap.size w (w.alloc (.cells #[.int .u8 k, .int .u32 e1, .int .u32 b1, .int .u16 i1, .int .u16 c1, .int .u32 l1, .int .u32 m1] 25)) := bl_alloc (Below.refl _ _) _
  generalize (w.alloc (.cells #[.int .u8 k, .int .u32 e1, .int .u32 b1, .int .u16 i1, .int .u16 c1, .int .u32 l1, .int .u32 m1] 25)) = w0 at hb tb ⊢
  have HB := Lib.hid hb
  have TB := Lib.hid tb
  clear hb tb
  have y3 : w0.cell? ⟨w.heap.size, 3, none⟩ = some (.int .u16 i1) := (blk_cell HB.out 3).trans rfl
  have y4 : w0.cell? ⟨w.heap.size, 4, none⟩ = some (.int .u16 c1) := (blk_cell HB.out 4).trans rfl
  go_quiet (fail)
  have hb : (w0.drewN nq).heap[w.heap.size]? = some (.cells #[.int .u8 k, .int .u32 e1, .int .u32 b1, .int .u16 i1, .int .u16 c1, .int .u32 l1, .int .u32 m1] 25 (0, 0)) := HB.out
  have tb : Below w.heap.size w (w0.drewN nq) := bl_drewN TB.out nq
  generalize w0.drewN nq = w1 at hb tb ⊢
  clear y3 y4 HB
  have z0 : w1.cell? ⟨w.heap.size, 0, none⟩ = some (.int .u8 k) := (blk_cell hb 0).trans rfl
  have z1 : w1.cell? ⟨w.heap.size, 1, none⟩ = some (.int .u32 e1) := (blk_cell hb 1).trans rfl
  have z2 : w1.cell? ⟨w.heap.size, 2, none⟩ = some (.int .u32 b1) := (blk_cell hb 2).trans rfl
  have z3 : w1.cell? ⟨w.heap.size, 3, none⟩ = some (.int .u16 i1) := (blk_cell hb 3).trans rfl
  have z4 : w1.cell? ⟨w.heap.size, 4, none⟩ = some (.int .u16 c1) := (blk_cell hb 4).trans rfl
  have z5 : w1.cell? ⟨w.heap.size, 5, none⟩ = some (.int .u32 l1) := (blk_cell hb 5).trans rfl
  have z6 : w1.cell? ⟨w.heap.size, 6, none⟩ = some (.int .u32 m1) := (blk_cell hb 6).trans rfl
  clear hb
  have TT := Lib.hid tb
  clear tb
  go_wp2_with fail
  go_ret
  exact ⟨TT.out, rfl⟩
set_option maxHeartbeats 4000000 in
set_option maxRecDepth 100000 in
theorem saidk_Table (e1 b1 i1 c1 l1 m1 : Int) (w : World) (i0 : 0 ≤ i1) (i9 : i1 ≤ 65535) (c0 : 0 ≤ c1) (c9 : c1 ≤ 65535) : Calls Try.prog 19 #[.iface 87 (.agg #[.int .u32 e1, .int .i64 i1, .int .i64 c1])] w fun e w' => Below w.heap.size w w' ∧ e = .returned (.tuple #[.agg #[.int .u8 1, .int .u32 e1, .int .u32 0, .int .u16 i1, .int .u16 c1, .int .u32 0, .int .u32 0], .bool true]) := by
  refine (said_Table e1 i1 c1 w).mono ?_
  rintro e w' ⟨hb, rfl⟩
  have hf : fitsB (i1) (c1) = true := by simp [fitsB] <;> omega
  refine ⟨hb, ?_⟩
  rw [saidH_yes hf, hf]
theorem epoch_Table (e1 b1 i1 c1 l1 m1 : Int) (w : World) (i0 : 0 ≤ i1) (i9 : i1 ≤ 65535) (c0 : 0 ≤ c1) (c9 : c1 ≤ 65535) : Calls Try.prog 21 #[.iface 87 (.agg #[.int .u32 e1, .int .i64 i1, .int .i64 c1])] w fun e w' => Below w.heap.size w w' ∧ e = .returned (.tuple #[.int .u32 e1, .int .i64 0]) := by
  have hs_ := Lib.hid (saidk_Table e1 b1 i1 c1 l1 m1 w i0 i9 c0 c9)
  clear i0 i9 c0 c9
  go_enter Try.func21, Try.ntmps21
  go_wp2_with fail
  refine hs_.out.mono ?_
  rintro e w1 ⟨hb1, rfl⟩
  have T1 := Lib.hid (bl_alloc hb1 (.cells #[.int .u8 1, .int .u32 e1, .int .u32 0, .int .u16 i1, .int .u16 c1, .int .u32 0, .int .u32 0] 25))
  have x1 : (w1.alloc (.cells #[.int .u8 1, .int .u32 e1, .int .u32 0, .int .u16 i1, .int .u16 c1, .int .u32 0, .int .u32 0] 25)).cell? ⟨w1.heap.size, 1, none⟩ = some (.int .u32 e1) := (blk_cell (heap_alloc_new w1 (.cells #[.int .u8 1, .int .u32 e1, .int .u32 0, .int .u16 i1, .int .u16 c1, .int .u32 0, .int .u32 0] 25)) 1).trans rfl
  clear hb1 hs_
  go_wp2_with fail
  exact bodyPost_ret (v := .tuple #[.int .u32 e1, .int .i64 0]) (by simp [results, Try.results21, go_sem]) rfl ⟨T1.out, rfl⟩
set_option maxHeartbeats 4000000 in
set_option maxRecDepth 100000 in
theorem saidk_Member (e1 b1 i1 c1 l1 m1 : Int) (w : World) (i0 : 0 ≤ i1) (i9 : i1 ≤ 65535) (c0 : 0 ≤ c1) (c9 : c1 ≤ 65535) : Calls Try.prog 19 #[.iface 89 (.agg #[.int .u32 e1])] w fun e w' => Below w.heap.size w w' ∧ e = .returned (.tuple #[.agg #[.int .u8 2, .int .u32 e1, .int .u32 0, .int .u16 0, .int .u16 1, .int .u32 0, .int .u32 0], .bool true]) := by
  refine (said_Member e1 w).mono ?_
  rintro e w' ⟨hb, rfl⟩
  have hf : fitsB (0) (1) = true := by simp [fitsB] <;> omega
  refine ⟨hb, ?_⟩
  rw [saidH_yes hf, hf]
theorem epoch_Member (e1 b1 i1 c1 l1 m1 : Int) (w : World) (i0 : 0 ≤ i1) (i9 : i1 ≤ 65535) (c0 : 0 ≤ c1) (c9 : c1 ≤ 65535) : Calls Try.prog 21 #[.iface 89 (.agg #[.int .u32 e1])] w fun e w' => Below w.heap.size w w' ∧ e = .returned (.tuple #[.int .u32 e1, .int .i64 0]) := by
  have hs_ := Lib.hid (saidk_Member e1 b1 i1 c1 l1 m1 w i0 i9 c0 c9)
  clear i0 i9 c0 c9
  go_enter Try.func21, Try.ntmps21
  go_wp2_with fail
  refine hs_.out.mono ?_
  rintro e w1 ⟨hb1, rfl⟩
  have T1 := Lib.hid (bl_alloc hb1 (.cells #[.int .u8 2, .int .u32 e1, .int .u32 0, .int .u16 0, .int .u16 1, .int .u32 0, .int .u32 0] 25))
  have x1 : (w1.alloc (.cells #[.int .u8 2, .int .u32 e1, .int .u32 0, .int .u16 0, .int .u16 1, .int .u32 0, .int .u32 0] 25)).cell? ⟨w1.heap.size, 1, none⟩ = some (.int .u32 e1) := (blk_cell (heap_alloc_new w1 (.cells #[.int .u8 2, .int .u32 e1, .int .u32 0, .int .u16 0, .int .u16 1, .int .u32 0, .int .u32 0] 25)) 1).trans rfl
  clear hb1 hs_
  go_wp2_with fail
  exact bodyPost_ret (v := .tuple #[.int .u32 e1, .int .i64 0]) (by simp [results, Try.results21, go_sem]) rfl ⟨T1.out, rfl⟩
set_option maxHeartbeats 4000000 in
set_option maxRecDepth 100000 in
theorem saidk_Point (e1 b1 i1 c1 l1 m1 : Int) (w : World) (i0 : 0 ≤ i1) (i9 : i1 ≤ 65535) (c0 : 0 ≤ c1) (c9 : c1 ≤ 65535) : Calls Try.prog 19 #[.iface 90 (.agg #[.int .u32 e1, .int .i64 i1, .int .i64 c1])] w fun e w' => Below w.heap.size w w' ∧ e = .returned (.tuple #[.agg #[.int .u8 3, .int .u32 e1, .int .u32 0, .int .u16 i1, .int .u16 c1, .int .u32 0, .int .u32 0], .bool true]) := by
  refine (said_Point e1 i1 c1 w).mono ?_
  rintro e w' ⟨hb, rfl⟩
  have hf : fitsB (i1) (c1) = true := by simp [fitsB] <;> omega
  refine ⟨hb, ?_⟩
  rw [saidH_yes hf, hf]
theorem epoch_Point (e1 b1 i1 c1 l1 m1 : Int) (w : World) (i0 : 0 ≤ i1) (i9 : i1 ≤ 65535) (c0 : 0 ≤ c1) (c9 : c1 ≤ 65535) : Calls Try.prog 21 #[.iface 90 (.agg #[.int .u32 e1, .int .i64 i1, .int .i64 c1])] w fun e w' => Below w.heap.size w w' ∧ e = .returned (.tuple #[.int .u32 e1, .int .i64 0]) := by
  have hs_ := Lib.hid (saidk_Point e1 b1 i1 c1 l1 m1 w i0 i9 c0 c9)
  clear i0 i9 c0 c9
  go_enter Try.func21, Try.ntmps21
  go_wp2_with fail
  refine hs_.out.mono ?_
  rintro e w1 ⟨hb1, rfl⟩
  have T1 := Lib.hid (bl_alloc hb1 (.cells #[.int .u8 3, .int .u32 e1, .int .u32 0, .int .u16 i1, .int .u16 c1, .int .u32 0, .int .u32 0] 25))
  have x1 : (w1.alloc (.cells #[.int .u8 3, .int .u32 e1, .int .u32 0, .int .u16 i1, .int .u16 c1, .int .u32 0, .int .u32 0] 25)).cell? ⟨w1.heap.size, 1, none⟩ = some (.int .u32 e1) := (blk_cell (heap_alloc_new w1 (.cells #[.int .u8 3, .int .u32 e1, .int .u32 0, .int .u16 i1, .int .u16 c1, .int .u32 0, .int .u32 0] 25)) 1).trans rfl
  clear hb1 hs_
  go_wp2_with fail
  exact bodyPost_ret (v := .tuple #[.int .u32 e1, .int .i64 0]) (by simp [results, Try.results21, go_sem]) rfl ⟨T1.out, rfl⟩
set_option maxHeartbeats 4000000 in
set_option maxRecDepth 100000 in
theorem saidk_Data (e1 b1 i1 c1 l1 m1 : Int) (w : World) (i0 : 0 ≤ i1) (i9 : i1 ≤ 65535) (c0 : 0 ≤ c1) (c9 : c1 ≤ 65535) : Calls Try.prog 19 #[.iface 53 (.agg #[.int .u32 e1, .int .u32 b1, .int .i64 i1, .int .i64 c1, .int .u32 l1])] w fun e w' => Below w.heap.size w w' ∧ e = .returned (.tuple #[.agg #[.int .u8 4, .int .u32 e1, .int .u32 b1, .int .u16 i1, .int .u16 c1, .int .u32 l1, .int .u32 0], .bool true]) := by
  refine (said_Data e1 b1 i1 c1 l1 w).mono ?_
  rintro e w' ⟨hb, rfl⟩
  have hf : fitsB (i1) (c1) = true := by simp [fitsB] <;> omega
  refine ⟨hb, ?_⟩
  rw [saidH_yes hf, hf]
theorem epoch_Data (e1 b1 i1 c1 l1 m1 : Int) (w : World) (i0 : 0 ≤ i1) (i9 : i1 ≤ 65535) (c0 : 0 ≤ c1) (c9 : c1 ≤ 65535) : Calls Try.prog 21 #[.iface 53 (.agg #[.int .u32 e1, .int .u32 b1, .int .i64 i1, .int .i64 c1, .int .u32 l1])] w fun e w' => Below w.heap.size w w' ∧ e = .returned (.tuple #[.int .u32 e1, .int .i64 0]) := by
  have hs_ := Lib.hid (saidk_Data e1 b1 i1 c1 l1 m1 w i0 i9 c0 c9)
  clear i0 i9 c0 c9
  go_enter Try.func21, Try.ntmps21
  go_wp2_with fail
  refine hs_.out.mono ?_
  rintro e w1 ⟨hb1, rfl⟩
  have T1 := Lib.hid (bl_alloc hb1 (.cells #[.int .u8 4, .int .u32 e1, .int .u32 b1, .int .u16 i1, .int .u16 c1, .int .u32 l1, .int .u32 0] 25))
  have x1 : (w1.alloc (.cells #[.int .u8 4, .int .u32 e1, .int .u32 b1, .int .u16 i1, .int .u16 c1, .int .u32 l1, .int .u32 0] 25)).cell? ⟨w1.heap.size, 1, none⟩ = some (.int .u32 e1) := (blk_cell (heap_alloc_new w1 (.cells #[.int .u8 4, .int .u32 e1, .int .u32 b1, .int .u16 i1, .int .u16 c1, .int .u32 l1, .int .u32 0] 25)) 1).trans rfl
  clear hb1 hs_
  go_wp2_with fail
  exact bodyPost_ret (v := .tuple #[.int .u32 e1, .int .i64 0]) (by simp [results, Try.results21, go_sem]) rfl ⟨T1.out, rfl⟩
set_option maxHeartbeats 4000000 in
set_option maxRecDepth 100000 in
theorem saidk_Parity (e1 b1 i1 c1 l1 m1 : Int) (w : World) (i0 : 0 ≤ i1) (i9 : i1 ≤ 65535) (c0 : 0 ≤ c1) (c9 : c1 ≤ 65535) : Calls Try.prog 19 #[.iface 55 (.agg #[.int .u32 e1, .int .u32 b1, .int .i64 i1, .int .i64 c1])] w fun e w' => Below w.heap.size w w' ∧ e = .returned (.tuple #[.agg #[.int .u8 5, .int .u32 e1, .int .u32 b1, .int .u16 i1, .int .u16 c1, .int .u32 0, .int .u32 0], .bool true]) := by
  refine (said_Parity e1 b1 i1 c1 w).mono ?_
  rintro e w' ⟨hb, rfl⟩
  have hf : fitsB (i1) (c1) = true := by simp [fitsB] <;> omega
  refine ⟨hb, ?_⟩
  rw [saidH_yes hf, hf]
theorem epoch_Parity (e1 b1 i1 c1 l1 m1 : Int) (w : World) (i0 : 0 ≤ i1) (i9 : i1 ≤ 65535) (c0 : 0 ≤ c1) (c9 : c1 ≤ 65535) : Calls Try.prog 21 #[.iface 55 (.agg #[.int .u32 e1, .int .u32 b1, .int .i64 i1, .int .i64 c1])] w fun e w' => Below w.heap.size w w' ∧ e = .returned (.tuple #[.int .u32 e1, .int .i64 0]) := by
  have hs_ := Lib.hid (saidk_Parity e1 b1 i1 c1 l1 m1 w i0 i9 c0 c9)
  clear i0 i9 c0 c9
  go_enter Try.func21, Try.ntmps21
  go_wp2_with fail
  refine hs_.out.mono ?_
  rintro e w1 ⟨hb1, rfl⟩
  have T1 := Lib.hid (bl_alloc hb1 (.cells #[.int .u8 5, .int .u32 e1, .int .u32 b1, .int .u16 i1, .int .u16 c1, .int .u32 0, .int .u32 0] 25))
  have x1 : (w1.alloc (.cells #[.int .u8 5, .int .u32 e1, .int .u32 b1, .int .u16 i1, .int .u16 c1, .int .u32 0, .int .u32 0] 25)).cell? ⟨w1.heap.size, 1, none⟩ = some (.int .u32 e1) := (blk_cell (heap_alloc_new w1 (.cells #[.int .u8 5, .int .u32 e1, .int .u32 b1, .int .u16 i1, .int .u16 c1, .int .u32 0, .int .u32 0] 25)) 1).trans rfl
  clear hb1 hs_
  go_wp2_with fail
  exact bodyPost_ret (v := .tuple #[.int .u32 e1, .int .i64 0]) (by simp [results, Try.results21, go_sem]) rfl ⟨T1.out, rfl⟩
set_option maxHeartbeats 4000000 in
set_option maxRecDepth 100000 in
theorem saidk_Fill (e1 b1 i1 c1 l1 m1 : Int) (w : World) (i0 : 0 ≤ i1) (i9 : i1 ≤ 65535) (c0 : 0 ≤ c1) (c9 : c1 ≤ 65535) : Calls Try.prog 19 #[.iface 92 (.agg #[.int .u32 e1, .int .u32 b1])] w fun e w' => Below w.heap.size w w' ∧ e = .returned (.tuple #[.agg #[.int .u8 6, .int .u32 e1, .int .u32 b1, .int .u16 0, .int .u16 0, .int .u32 0, .int .u32 0], .bool true]) := by
  refine (said_Fill e1 b1 w).mono ?_
  rintro e w' ⟨hb, rfl⟩
  have hf : fitsB (0) (0) = true := by simp [fitsB] <;> omega
  refine ⟨hb, ?_⟩
  rw [saidH_yes hf, hf]
theorem epoch_Fill (e1 b1 i1 c1 l1 m1 : Int) (w : World) (i0 : 0 ≤ i1) (i9 : i1 ≤ 65535) (c0 : 0 ≤ c1) (c9 : c1 ≤ 65535) : Calls Try.prog 21 #[.iface 92 (.agg #[.int .u32 e1, .int .u32 b1])] w fun e w' => Below w.heap.size w w' ∧ e = .returned (.tuple #[.int .u32 e1, .int .i64 0]) := by
  have hs_ := Lib.hid (saidk_Fill e1 b1 i1 c1 l1 m1 w i0 i9 c0 c9)
  clear i0 i9 c0 c9
  go_enter Try.func21, Try.ntmps21
  go_wp2_with fail
  refine hs_.out.mono ?_
  rintro e w1 ⟨hb1, rfl⟩
  have T1 := Lib.hid (bl_alloc hb1 (.cells #[.int .u8 6, .int .u32 e1, .int .u32 b1, .int .u16 0, .int .u16 0, .int .u32 0, .int .u32 0] 25))
  have x1 : (w1.alloc (.cells #[.int .u8 6, .int .u32 e1, .int .u32 b1, .int .u16 0, .int .u16 0, .int .u32 0, .int .u32 0] 25)).cell? ⟨w1.heap.size, 1, none⟩ = some (.int .u32 e1) := (blk_cell (heap_alloc_new w1 (.cells #[.int .u8 6, .int .u32 e1, .int .u32 b1, .int .u16 0, .int .u16 0, .int .u32 0, .int .u32 0] 25)) 1).trans rfl
  clear hb1 hs_
  go_wp2_with fail
  exact bodyPost_ret (v := .tuple #[.int .u32 e1, .int .i64 0]) (by simp [results, Try.results21, go_sem]) rfl ⟨T1.out, rfl⟩
set_option maxHeartbeats 4000000 in
set_option maxRecDepth 100000 in
theorem epoch_nil (w : World) : Calls Try.prog 21 #[.nilIface] w fun e w' => Below w.heap.size w w' ∧ e = .returned (.tuple #[.int .u32 0, .int .i64 62]) := by
  have hs_ := Lib.hid (said_nil w)
  go_enter Try.func21, Try.ntmps21
  go_wp2_with fail
  refine hs_.out.mono ?_
  rintro e w1 ⟨hb1, he⟩
  rw [show (hdC hd0 : Array Value) = #[.int .u8 0, .int .u32 0, .int .u32 0, .int .u16 0, .int .u16 0, .int .u32 0, .int .u32 0] from rfl] at he
  subst he
  have T1 := Lib.hid (bl_alloc hb1 (.cells #[.int .u8 0, .int .u32 0, .int .u32 0, .int .u16 0, .int .u16 0, .int .u32 0, .int .u32 0] 25))
  clear hb1 hs_
  go_wp2_with fail
  exact bodyPost_ret (v := .tuple #[.int .u32 0, .int .i64 62]) (by simp [results, Try.results21, go_sem]) rfl ⟨T1.out, rfl⟩
set_option maxHeartbeats 4000000 in
set_option maxRecDepth 100000 in
theorem asdata_Table (e1 b1 i1 c1 l1 m1 : Int) (w : World) : Calls Try.prog 22 #[.iface 87 (.agg #[.int .u32 e1, .int .i64 i1, .int .i64 c1])] w fun e w' => Below w.heap.size w w' ∧ e = .returned (.tuple #[.agg #[.int .u32 0, .int .u32 0, .int .i64 0, .int .i64 0, .int .u32 0], .bool false]) := by
  have ta : ∀ W : World, (Instr.typeAssert (.iface 87 (.agg #[.int .u32 e1, .int .i64 i1, .int .i64 c1])) 20 53 true).run Try.prog W = .ok (.tuple #[.agg #[.int .u32 0, .int .u32 0, .int .i64 0, .int .i64 0, .int .u32 0], .bool false]) W := fun W => by first | rfl | kernel_rfl
  go_enter Try.func22, Try.ntmps22
  go_wp2_with fail
  have hf := blk_alloc (heap_alloc_new w (.cells #[.int .u32 0, .int .u32 0, .int .i64 0, .int .i64 0, .int .u32 0] 53)) (.cells #[.int .u32 0, .int .u32 0, .int .i64 0, .int .i64 0, .int .u32 0] 53)
  have t9 : Below w.heap.size w ((w.alloc (.cells #[.int .u32 0, .int .u32 0, .int .i64 0, .int .i64 0, .int .u32 0] 53)).alloc (.cells #[.int .u32 0, .int .u32 0, .int .i64 0, .int .i64 0, .int .u32 0] 53)) := bl_alloc (bl_alloc (Below.refl _ _) _) _
  generalize ((w.alloc (.cells #[.int .u32 0, .int .u32 0, .int .i64 0, .int .i64 0, .int .u32 0] 53)).alloc (.cells #[.int .u32 0, .int .u32 0, .int .i64 0, .int .i64 0, .int .u32 0] 53)) = w9 at hf t9 ⊢
  have cc0 : w9.cell? ⟨w.heap.size, 0, none⟩ = some (.int .u32 0) := (blk_cell hf 0).trans rfl
  have cc1 : w9.cell? ⟨w.heap.size, 1, none⟩ = some (.int .u32 0) := (blk_cell hf 1).trans rfl
  have cc2 : w9.cell? ⟨w.heap.size, 2, none⟩ = some (.int .i64 0) := (blk_cell hf 2).trans rfl
  have cc3 : w9.cell? ⟨w.heap.size, 3, none⟩ = some (.int .i64 0) := (blk_cell hf 3).trans rfl
  have cc4 : w9.cell? ⟨w.heap.size, 4, none⟩ = some (.int .u32 0) := (blk_cell hf 4).trans rfl
  clear hf
  exact bodyPost_ret (v := .tuple #[.agg #[.int .u32 0, .int .u32 0, .int .i64 0, .int .i64 0, .int .u32 0], .bool false]) (by simp [results, Try.results22, go_sem, cc0, cc1, cc2, cc3, cc4]) rfl ⟨t9, rfl⟩
set_option maxHeartbeats 4000000 in
set_option maxRecDepth 100000 in
theorem asdata_Member (e1 b1 i1 c1 l1 m1 : Int) (w : World) : Calls Try.prog 22 #[.iface 89 (.agg #[.int .u32 e1])] w fun e w' => Below w.heap.size w w' ∧ e = .returned (.tuple #[.agg #[.int .u32 0, .int .u32 0, .int .i64 0, .int .i64 0, .int .u32 0], .bool false]) := by
  have ta : ∀ W : World, (Instr.typeAssert (.iface 89 (.agg #[.int .u32 e1])) 20 53 true).run Try.prog W = .ok (.tuple #[.agg #[.int .u32 0, .int .u32 0, .int .i64 0, .int .i64 0, .int .u32 0], .bool false]) W := fun W => by first | rfl | kernel_rfl
  go_enter Try.func22, Try.ntmps22
  go_wp2_with fail
  have hf := blk_alloc (heap_alloc_new w (.cells #[.int .u32 0, .int .u32 0, .int .i64 0, .int .i64 0, .int .u32 0] 53)) (.cells #[.int .u32 0, .int .u32 0, .int .i64 0, .int .i64 0, .int .u32 0] 53)
  have t9 : Below w.heap.size w ((w.alloc (.cells #[.int .u32 0, .int .u32 0, .int .i64 0, .int .i64 0, .int .u32 0] 53)).alloc (.cells #[.int .u32 0, .int .u32 0, .int .i64 0, .int .i64 0, .int .u32 0] 53)) := bl_alloc (bl_alloc (Below.refl _ _) _) _
  generalize ((w.alloc (.cells #[.int .u32 0, .int .u32 0, .int .i64 0, .int .i64 0, .int .u32 0] 53)).alloc (.cells #[.int .u32 0, .int .u32 0, .int .i64 0, .int .i64 0, .int .u32 0] 53)) = w9 at hf t9 ⊢
  have cc0 : w9.cell? ⟨w.heap.size, 0, none⟩ = some (.int .u32 0) := (blk_cell hf 0).trans rfl
  have cc1 : w9.cell? ⟨w.heap.size, 1, none⟩ = some (.int .u32 0) := (blk_cell hf 1).trans rfl
  have cc2 : w9.cell? ⟨w.heap.size, 2, none⟩ = some (.int .i64 0) := (blk_cell hf 2).trans rfl
  have cc3 : w9.cell? ⟨w.heap.size, 3, none⟩ = some (.int .i64 0) := (blk_cell hf 3).trans rfl
  have cc4 : w9.cell? ⟨w.heap.size, 4, none⟩ = some (.int .u32 0) := (blk_cell hf 4).trans rfl
  clear hf
  exact bodyPost_ret (v := .tuple #[.agg #[.int .u32 0, .int .u32 0, .int .i64 0, .int .i64 0, .int .u32 0], .bool false]) (by simp [results, Try.results22, go_sem, cc0, cc1, cc2, cc3, cc4]) rfl ⟨t9, rfl⟩
set_option maxHeartbeats 4000000 in
set_option maxRecDepth 100000 in
theorem asdata_Point (e1 b1 i1 c1 l1 m1 : Int) (w : World) : Calls Try.prog 22 #[.iface 90 (.agg #[.int .u32 e1, .int .i64 i1, .int .i64 c1])] w fun e w' => Below w.heap.size w w' ∧ e = .returned (.tuple #[.agg #[.int .u32 0, .int .u32 0, .int .i64 0, .int .i64 0, .int .u32 0], .bool false]) := by
  have ta : ∀ W : World, (Instr.typeAssert (.iface 90 (.agg #[.int .u32 e1, .int .i64 i1, .int .i64 c1])) 20 53 true).run Try.prog W = .ok (.tuple #[.agg #[.int .u32 0, .int .u32 0, .int .i64 0, .int .i64 0, .int .u32 0], .bool false]) W := fun W => by first | rfl | kernel_rfl
  go_enter Try.func22, Try.ntmps22
  go_wp2_with fail
  have hf := blk_alloc (heap_alloc_new w (.cells #[.int .u32 0, .int .u32 0, .int .i64 0, .int .i64 0, .int .u32 0] 53)) (.cells #[.int .u32 0, .int .u32 0, .int .i64 0, .int .i64 0, .int .u32 0] 53)
  have t9 : Below w.heap.size w ((w.alloc (.cells #[.int .u32 0, .int .u32 0, .int .i64 0, .int .i64 0, .int .u32 0] 53)).alloc (.cells #[.int .u32 0, .int .u32 0, .int .i64 0, .int .i64 0, .int .u32 0] 53)) := bl_alloc (bl_alloc (Below.refl _ _) _) _
  generalize ((w.alloc (.cells #[.int .u32 0, .int .u32 0, .int .i64 0, .int .i64 0, .int .u32 0] 53)).alloc (.cells #[.int .u32 0, .int .u32 0, .int .i64 0, .int .i64 0, .int .u32 0] 53)) = w9 at hf t9 ⊢
  have cc0 : w9.cell? ⟨w.heap.size, 0, none⟩ = some (.int .u32 0) := (blk_cell hf 0).trans rfl
  have cc1 : w9.cell? ⟨w.heap.size, 1, none⟩ = some (.int .u32 0) := (blk_cell hf 1).trans rfl
  have cc2 : w9.cell? ⟨w.heap.size, 2, none⟩ = some (.int .i64 0) := (blk_cell hf 2).trans rfl
  have cc3 : w9.cell? ⟨w.heap.size, 3, none⟩ = some (.int .i64 0) := (blk_cell hf 3).trans rfl
  have cc4 : w9.cell? ⟨w.heap.size, 4, none⟩ = some (.int .u32 0) := (blk_cell hf 4).trans rfl
  clear hf
  exact bodyPost_ret (v := .tuple #[.agg #[.int .u32 0, .int .u32 0, .int .i64 0, .int .i64 0, .int .u32 0], .bool false]) (by simp [results, Try.results22, go_sem, cc0, cc1, cc2, cc3, cc4]) rfl ⟨t9, rfl⟩
set_option maxHeartbeats 4000000 in
set_option maxRecDepth 100000 in
theorem asdata_Data (e1 b1 i1 c1 l1 m1 : Int) (w : World) : Calls Try.prog 22 #[.iface 53 (.agg #[.int .u32 e1, .int .u32 b1, .int .i64 i1, .int .i64 c1, .int .u32 l1])] w fun e w' => Below w.heap.size w w' ∧ e = .returned (.tuple #[.agg #[.int .u32 e1, .int .u32 b1, .int .i64 i1, .int .i64 c1, .int .u32 l1], .bool true]) := by
  have ta : ∀ W : World, (Instr.typeAssert (.iface 53 (.agg #[.int .u32 e1, .int .u32 b1, .int .i64 i1, .int .i64 c1, .int .u32 l1])) 20 53 true).run Try.prog W = .ok (.tuple #[.agg #[.int .u32 e1, .int .u32 b1, .int .i64 i1, .int .i64 c1, .int .u32 l1], .bool true]) W := fun W => by first | rfl | kernel_rfl
  go_enter Try.func22, Try.ntmps22
  go_wp2_with fail
  have hf := blk_alloc (heap_alloc_new w (.cells #[.int .u32 e1, .int .u32 b1, .int .i64 i1, .int .i64 c1, .int .u32 l1] 53)) (.cells #[.int .u32 e1, .int .u32 b1, .int .i64 i1, .int .i64 c1, .int .u32 l1] 53)
  have t9 : Below w.heap.size w ((w.alloc (.cells #[.int .u32 e1, .int .u32 b1, .int .i64 i1, .int .i64 c1, .int .u32 l1] 53)).alloc (.cells #[.int .u32 e1, .int .u32 b1, .int .i64 i1, .int .i64 c1, .int .u32 l1] 53)) := bl_alloc (bl_alloc (Below.refl _ _) _) _
  generalize ((w.alloc (.cells #[.int .u32 e1, .int .u32 b1, .int .i64 i1, .int .i64 c1, .int .u32 l1] 53)).alloc (.cells #[.int .u32 e1, .int .u32 b1, .int .i64 i1, .int .i64 c1, .int .u32 l1] 53)) = w9 at hf t9 ⊢
  have cc0 : w9.cell? ⟨w.heap.size, 0, none⟩ = some (.int .u32 e1) := (blk_cell hf 0).trans rfl
  have cc1 : w9.cell? ⟨w.heap.size, 1, none⟩ = some (.int .u32 b1) := (blk_cell hf 1).trans rfl
  have cc2 : w9.cell? ⟨w.heap.size, 2, none⟩ = some (.int .i64 i1) := (blk_cell hf 2).trans rfl
  have cc3 : w9.cell? ⟨w.heap.size, 3, none⟩ = some (.int .i64 c1) := (blk_cell hf 3).trans rfl
  have cc4 : w9.cell? ⟨w.heap.size, 4, none⟩ = some (.int .u32 l1) := (blk_cell hf 4).trans rfl
  clear hf
  exact bodyPost_ret (v := .tuple #[.agg #[.int .u32 e1, .int .u32 b1, .int .i64 i1, .int .i64 c1, .int .u32 l1], .bool true]) (by simp [results, Try.results22, go_sem, cc0, cc1, cc2, cc3, cc4]) rfl ⟨t9, rfl⟩
set_option maxHeartbeats 4000000 in
set_option maxRecDepth 100000 in
theorem asdata_Parity (e1 b1 i1 c1 l1 m1 : Int) (w : World) : Calls Try.prog 22 #[.iface 55 (.agg #[.int .u32 e1, .int .u32 b1, .int .i64 i1, .int .i64 c1])] w fun e w' => Below w.heap.size w w' ∧ e = .returned (.tuple #[.agg #[.int .u32 0, .int .u32 0, .int .i64 0, .int .i64 0, .int .u32 0], .bool false]) := by
  have ta : ∀ W : World, (Instr.typeAssert (.iface 55 (.agg #[.int .u32 e1, .int .u32 b1, .int .i64 i1, .int .i64 c1])) 20 53 true).run Try.prog W = .ok (.tuple #[.agg #[.int .u32 0, .int .u32 0, .int .i64 0, .int .i64 0, .int .u32 0], .bool false]) W := fun W => by first | rfl | kernel_rfl
  go_enter Try.func22, Try.ntmps22
  go_wp2_with fail
  have hf := blk_alloc (heap_alloc_new w (.cells #[.int .u32 0, .int .u32 0, .int .i64 0, .int .i64 0, .int .u32 0] 53)) (.cells #[.int .u32 0, .int .u32 0, .int .i64 0, .int .i64 0, .int .u32 0] 53)
  have t9 : Below w.heap.size w ((w.alloc (.cells #[.int .u32 0, .int .u32 0, .int .i64 0, .int .i64 0, .int .u32 0] 53)).alloc (.cells #[.int .u32 0, .int .u32 0, .int .i64 0, .int .i64 0, .int .u32 0] 53)) := bl_alloc (bl_alloc (Below.refl _ _) _) _
  generalize ((w.alloc (.cells #[.int .u32 0, .int .u32 0, .int .i64 0, .int .i64 0, .int .u32 0] 53)).alloc (.cells #[.int .u32 0, .int .u32 0, .int .i64 0, .int .i64 0, .int .u32 0] 53)) = w9 at hf t9 ⊢
  have cc0 : w9.cell? ⟨w.heap.size, 0, none⟩ = some (.int .u32 0) := (blk_cell hf 0).trans rfl
  have cc1 : w9.cell? ⟨w.heap.size, 1, none⟩ = some (.int .u32 0) := (blk_cell hf 1).trans rfl
  have cc2 : w9.cell? ⟨w.heap.size, 2, none⟩ = some (.int .i64 0) := (blk_cell hf 2).trans rfl
  have cc3 : w9.cell? ⟨w.heap.size, 3, none⟩ = some (.int .i64 0) := (blk_cell hf 3).trans rfl
  have cc4 : w9.cell? ⟨w.heap.size, 4, none⟩ = some (.int .u32 0) := (blk_cell hf 4).trans rfl
  clear hf
  exact bodyPost_ret (v := .tuple #[.agg #[.int .u32 0, .int .u32 0, .int .i64 0, .int .i64 0, .int .u32 0], .bool false]) (by simp [results, Try.results22, go_sem, cc0, cc1, cc2, cc3, cc4]) rfl ⟨t9, rfl⟩
set_option maxHeartbeats 4000000 in
set_option maxRecDepth 100000 in
theorem asdata_Fill (e1 b1 i1 c1 l1 m1 : Int) (w : World) : Calls Try.prog 22 #[.iface 92 (.agg #[.int .u32 e1, .int .u32 b1])] w fun e w' => Below w.heap.size w w' ∧ e = .returned (.tuple #[.agg #[.int .u32 0, .int .u32 0, .int .i64 0, .int .i64 0, .int .u32 0], .bool false]) := by
  have ta : ∀ W : World, (Instr.typeAssert (.iface 92 (.agg #[.int .u32 e1, .int .u32 b1])) 20 53 true).run Try.prog W = .ok (.tuple #[.agg #[.int .u32 0, .int .u32 0, .int .i64 0, .int .i64 0, .int .u32 0], .bool false]) W := fun W => by first | rfl | kernel_rfl
  go_enter Try.func22, Try.ntmps22
  go_wp2_with fail
  have hf := blk_alloc (heap_alloc_new w (.cells #[.int .u32 0, .int .u32 0, .int .i64 0, .int .i64 0, .int .u32 0] 53)) (.cells #[.int .u32 0, .int .u32 0, .int .i64 0, .int .i64 0, .int .u32 0] 53)
  have t9 : Below w.heap.size w ((w.alloc (.cells #[.int .u32 0, .int .u32 0, .int .i64 0, .int .i64 0, .int .u32 0] 53)).alloc (.cells #[.int .u32 0, .int .u32 0, .int .i64 0, .int .i64 0, .int .u32 0] 53)) := bl_alloc (bl_alloc (Below.refl _ _) _) _
  generalize ((w.alloc (.cells #[.int .u32 0, .int .u32 0, .int .i64 0, .int .i64 0, .int .u32 0] 53)).alloc (.cells #[.int .u32 0, .int .u32 0, .int .i64 0, .int .i64 0, .int .u32 0] 53)) = w9 at hf t9 ⊢
  have cc0 : w9.cell? ⟨w.heap.size, 0, none⟩ = some (.int .u32 0) := (blk_cell hf 0).trans rfl
  have cc1 : w9.cell? ⟨w.heap.size, 1, none⟩ = some (.int .u32 0) := (blk_cell hf 1).trans rfl
  have cc2 : w9.cell? ⟨w.heap.size, 2, none⟩ = some (.int .i64 0) := (blk_cell hf 2).trans rfl
  have cc3 : w9.cell? ⟨w.heap.size, 3, none⟩ = some (.int .i64 0) := (blk_cell hf 3).trans rfl
  have cc4 : w9.cell? ⟨w.heap.size, 4, none⟩ = some (.int .u32 0) := (blk_cell hf 4).trans rfl
  clear hf
  exact bodyPost_ret (v := .tuple #[.agg #[.int .u32 0, .int .u32 0, .int .i64 0, .int .i64 0, .int .u32 0], .bool false]) (by simp [results, Try.results22, go_sem, cc0, cc1, cc2, cc3, cc4]) rfl ⟨t9, rfl⟩
set_option maxHeartbeats 4000000 in
set_option maxRecDepth 100000 in
theorem must_Data (e1 b1 i1 c1 l1 m1 : Int) (w : World) : Calls Try.prog 23 #[.iface 53 (.agg #[.int .u32 e1, .int .u32 b1, .int .i64 i1, .int .i64 c1, .int .u32 l1])] w fun e w' => Below w.heap.size w w' ∧ e = .returned (.agg #[.int .u32 e1, .int .u32 b1, .int .i64 i1, .int .i64 c1, .int .u32 l1]) := by
  have ta : ∀ W : World, (Instr.typeAssert (.iface 53 (.agg #[.int .u32 e1, .int .u32 b1, .int .i64 i1, .int .i64 c1, .int .u32 l1])) 20 53 false).run Try.prog W = .ok (.agg #[.int .u32 e1, .int .u32 b1, .int .i64 i1, .int .i64 c1, .int .u32 l1]) W := fun W => by first | rfl | kernel_rfl
  go_enter Try.func23, Try.ntmps23
  go_wp2_with fail
  have hf := heap_alloc_new w (.cells #[.int .u32 e1, .int .u32 b1, .int .i64 i1, .int .i64 c1, .int .u32 l1] 53)
  have t9 : Below w.heap.size w (w.alloc (.cells #[.int .u32 e1, .int .u32 b1, .int .i64 i1, .int .i64 c1, .int .u32 l1] 53)) := bl_alloc (Below.refl _ _) _
  generalize w.alloc (.cells #[.int .u32 e1, .int .u32 b1, .int .i64 i1, .int .i64 c1, .int .u32 l1] 53) = w9 at hf t9 ⊢
  have cc0 : w9.cell? ⟨w.heap.size, 0, none⟩ = some (.int .u32 e1) := (blk_cell hf 0).trans rfl
  have cc1 : w9.cell? ⟨w.heap.size, 1, none⟩ = some (.int .u32 b1) := (blk_cell hf 1).trans rfl
  have cc2 : w9.cell? ⟨w.heap.size, 2, none⟩ = some (.int .i64 i1) := (blk_cell hf 2).trans rfl
  have cc3 : w9.cell? ⟨w.heap.size, 3, none⟩ = some (.int .i64 c1) := (blk_cell hf 3).trans rfl
  have cc4 : w9.cell? ⟨w.heap.size, 4, none⟩ = some (.int .u32 l1) := (blk_cell hf 4).trans rfl
  clear hf
  exact bodyPost_ret (v := .agg #[.int .u32 e1, .int .u32 b1, .int .i64 i1, .int .i64 c1, .int .u32 l1]) (by simp [results, Try.results23, go_sem, cc0, cc1, cc2, cc3, cc4]) rfl ⟨t9, rfl⟩
end Go.Proofs.Ytkmfdnoklabndaa
