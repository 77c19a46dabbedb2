import Derived.Test.YtkmfdnoklabndaaTell
import Derived.Test.YtkmfdnoklabndaaChain
/-! The law RecordTells: its walk. -/
set_option linter.unusedVariables false
set_option linter.unusedSimpArgs false
namespace Go.Proofs.Ytkmfdnoklabndaa
open Go.RowKit Go.Proofs.YtkmfdnoklabndaaW.PrintWords Go.Proofs.YtkmfdnoklabndaaW.PrintLast
def RteR.T22 : Bool × List (List Nat × List Nat) := (true, [([], []), ([0], [0]), ([1], [1]), ([2], [2]), ([2], [2]), ([3, 4, 2], [2, 3, 4]), ([2, 5], [2, 5]), ([6, 2], [6]), ([7], [7]), ([8, 7, 7], [7, 8]), ([9], [9]), ([9], [9]), ([11, 9, 9], [9, 11]), ([10, 12, 9], [9, 10, 12]), ([9, 13, 7], [7, 9, 13]), ([14, 12, 7], [7, 14]), ([15], [15]), ([15], [15]), ([17, 15], [15, 17]), ([15], [15]), ([19, 15], [15, 19]), ([15], [15]), ([21, 15], [15, 21]), ([22, 15], [15, 22]), ([15], [15]), ([24, 15], [15, 24]), ([25, 15], [15, 25]), ([15], [15]), ([27, 15], [15, 27]), ([18, 20, 23, 26, 28, 15], [15, 18, 20, 23, 26, 28]), ([16, 29, 15], [15, 16, 29]), ([15, 30, 7], [7, 15, 30]), ([7, 31], [7, 31]), ([32, 15, 0, 1, 2, 3, 4, 5, 6, 7, 8, 9, 10, 11, 12, 13, 14, 15, 16, 17, 18, 19, 20, 21, 22, 23, 24, 25, 26, 27, 28, 29, 30, 31, 32], [32])])
def RteR.B22 : List Nat := [0, 1, 3, 7, 7, 31, 63, 127, 255, 511, 1023, 1023, 3071, 8191, 16383, 32767, 65535, 65535, 196607, 65535, 589823, 65535, 2162687, 6356991, 65535, 16842751, 50397183, 65535, 134283263, 536805375, 1073741823, 2147483647, 4294967295, 8589934591]
theorem RteR.tab22 : rtab .any (opsOf Try.f9 22) = RteR.T22 := by kernel_rfl
theorem RteR.bits22 : waitsOk RteR.T22.2 RteR.B22 = true := by kernel_rfl
set_option maxHeartbeats 2000000 in
theorem eqDP (e1 b1 i1 c1 l1 : Int) (w : World) : (binOp .eql 53 (.agg #[.int .u32 e1, .int .u32 b1, .int .i64 i1, .int .i64 c1, .int .u32 l1]) (.agg #[.int .u32 e1, .int .u32 b1, .int .i64 i1, .int .i64 c1, .int .u32 l1])).run Try.prog w = .ok (.bool true) w := by
  rw [run_eql_struct]
  rw [run_equalIn_struct _ 9999 53 _ _ (by kernel_rfl) (by kernel_rfl)]
  rw [show (Try.prog.fieldsOf 53).toList = _ from by simp [Program.fieldsOf, Try.underlying53]; rfl]
  simp only [Op.eqFields]
  simp [go_sem]
set_option maxHeartbeats 8000000 in
set_option maxRecDepth 100000 in
theorem rtells_Table (e1 b1 i1 c1 l1 m1 : Int) (w : World) (i0 : 0 ≤ i1) (i9 : i1 ≤ 65535) (c0 : 0 ≤ c1) (c9 : c1 ≤ 65535) : Calls Try.prog 9 #[.agg #[.int .u8 1, .int .u32 e1, .int .u32 b1, .int .u16 i1, .int .u16 c1, .int .u32 l1, .int .u32 m1]] w fun e w' => e = .returned (.bool true) ∧ Below w.heap.size w w' := by
  have WI := Lib.hid (i64w (i := i1) (by omega) (by omega))
  have WC := Lib.hid (i64w (i := c1) (by omega) (by omega))
  have HS0 := fun (W : World) => saidk_Table e1 b1 i1 c1 l1 m1 W i0 i9 c0 c9
  have HE0 := fun (W : World) => epoch_Table e1 b1 i1 c1 l1 m1 W i0 i9 c0 c9
  have HT0 := fun (W : World) => tell_Table e1 b1 i1 c1 l1 m1 W i0 i9 c0 c9
  have HS := Lib.hid (And.intro HS0 (And.intro HE0 HT0))
  clear i0 i9 c0 c9 HS0 HE0 HT0
  go_enter Try.func9, Try.ntmps9
  go_wp2_with fail
  have hb : (w.alloc (.cells #[.int .u8 1, .int .u32 e1, .int .u32 b1, .int .u16 i1, .int .u16 c1, .int .u32 l1, .int .u32 m1] 25)).heap[w.heap.size]? = some (.cells #[.int .u8 1, .int .u32 e1, .int .u32 b1, .int .u16 i1, .int .u16 c1, .int .u32 l1, .int .u32 m1] 25 (0, 0)) := heap_alloc_new _ _
  have tb : Below w.heap.size w (w.alloc (.cells #[.int .u8 1, .int .u32 e1, .int .u32 b1, .int .u16 i1, .int .u16 c1, .int .u32 l1, .int .u32 m1] 25)) := bl_alloc (Below.refl _ _) _
  generalize (w.alloc (.cells #[.int .u8 1, .int .u32 e1, .int .u32 b1, .int .u16 i1, .int .u16 c1, .int .u32 l1, .int .u32 m1] 25)) = w0 at hb tb ⊢
  refine (sealed_any _).mono ?_
  rintro e w1 ⟨rfl, hb1⟩
  have H1 := Lib.hid (blk_below hb hb1)
  have T1 := Lib.hid (bl_seq tb hb1)
  clear hb tb hb1
  have z0 : w1.cell? ⟨w.heap.size, 0, none⟩ = some (.int .u8 1) := (blk_cell H1.out 0).trans rfl
  have z1 : w1.cell? ⟨w.heap.size, 1, none⟩ = some (.int .u32 e1) := (blk_cell H1.out 1).trans rfl
  have z2 : w1.cell? ⟨w.heap.size, 2, none⟩ = some (.int .u32 b1) := (blk_cell H1.out 2).trans rfl
  have z3 : w1.cell? ⟨w.heap.size, 3, none⟩ = some (.int .u16 i1) := (blk_cell H1.out 3).trans rfl
  have z4 : w1.cell? ⟨w.heap.size, 4, none⟩ = some (.int .u16 c1) := (blk_cell H1.out 4).trans rfl
  have z5 : w1.cell? ⟨w.heap.size, 5, none⟩ = some (.int .u32 l1) := (blk_cell H1.out 5).trans rfl
  have z6 : w1.cell? ⟨w.heap.size, 6, none⟩ = some (.int .u32 m1) := (blk_cell H1.out 6).trans rfl
  go_wp2_with fail
  clear z0 z1 z2 z3 z4 z5 z6
  refine (HS.out.2.2 w1).mono ?_
  rintro e w2 ⟨hb2, rfl⟩
  have H2 := Lib.hid (blk_below H1.out hb2)
  have T2 := Lib.hid (bl_seq T1.out hb2)
  clear hb2
  have z0 : w2.cell? ⟨w.heap.size, 0, none⟩ = some (.int .u8 1) := (blk_cell H2.out 0).trans rfl
  have z1 : w2.cell? ⟨w.heap.size, 1, none⟩ = some (.int .u32 e1) := (blk_cell H2.out 1).trans rfl
  have z2 : w2.cell? ⟨w.heap.size, 2, none⟩ = some (.int .u32 b1) := (blk_cell H2.out 2).trans rfl
  have z3 : w2.cell? ⟨w.heap.size, 3, none⟩ = some (.int .u16 i1) := (blk_cell H2.out 3).trans rfl
  have z4 : w2.cell? ⟨w.heap.size, 4, none⟩ = some (.int .u16 c1) := (blk_cell H2.out 4).trans rfl
  have z5 : w2.cell? ⟨w.heap.size, 5, none⟩ = some (.int .u32 l1) := (blk_cell H2.out 5).trans rfl
  have z6 : w2.cell? ⟨w.heap.size, 6, none⟩ = some (.int .u32 m1) := (blk_cell H2.out 6).trans rfl
  go_wp2_with fail
  clear z0 z1 z2 z3 z4 z5 z6
  refine (HS.out.1 w2).mono ?_
  rintro e w3 ⟨hb3, rfl⟩
  have H3 := Lib.hid (blk_below H2.out hb3)
  have T3 := Lib.hid (bl_seq T2.out hb3)
  clear hb3
  have z0 : ∀ o, (w3.alloc o).cell? ⟨w.heap.size, 0, none⟩ = some (.int .u8 1) := fun o => (blk_cell (blk_alloc H3.out o) 0).trans rfl
  have x0 : ∀ o o2, ((w3.alloc o).alloc o2).cell? ⟨w.heap.size, 0, none⟩ = some (.int .u8 1) := fun o o2 => (blk_cell (blk_alloc (blk_alloc H3.out o) o2) 0).trans rfl
  have z1 : ∀ o, (w3.alloc o).cell? ⟨w.heap.size, 1, none⟩ = some (.int .u32 e1) := fun o => (blk_cell (blk_alloc H3.out o) 1).trans rfl
  have x1 : ∀ o o2, ((w3.alloc o).alloc o2).cell? ⟨w.heap.size, 1, none⟩ = some (.int .u32 e1) := fun o o2 => (blk_cell (blk_alloc (blk_alloc H3.out o) o2) 1).trans rfl
  have z2 : ∀ o, (w3.alloc o).cell? ⟨w.heap.size, 2, none⟩ = some (.int .u32 b1) := fun o => (blk_cell (blk_alloc H3.out o) 2).trans rfl
  have x2 : ∀ o o2, ((w3.alloc o).alloc o2).cell? ⟨w.heap.size, 2, none⟩ = some (.int .u32 b1) := fun o o2 => (blk_cell (blk_alloc (blk_alloc H3.out o) o2) 2).trans rfl
  have z3 : ∀ o, (w3.alloc o).cell? ⟨w.heap.size, 3, none⟩ = some (.int .u16 i1) := fun o => (blk_cell (blk_alloc H3.out o) 3).trans rfl
  have x3 : ∀ o o2, ((w3.alloc o).alloc o2).cell? ⟨w.heap.size, 3, none⟩ = some (.int .u16 i1) := fun o o2 => (blk_cell (blk_alloc (blk_alloc H3.out o) o2) 3).trans rfl
  have z4 : ∀ o, (w3.alloc o).cell? ⟨w.heap.size, 4, none⟩ = some (.int .u16 c1) := fun o => (blk_cell (blk_alloc H3.out o) 4).trans rfl
  have x4 : ∀ o o2, ((w3.alloc o).alloc o2).cell? ⟨w.heap.size, 4, none⟩ = some (.int .u16 c1) := fun o o2 => (blk_cell (blk_alloc (blk_alloc H3.out o) o2) 4).trans rfl
  have z5 : ∀ o, (w3.alloc o).cell? ⟨w.heap.size, 5, none⟩ = some (.int .u32 l1) := fun o => (blk_cell (blk_alloc H3.out o) 5).trans rfl
  have x5 : ∀ o o2, ((w3.alloc o).alloc o2).cell? ⟨w.heap.size, 5, none⟩ = some (.int .u32 l1) := fun o o2 => (blk_cell (blk_alloc (blk_alloc H3.out o) o2) 5).trans rfl
  have z6 : ∀ o, (w3.alloc o).cell? ⟨w.heap.size, 6, none⟩ = some (.int .u32 m1) := fun o => (blk_cell (blk_alloc H3.out o) 6).trans rfl
  have x6 : ∀ o o2, ((w3.alloc o).alloc o2).cell? ⟨w.heap.size, 6, none⟩ = some (.int .u32 m1) := fun o o2 => (blk_cell (blk_alloc (blk_alloc H3.out o) o2) 6).trans rfl
  go_wp2_with fail
  clear z0 z1 z2 z3 z4 z5 z6
  clear x0 x1 x2 x3 x4 x5 x6
  have yb : ((w3.alloc (.cells #[.int .u8 1, .int .u32 e1, .int .u32 0, .int .u16 i1, .int .u16 c1, .int .u32 0, .int .u32 0] 25)).alloc (.cells #[.int .u8 1, .int .u32 e1, .int .u32 0, .int .u16 i1, .int .u16 c1, .int .u32 0, .int .u32 0] 25)).heap[w3.heap.size]? = some (.cells #[.int .u8 1, .int .u32 e1, .int .u32 0, .int .u16 i1, .int .u16 c1, .int .u32 0, .int .u32 0] 25 (0, 0)) := blk_alloc (heap_alloc_new _ _) _
  have wb : ((w3.alloc (.cells #[.int .u8 1, .int .u32 e1, .int .u32 0, .int .u16 i1, .int .u16 c1, .int .u32 0, .int .u32 0] 25)).alloc (.cells #[.int .u8 1, .int .u32 e1, .int .u32 0, .int .u16 i1, .int .u16 c1, .int .u32 0, .int .u32 0] 25)).heap[w3.heap.size + 1]? = some (.cells #[.int .u8 1, .int .u32 e1, .int .u32 0, .int .u16 i1, .int .u16 c1, .int .u32 0, .int .u32 0] 25 (0, 0)) := by
    have h_ := heap_alloc_new (w3.alloc (.cells #[.int .u8 1, .int .u32 e1, .int .u32 0, .int .u16 i1, .int .u16 c1, .int .u32 0, .int .u32 0] 25)) (.cells #[.int .u8 1, .int .u32 e1, .int .u32 0, .int .u16 i1, .int .u16 c1, .int .u32 0, .int .u32 0] 25)
    simp only [World.size_alloc] at h_
    exact h_
  have hb := blk_alloc (blk_alloc H3.out (.cells #[.int .u8 1, .int .u32 e1, .int .u32 0, .int .u16 i1, .int .u16 c1, .int .u32 0, .int .u32 0] 25)) (.cells #[.int .u8 1, .int .u32 e1, .int .u32 0, .int .u16 i1, .int .u16 c1, .int .u32 0, .int .u32 0] 25)
  have tb : Below w.heap.size w ((w3.alloc (.cells #[.int .u8 1, .int .u32 e1, .int .u32 0, .int .u16 i1, .int .u16 c1, .int .u32 0, .int .u32 0] 25)).alloc (.cells #[.int .u8 1, .int .u32 e1, .int .u32 0, .int .u16 i1, .int .u16 c1, .int .u32 0, .int .u32 0] 25)) := bl_alloc (bl_alloc T3.out _) _
  generalize ((w3.alloc (.cells #[.int .u8 1, .int .u32 e1, .int .u32 0, .int .u16 i1, .int .u16 c1, .int .u32 0, .int .u32 0] 25)).alloc (.cells #[.int .u8 1, .int .u32 e1, .int .u32 0, .int .u16 i1, .int .u16 c1, .int .u32 0, .int .u32 0] 25)) = w5 at yb wb hb tb ⊢
  have Y5 := Lib.hid yb
  have W5 := Lib.hid wb
  have H5 := Lib.hid hb
  have T5 := Lib.hid tb
  clear yb wb hb tb
  refine (HS.out.2.1 w5).mono ?_
  rintro e w6 ⟨hb6, rfl⟩
  have Y6 := Lib.hid (blk_below Y5.out hb6)
  have W6 := Lib.hid (blk_below W5.out hb6)
  have H6 := Lib.hid (blk_below H5.out hb6)
  have T6 := Lib.hid (bl_seq T5.out hb6)
  clear hb6 Y5 W5 H5 T5
  go_wp2_with fail
  refine (asdata_Table e1 b1 i1 c1 l1 m1 w6).mono ?_
  rintro e w7 ⟨hb7, rfl⟩
  have yb := blk_alloc (blk_below Y6.out hb7) (.cells #[.int .u32 0, .int .u32 0, .int .i64 0, .int .i64 0, .int .u32 0] 53)
  have wb := blk_alloc (blk_below W6.out hb7) (.cells #[.int .u32 0, .int .u32 0, .int .i64 0, .int .i64 0, .int .u32 0] 53)
  have hb := blk_alloc (blk_below H6.out hb7) (.cells #[.int .u32 0, .int .u32 0, .int .i64 0, .int .i64 0, .int .u32 0] 53)
  have tb : Below w.heap.size w (w7.alloc (.cells #[.int .u32 0, .int .u32 0, .int .i64 0, .int .i64 0, .int .u32 0] 53)) := bl_alloc (bl_seq T6.out hb7) _
  have db_ : (w7.alloc (.cells #[.int .u32 0, .int .u32 0, .int .i64 0, .int .i64 0, .int .u32 0] 53)).heap[w7.heap.size]? = some (.cells #[.int .u32 0, .int .u32 0, .int .i64 0, .int .i64 0, .int .u32 0] 53 (0, 0)) := heap_alloc_new _ _
  have HH := Lib.hid (And.intro hb (And.intro tb db_))
  have y0 : (w7.alloc (.cells #[.int .u32 0, .int .u32 0, .int .i64 0, .int .i64 0, .int .u32 0] 53)).cell? ⟨w3.heap.size, 0, none⟩ = some (.int .u8 1) := (blk_cell yb 0).trans rfl
  have y1 : (w7.alloc (.cells #[.int .u32 0, .int .u32 0, .int .i64 0, .int .i64 0, .int .u32 0] 53)).cell? ⟨w3.heap.size, 1, none⟩ = some (.int .u32 e1) := (blk_cell yb 1).trans rfl
  have y2 : (w7.alloc (.cells #[.int .u32 0, .int .u32 0, .int .i64 0, .int .i64 0, .int .u32 0] 53)).cell? ⟨w3.heap.size, 2, none⟩ = some (.int .u32 0) := (blk_cell yb 2).trans rfl
  have y3 : (w7.alloc (.cells #[.int .u32 0, .int .u32 0, .int .i64 0, .int .i64 0, .int .u32 0] 53)).cell? ⟨w3.heap.size, 3, none⟩ = some (.int .u16 i1) := (blk_cell yb 3).trans rfl
  have y4 : (w7.alloc (.cells #[.int .u32 0, .int .u32 0, .int .i64 0, .int .i64 0, .int .u32 0] 53)).cell? ⟨w3.heap.size, 4, none⟩ = some (.int .u16 c1) := (blk_cell yb 4).trans rfl
  have y5 : (w7.alloc (.cells #[.int .u32 0, .int .u32 0, .int .i64 0, .int .i64 0, .int .u32 0] 53)).cell? ⟨w3.heap.size, 5, none⟩ = some (.int .u32 0) := (blk_cell yb 5).trans rfl
  have y6 : (w7.alloc (.cells #[.int .u32 0, .int .u32 0, .int .i64 0, .int .i64 0, .int .u32 0] 53)).cell? ⟨w3.heap.size, 6, none⟩ = some (.int .u32 0) := (blk_cell yb 6).trans rfl
  have u0 : (w7.alloc (.cells #[.int .u32 0, .int .u32 0, .int .i64 0, .int .i64 0, .int .u32 0] 53)).cell? ⟨w3.heap.size + 1, 0, none⟩ = some (.int .u8 1) := (blk_cell wb 0).trans rfl
  have u1 : (w7.alloc (.cells #[.int .u32 0, .int .u32 0, .int .i64 0, .int .i64 0, .int .u32 0] 53)).cell? ⟨w3.heap.size + 1, 1, none⟩ = some (.int .u32 e1) := (blk_cell wb 1).trans rfl
  have u2 : (w7.alloc (.cells #[.int .u32 0, .int .u32 0, .int .i64 0, .int .i64 0, .int .u32 0] 53)).cell? ⟨w3.heap.size + 1, 2, none⟩ = some (.int .u32 0) := (blk_cell wb 2).trans rfl
  have u3 : (w7.alloc (.cells #[.int .u32 0, .int .u32 0, .int .i64 0, .int .i64 0, .int .u32 0] 53)).cell? ⟨w3.heap.size + 1, 3, none⟩ = some (.int .u16 i1) := (blk_cell wb 3).trans rfl
  have u4 : (w7.alloc (.cells #[.int .u32 0, .int .u32 0, .int .i64 0, .int .i64 0, .int .u32 0] 53)).cell? ⟨w3.heap.size + 1, 4, none⟩ = some (.int .u16 c1) := (blk_cell wb 4).trans rfl
  have u5 : (w7.alloc (.cells #[.int .u32 0, .int .u32 0, .int .i64 0, .int .i64 0, .int .u32 0] 53)).cell? ⟨w3.heap.size + 1, 5, none⟩ = some (.int .u32 0) := (blk_cell wb 5).trans rfl
  have u6 : (w7.alloc (.cells #[.int .u32 0, .int .u32 0, .int .i64 0, .int .i64 0, .int .u32 0] 53)).cell? ⟨w3.heap.size + 1, 6, none⟩ = some (.int .u32 0) := (blk_cell wb 6).trans rfl
  have z0 : (w7.alloc (.cells #[.int .u32 0, .int .u32 0, .int .i64 0, .int .i64 0, .int .u32 0] 53)).cell? ⟨w.heap.size, 0, none⟩ = some (.int .u8 1) := (blk_cell hb 0).trans rfl
  have z1 : (w7.alloc (.cells #[.int .u32 0, .int .u32 0, .int .i64 0, .int .i64 0, .int .u32 0] 53)).cell? ⟨w.heap.size, 1, none⟩ = some (.int .u32 e1) := (blk_cell hb 1).trans rfl
  have z2 : (w7.alloc (.cells #[.int .u32 0, .int .u32 0, .int .i64 0, .int .i64 0, .int .u32 0] 53)).cell? ⟨w.heap.size, 2, none⟩ = some (.int .u32 b1) := (blk_cell hb 2).trans rfl
  have z3 : (w7.alloc (.cells #[.int .u32 0, .int .u32 0, .int .i64 0, .int .i64 0, .int .u32 0] 53)).cell? ⟨w.heap.size, 3, none⟩ = some (.int .u16 i1) := (blk_cell hb 3).trans rfl
  have z4 : (w7.alloc (.cells #[.int .u32 0, .int .u32 0, .int .i64 0, .int .i64 0, .int .u32 0] 53)).cell? ⟨w.heap.size, 4, none⟩ = some (.int .u16 c1) := (blk_cell hb 4).trans rfl
  have z5 : (w7.alloc (.cells #[.int .u32 0, .int .u32 0, .int .i64 0, .int .i64 0, .int .u32 0] 53)).cell? ⟨w.heap.size, 5, none⟩ = some (.int .u32 l1) := (blk_cell hb 5).trans rfl
  have z6 : (w7.alloc (.cells #[.int .u32 0, .int .u32 0, .int .i64 0, .int .i64 0, .int .u32 0] 53)).cell? ⟨w.heap.size, 6, none⟩ = some (.int .u32 m1) := (blk_cell hb 6).trans rfl
  clear hb7 yb wb hb tb db_ Y6 W6 H6 T6
  have nez := neHd ⟨1, e1, 0, i1, c1, 0, 0⟩ ⟨1, e1, 0, i1, c1, 0, 0⟩
  rw [hdEq_self] at nez
  simp only [hdC] at nez
  go_wp2_with fail
  clear y0 y1 y2 y3 y4 y5 y6
  clear u0 u1 u2 u3 u4 u5 u6
  clear z0 z1 z2 z3 z4 z5 z6
  clear nez
  have db_ := HH.out.2.2
  have d0 : (w7.alloc (.cells #[.int .u32 0, .int .u32 0, .int .i64 0, .int .i64 0, .int .u32 0] 53)).cell? ⟨w7.heap.size, 0, none⟩ = some (.int .u32 0) := (blk_cell db_ 0).trans rfl
  have d1 : (w7.alloc (.cells #[.int .u32 0, .int .u32 0, .int .i64 0, .int .i64 0, .int .u32 0] 53)).cell? ⟨w7.heap.size, 1, none⟩ = some (.int .u32 0) := (blk_cell db_ 1).trans rfl
  have d2 : (w7.alloc (.cells #[.int .u32 0, .int .u32 0, .int .i64 0, .int .i64 0, .int .u32 0] 53)).cell? ⟨w7.heap.size, 2, none⟩ = some (.int .i64 0) := (blk_cell db_ 2).trans rfl
  have d3 : (w7.alloc (.cells #[.int .u32 0, .int .u32 0, .int .i64 0, .int .i64 0, .int .u32 0] 53)).cell? ⟨w7.heap.size, 3, none⟩ = some (.int .i64 0) := (blk_cell db_ 3).trans rfl
  have d4 : (w7.alloc (.cells #[.int .u32 0, .int .u32 0, .int .i64 0, .int .i64 0, .int .u32 0] 53)).cell? ⟨w7.heap.size, 4, none⟩ = some (.int .u32 0) := (blk_cell db_ 4).trans rfl
  clear db_
  have eqz := eqDP 0 0 0 0 0
  go_quiet (fail)
  have TE := Lib.hid (bl_drewN HH.out.2.1 nq)
  go_wp2_with fail
  go_ret
  exact ⟨rfl, TE.out⟩
set_option maxHeartbeats 8000000 in
set_option maxRecDepth 100000 in
theorem rtells_Member (e1 b1 i1 c1 l1 m1 : Int) (w : World) (i0 : 0 ≤ i1) (i9 : i1 ≤ 65535) (c0 : 0 ≤ c1) (c9 : c1 ≤ 65535) : Calls Try.prog 9 #[.agg #[.int .u8 2, .int .u32 e1, .int .u32 b1, .int .u16 i1, .int .u16 c1, .int .u32 l1, .int .u32 m1]] w fun e w' => e = .returned (.bool true) ∧ Below w.heap.size w w' := by
  have WI := Lib.hid (i64w (i := i1) (by omega) (by omega))
  have WC := Lib.hid (i64w (i := c1) (by omega) (by omega))
  have HS0 := fun (W : World) => saidk_Member e1 b1 i1 c1 l1 m1 W i0 i9 c0 c9
  have HE0 := fun (W : World) => epoch_Member e1 b1 i1 c1 l1 m1 W i0 i9 c0 c9
  have HT0 := fun (W : World) => tell_Member e1 b1 i1 c1 l1 m1 W i0 i9 c0 c9
  have HS := Lib.hid (And.intro HS0 (And.intro HE0 HT0))
  clear i0 i9 c0 c9 HS0 HE0 HT0
  go_enter Try.func9, Try.ntmps9
  go_wp2_with fail
  have hb : (w.alloc (.cells #[.int .u8 2, .int .u32 e1, .int .u32 b1, .int .u16 i1, .int .u16 c1, .int .u32 l1, .int .u32 m1] 25)).heap[w.heap.size]? = some (.cells #[.int .u8 2, .int .u32 e1, .int .u32 b1, .int .u16 i1, .int .u16 c1, .int .u32 l1, .int .u32 m1] 25 (0, 0)) := heap_alloc_new _ _
  have tb : Below w.heap.size w (w.alloc (.cells #[.int .u8 2, .int .u32 e1, .int .u32 b1, .int .u16 i1, .int .u16 c1, .int .u32 l1, .int .u32 m1] 25)) := bl_alloc (Below.refl _ _) _
  generalize (w.alloc (.cells #[.int .u8 2, .int .u32 e1, .int .u32 b1, .int .u16 i1, .int .u16 c1, .int .u32 l1, .int .u32 m1] 25)) = w0 at hb tb ⊢
  refine (sealed_any _).mono ?_
  rintro e w1 ⟨rfl, hb1⟩
  have H1 := Lib.hid (blk_below hb hb1)
  have T1 := Lib.hid (bl_seq tb hb1)
  clear hb tb hb1
  have z0 : w1.cell? ⟨w.heap.size, 0, none⟩ = some (.int .u8 2) := (blk_cell H1.out 0).trans rfl
  have z1 : w1.cell? ⟨w.heap.size, 1, none⟩ = some (.int .u32 e1) := (blk_cell H1.out 1).trans rfl
  have z2 : w1.cell? ⟨w.heap.size, 2, none⟩ = some (.int .u32 b1) := (blk_cell H1.out 2).trans rfl
  have z3 : w1.cell? ⟨w.heap.size, 3, none⟩ = some (.int .u16 i1) := (blk_cell H1.out 3).trans rfl
  have z4 : w1.cell? ⟨w.heap.size, 4, none⟩ = some (.int .u16 c1) := (blk_cell H1.out 4).trans rfl
  have z5 : w1.cell? ⟨w.heap.size, 5, none⟩ = some (.int .u32 l1) := (blk_cell H1.out 5).trans rfl
  have z6 : w1.cell? ⟨w.heap.size, 6, none⟩ = some (.int .u32 m1) := (blk_cell H1.out 6).trans rfl
  go_wp2_with fail
  clear z0 z1 z2 z3 z4 z5 z6
  refine (HS.out.2.2 w1).mono ?_
  rintro e w2 ⟨hb2, rfl⟩
  have H2 := Lib.hid (blk_below H1.out hb2)
  have T2 := Lib.hid (bl_seq T1.out hb2)
  clear hb2
  have z0 : w2.cell? ⟨w.heap.size, 0, none⟩ = some (.int .u8 2) := (blk_cell H2.out 0).trans rfl
  have z1 : w2.cell? ⟨w.heap.size, 1, none⟩ = some (.int .u32 e1) := (blk_cell H2.out 1).trans rfl
  have z2 : w2.cell? ⟨w.heap.size, 2, none⟩ = some (.int .u32 b1) := (blk_cell H2.out 2).trans rfl
  have z3 : w2.cell? ⟨w.heap.size, 3, none⟩ = some (.int .u16 i1) := (blk_cell H2.out 3).trans rfl
  have z4 : w2.cell? ⟨w.heap.size, 4, none⟩ = some (.int .u16 c1) := (blk_cell H2.out 4).trans rfl
  have z5 : w2.cell? ⟨w.heap.size, 5, none⟩ = some (.int .u32 l1) := (blk_cell H2.out 5).trans rfl
  have z6 : w2.cell? ⟨w.heap.size, 6, none⟩ = some (.int .u32 m1) := (blk_cell H2.out 6).trans rfl
  go_wp2_with fail
  clear z0 z1 z2 z3 z4 z5 z6
  refine (HS.out.1 w2).mono ?_
  rintro e w3 ⟨hb3, rfl⟩
  have H3 := Lib.hid (blk_below H2.out hb3)
  have T3 := Lib.hid (bl_seq T2.out hb3)
  clear hb3
  have z0 : ∀ o, (w3.alloc o).cell? ⟨w.heap.size, 0, none⟩ = some (.int .u8 2) := fun o => (blk_cell (blk_alloc H3.out o) 0).trans rfl
  have x0 : ∀ o o2, ((w3.alloc o).alloc o2).cell? ⟨w.heap.size, 0, none⟩ = some (.int .u8 2) := fun o o2 => (blk_cell (blk_alloc (blk_alloc H3.out o) o2) 0).trans rfl
  have z1 : ∀ o, (w3.alloc o).cell? ⟨w.heap.size, 1, none⟩ = some (.int .u32 e1) := fun o => (blk_cell (blk_alloc H3.out o) 1).trans rfl
  have x1 : ∀ o o2, ((w3.alloc o).alloc o2).cell? ⟨w.heap.size, 1, none⟩ = some (.int .u32 e1) := fun o o2 => (blk_cell (blk_alloc (blk_alloc H3.out o) o2) 1).trans rfl
  have z2 : ∀ o, (w3.alloc o).cell? ⟨w.heap.size, 2, none⟩ = some (.int .u32 b1) := fun o => (blk_cell (blk_alloc H3.out o) 2).trans rfl
  have x2 : ∀ o o2, ((w3.alloc o).alloc o2).cell? ⟨w.heap.size, 2, none⟩ = some (.int .u32 b1) := fun o o2 => (blk_cell (blk_alloc (blk_alloc H3.out o) o2) 2).trans rfl
  have z3 : ∀ o, (w3.alloc o).cell? ⟨w.heap.size, 3, none⟩ = some (.int .u16 i1) := fun o => (blk_cell (blk_alloc H3.out o) 3).trans rfl
  have x3 : ∀ o o2, ((w3.alloc o).alloc o2).cell? ⟨w.heap.size, 3, none⟩ = some (.int .u16 i1) := fun o o2 => (blk_cell (blk_alloc (blk_alloc H3.out o) o2) 3).trans rfl
  have z4 : ∀ o, (w3.alloc o).cell? ⟨w.heap.size, 4, none⟩ = some (.int .u16 c1) := fun o => (blk_cell (blk_alloc H3.out o) 4).trans rfl
  have x4 : ∀ o o2, ((w3.alloc o).alloc o2).cell? ⟨w.heap.size, 4, none⟩ = some (.int .u16 c1) := fun o o2 => (blk_cell (blk_alloc (blk_alloc H3.out o) o2) 4).trans rfl
  have z5 : ∀ o, (w3.alloc o).cell? ⟨w.heap.size, 5, none⟩ = some (.int .u32 l1) := fun o => (blk_cell (blk_alloc H3.out o) 5).trans rfl
  have x5 : ∀ o o2, ((w3.alloc o).alloc o2).cell? ⟨w.heap.size, 5, none⟩ = some (.int .u32 l1) := fun o o2 => (blk_cell (blk_alloc (blk_alloc H3.out o) o2) 5).trans rfl
  have z6 : ∀ o, (w3.alloc o).cell? ⟨w.heap.size, 6, none⟩ = some (.int .u32 m1) := fun o => (blk_cell (blk_alloc H3.out o) 6).trans rfl
  have x6 : ∀ o o2, ((w3.alloc o).alloc o2).cell? ⟨w.heap.size, 6, none⟩ = some (.int .u32 m1) := fun o o2 => (blk_cell (blk_alloc (blk_alloc H3.out o) o2) 6).trans rfl
  go_wp2_with fail
  clear z0 z1 z2 z3 z4 z5 z6
  clear x0 x1 x2 x3 x4 x5 x6
  have yb : ((w3.alloc (.cells #[.int .u8 2, .int .u32 e1, .int .u32 0, .int .u16 0, .int .u16 1, .int .u32 0, .int .u32 0] 25)).alloc (.cells #[.int .u8 2, .int .u32 e1, .int .u32 0, .int .u16 0, .int .u16 1, .int .u32 0, .int .u32 0] 25)).heap[w3.heap.size]? = some (.cells #[.int .u8 2, .int .u32 e1, .int .u32 0, .int .u16 0, .int .u16 1, .int .u32 0, .int .u32 0] 25 (0, 0)) := blk_alloc (heap_alloc_new _ _) _
  have wb : ((w3.alloc (.cells #[.int .u8 2, .int .u32 e1, .int .u32 0, .int .u16 0, .int .u16 1, .int .u32 0, .int .u32 0] 25)).alloc (.cells #[.int .u8 2, .int .u32 e1, .int .u32 0, .int .u16 0, .int .u16 1, .int .u32 0, .int .u32 0] 25)).heap[w3.heap.size + 1]? = some (.cells #[.int .u8 2, .int .u32 e1, .int .u32 0, .int .u16 0, .int .u16 1, .int .u32 0, .int .u32 0] 25 (0, 0)) := by
    have h_ := heap_alloc_new (w3.alloc (.cells #[.int .u8 2, .int .u32 e1, .int .u32 0, .int .u16 0, .int .u16 1, .int .u32 0, .int .u32 0] 25)) (.cells #[.int .u8 2, .int .u32 e1, .int .u32 0, .int .u16 0, .int .u16 1, .int .u32 0, .int .u32 0] 25)
    simp only [World.size_alloc] at h_
    exact h_
  have hb := blk_alloc (blk_alloc H3.out (.cells #[.int .u8 2, .int .u32 e1, .int .u32 0, .int .u16 0, .int .u16 1, .int .u32 0, .int .u32 0] 25)) (.cells #[.int .u8 2, .int .u32 e1, .int .u32 0, .int .u16 0, .int .u16 1, .int .u32 0, .int .u32 0] 25)
  have tb : Below w.heap.size w ((w3.alloc (.cells #[.int .u8 2, .int .u32 e1, .int .u32 0, .int .u16 0, .int .u16 1, .int .u32 0, .int .u32 0] 25)).alloc (.cells #[.int .u8 2, .int .u32 e1, .int .u32 0, .int .u16 0, .int .u16 1, .int .u32 0, .int .u32 0] 25)) := bl_alloc (bl_alloc T3.out _) _
  generalize ((w3.alloc (.cells #[.int .u8 2, .int .u32 e1, .int .u32 0, .int .u16 0, .int .u16 1, .int .u32 0, .int .u32 0] 25)).alloc (.cells #[.int .u8 2, .int .u32 e1, .int .u32 0, .int .u16 0, .int .u16 1, .int .u32 0, .int .u32 0] 25)) = w5 at yb wb hb tb ⊢
  have Y5 := Lib.hid yb
  have W5 := Lib.hid wb
  have H5 := Lib.hid hb
  have T5 := Lib.hid tb
  clear yb wb hb tb
  refine (HS.out.2.1 w5).mono ?_
  rintro e w6 ⟨hb6, rfl⟩
  have Y6 := Lib.hid (blk_below Y5.out hb6)
  have W6 := Lib.hid (blk_below W5.out hb6)
  have H6 := Lib.hid (blk_below H5.out hb6)
  have T6 := Lib.hid (bl_seq T5.out hb6)
  clear hb6 Y5 W5 H5 T5
  go_wp2_with fail
  refine (asdata_Member e1 b1 i1 c1 l1 m1 w6).mono ?_
  rintro e w7 ⟨hb7, rfl⟩
  have yb := blk_alloc (blk_below Y6.out hb7) (.cells #[.int .u32 0, .int .u32 0, .int .i64 0, .int .i64 0, .int .u32 0] 53)
  have wb := blk_alloc (blk_below W6.out hb7) (.cells #[.int .u32 0, .int .u32 0, .int .i64 0, .int .i64 0, .int .u32 0] 53)
  have hb := blk_alloc (blk_below H6.out hb7) (.cells #[.int .u32 0, .int .u32 0, .int .i64 0, .int .i64 0, .int .u32 0] 53)
  have tb : Below w.heap.size w (w7.alloc (.cells #[.int .u32 0, .int .u32 0, .int .i64 0, .int .i64 0, .int .u32 0] 53)) := bl_alloc (bl_seq T6.out hb7) _
  have db_ : (w7.alloc (.cells #[.int .u32 0, .int .u32 0, .int .i64 0, .int .i64 0, .int .u32 0] 53)).heap[w7.heap.size]? = some (.cells #[.int .u32 0, .int .u32 0, .int .i64 0, .int .i64 0, .int .u32 0] 53 (0, 0)) := heap_alloc_new _ _
  have HH := Lib.hid (And.intro hb (And.intro tb db_))
  have y0 : (w7.alloc (.cells #[.int .u32 0, .int .u32 0, .int .i64 0, .int .i64 0, .int .u32 0] 53)).cell? ⟨w3.heap.size, 0, none⟩ = some (.int .u8 2) := (blk_cell yb 0).trans rfl
  have y1 : (w7.alloc (.cells #[.int .u32 0, .int .u32 0, .int .i64 0, .int .i64 0, .int .u32 0] 53)).cell? ⟨w3.heap.size, 1, none⟩ = some (.int .u32 e1) := (blk_cell yb 1).trans rfl
  have y2 : (w7.alloc (.cells #[.int .u32 0, .int .u32 0, .int .i64 0, .int .i64 0, .int .u32 0] 53)).cell? ⟨w3.heap.size, 2, none⟩ = some (.int .u32 0) := (blk_cell yb 2).trans rfl
  have y3 : (w7.alloc (.cells #[.int .u32 0, .int .u32 0, .int .i64 0, .int .i64 0, .int .u32 0] 53)).cell? ⟨w3.heap.size, 3, none⟩ = some (.int .u16 0) := (blk_cell yb 3).trans rfl
  have y4 : (w7.alloc (.cells #[.int .u32 0, .int .u32 0, .int .i64 0, .int .i64 0, .int .u32 0] 53)).cell? ⟨w3.heap.size, 4, none⟩ = some (.int .u16 1) := (blk_cell yb 4).trans rfl
  have y5 : (w7.alloc (.cells #[.int .u32 0, .int .u32 0, .int .i64 0, .int .i64 0, .int .u32 0] 53)).cell? ⟨w3.heap.size, 5, none⟩ = some (.int .u32 0) := (blk_cell yb 5).trans rfl
  have y6 : (w7.alloc (.cells #[.int .u32 0, .int .u32 0, .int .i64 0, .int .i64 0, .int .u32 0] 53)).cell? ⟨w3.heap.size, 6, none⟩ = some (.int .u32 0) := (blk_cell yb 6).trans rfl
  have u0 : (w7.alloc (.cells #[.int .u32 0, .int .u32 0, .int .i64 0, .int .i64 0, .int .u32 0] 53)).cell? ⟨w3.heap.size + 1, 0, none⟩ = some (.int .u8 2) := (blk_cell wb 0).trans rfl
  have u1 : (w7.alloc (.cells #[.int .u32 0, .int .u32 0, .int .i64 0, .int .i64 0, .int .u32 0] 53)).cell? ⟨w3.heap.size + 1, 1, none⟩ = some (.int .u32 e1) := (blk_cell wb 1).trans rfl
  have u2 : (w7.alloc (.cells #[.int .u32 0, .int .u32 0, .int .i64 0, .int .i64 0, .int .u32 0] 53)).cell? ⟨w3.heap.size + 1, 2, none⟩ = some (.int .u32 0) := (blk_cell wb 2).trans rfl
  have u3 : (w7.alloc (.cells #[.int .u32 0, .int .u32 0, .int .i64 0, .int .i64 0, .int .u32 0] 53)).cell? ⟨w3.heap.size + 1, 3, none⟩ = some (.int .u16 0) := (blk_cell wb 3).trans rfl
  have u4 : (w7.alloc (.cells #[.int .u32 0, .int .u32 0, .int .i64 0, .int .i64 0, .int .u32 0] 53)).cell? ⟨w3.heap.size + 1, 4, none⟩ = some (.int .u16 1) := (blk_cell wb 4).trans rfl
  have u5 : (w7.alloc (.cells #[.int .u32 0, .int .u32 0, .int .i64 0, .int .i64 0, .int .u32 0] 53)).cell? ⟨w3.heap.size + 1, 5, none⟩ = some (.int .u32 0) := (blk_cell wb 5).trans rfl
  have u6 : (w7.alloc (.cells #[.int .u32 0, .int .u32 0, .int .i64 0, .int .i64 0, .int .u32 0] 53)).cell? ⟨w3.heap.size + 1, 6, none⟩ = some (.int .u32 0) := (blk_cell wb 6).trans rfl
  have z0 : (w7.alloc (.cells #[.int .u32 0, .int .u32 0, .int .i64 0, .int .i64 0, .int .u32 0] 53)).cell? ⟨w.heap.size, 0, none⟩ = some (.int .u8 2) := (blk_cell hb 0).trans rfl
  have z1 : (w7.alloc (.cells #[.int .u32 0, .int .u32 0, .int .i64 0, .int .i64 0, .int .u32 0] 53)).cell? ⟨w.heap.size, 1, none⟩ = some (.int .u32 e1) := (blk_cell hb 1).trans rfl
  have z2 : (w7.alloc (.cells #[.int .u32 0, .int .u32 0, .int .i64 0, .int .i64 0, .int .u32 0] 53)).cell? ⟨w.heap.size, 2, none⟩ = some (.int .u32 b1) := (blk_cell hb 2).trans rfl
  have z3 : (w7.alloc (.cells #[.int .u32 0, .int .u32 0, .int .i64 0, .int .i64 0, .int .u32 0] 53)).cell? ⟨w.heap.size, 3, none⟩ = some (.int .u16 i1) := (blk_cell hb 3).trans rfl
  have z4 : (w7.alloc (.cells #[.int .u32 0, .int .u32 0, .int .i64 0, .int .i64 0, .int .u32 0] 53)).cell? ⟨w.heap.size, 4, none⟩ = some (.int .u16 c1) := (blk_cell hb 4).trans rfl
  have z5 : (w7.alloc (.cells #[.int .u32 0, .int .u32 0, .int .i64 0, .int .i64 0, .int .u32 0] 53)).cell? ⟨w.heap.size, 5, none⟩ = some (.int .u32 l1) := (blk_cell hb 5).trans rfl
  have z6 : (w7.alloc (.cells #[.int .u32 0, .int .u32 0, .int .i64 0, .int .i64 0, .int .u32 0] 53)).cell? ⟨w.heap.size, 6, none⟩ = some (.int .u32 m1) := (blk_cell hb 6).trans rfl
  clear hb7 yb wb hb tb db_ Y6 W6 H6 T6
  have nez := neHd ⟨2, e1, 0, 0, 1, 0, 0⟩ ⟨2, e1, 0, 0, 1, 0, 0⟩
  rw [hdEq_self] at nez
  simp only [hdC] at nez
  go_wp2_with fail
  clear y0 y1 y2 y3 y4 y5 y6
  clear u0 u1 u2 u3 u4 u5 u6
  clear z0 z1 z2 z3 z4 z5 z6
  clear nez
  have db_ := HH.out.2.2
  have d0 : (w7.alloc (.cells #[.int .u32 0, .int .u32 0, .int .i64 0, .int .i64 0, .int .u32 0] 53)).cell? ⟨w7.heap.size, 0, none⟩ = some (.int .u32 0) := (blk_cell db_ 0).trans rfl
  have d1 : (w7.alloc (.cells #[.int .u32 0, .int .u32 0, .int .i64 0, .int .i64 0, .int .u32 0] 53)).cell? ⟨w7.heap.size, 1, none⟩ = some (.int .u32 0) := (blk_cell db_ 1).trans rfl
  have d2 : (w7.alloc (.cells #[.int .u32 0, .int .u32 0, .int .i64 0, .int .i64 0, .int .u32 0] 53)).cell? ⟨w7.heap.size, 2, none⟩ = some (.int .i64 0) := (blk_cell db_ 2).trans rfl
  have d3 : (w7.alloc (.cells #[.int .u32 0, .int .u32 0, .int .i64 0, .int .i64 0, .int .u32 0] 53)).cell? ⟨w7.heap.size, 3, none⟩ = some (.int .i64 0) := (blk_cell db_ 3).trans rfl
  have d4 : (w7.alloc (.cells #[.int .u32 0, .int .u32 0, .int .i64 0, .int .i64 0, .int .u32 0] 53)).cell? ⟨w7.heap.size, 4, none⟩ = some (.int .u32 0) := (blk_cell db_ 4).trans rfl
  clear db_
  have eqz := eqDP 0 0 0 0 0
  go_quiet (fail)
  have TE := Lib.hid (bl_drewN HH.out.2.1 nq)
  go_wp2_with fail
  go_ret
  exact ⟨rfl, TE.out⟩
set_option maxHeartbeats 8000000 in
set_option maxRecDepth 100000 in
theorem rtells_Point (e1 b1 i1 c1 l1 m1 : Int) (w : World) (i0 : 0 ≤ i1) (i9 : i1 ≤ 65535) (c0 : 0 ≤ c1) (c9 : c1 ≤ 65535) : Calls Try.prog 9 #[.agg #[.int .u8 3, .int .u32 e1, .int .u32 b1, .int .u16 i1, .int .u16 c1, .int .u32 l1, .int .u32 m1]] w fun e w' => e = .returned (.bool true) ∧ Below w.heap.size w w' := by
  have WI := Lib.hid (i64w (i := i1) (by omega) (by omega))
  have WC := Lib.hid (i64w (i := c1) (by omega) (by omega))
  have HS0 := fun (W : World) => saidk_Point e1 b1 i1 c1 l1 m1 W i0 i9 c0 c9
  have HE0 := fun (W : World) => epoch_Point e1 b1 i1 c1 l1 m1 W i0 i9 c0 c9
  have HT0 := fun (W : World) => tell_Point e1 b1 i1 c1 l1 m1 W i0 i9 c0 c9
  have HS := Lib.hid (And.intro HS0 (And.intro HE0 HT0))
  clear i0 i9 c0 c9 HS0 HE0 HT0
  go_enter Try.func9, Try.ntmps9
  go_wp2_with fail
  have hb : (w.alloc (.cells #[.int .u8 3, .int .u32 e1, .int .u32 b1, .int .u16 i1, .int .u16 c1, .int .u32 l1, .int .u32 m1] 25)).heap[w.heap.size]? = some (.cells #[.int .u8 3, .int .u32 e1, .int .u32 b1, .int .u16 i1, .int .u16 c1, .int .u32 l1, .int .u32 m1] 25 (0, 0)) := heap_alloc_new _ _
  have tb : Below w.heap.size w (w.alloc (.cells #[.int .u8 3, .int .u32 e1, .int .u32 b1, .int .u16 i1, .int .u16 c1, .int .u32 l1, .int .u32 m1] 25)) := bl_alloc (Below.refl _ _) _
  generalize (w.alloc (.cells #[.int .u8 3, .int .u32 e1, .int .u32 b1, .int .u16 i1, .int .u16 c1, .int .u32 l1, .int .u32 m1] 25)) = w0 at hb tb ⊢
  refine (sealed_any _).mono ?_
  rintro e w1 ⟨rfl, hb1⟩
  have H1 := Lib.hid (blk_below hb hb1)
  have T1 := Lib.hid (bl_seq tb hb1)
  clear hb tb hb1
  have z0 : w1.cell? ⟨w.heap.size, 0, none⟩ = some (.int .u8 3) := (blk_cell H1.out 0).trans rfl
  have z1 : w1.cell? ⟨w.heap.size, 1, none⟩ = some (.int .u32 e1) := (blk_cell H1.out 1).trans rfl
  have z2 : w1.cell? ⟨w.heap.size, 2, none⟩ = some (.int .u32 b1) := (blk_cell H1.out 2).trans rfl
  have z3 : w1.cell? ⟨w.heap.size, 3, none⟩ = some (.int .u16 i1) := (blk_cell H1.out 3).trans rfl
  have z4 : w1.cell? ⟨w.heap.size, 4, none⟩ = some (.int .u16 c1) := (blk_cell H1.out 4).trans rfl
  have z5 : w1.cell? ⟨w.heap.size, 5, none⟩ = some (.int .u32 l1) := (blk_cell H1.out 5).trans rfl
  have z6 : w1.cell? ⟨w.heap.size, 6, none⟩ = some (.int .u32 m1) := (blk_cell H1.out 6).trans rfl
  go_wp2_with fail
  clear z0 z1 z2 z3 z4 z5 z6
  refine (HS.out.2.2 w1).mono ?_
  rintro e w2 ⟨hb2, rfl⟩
  have H2 := Lib.hid (blk_below H1.out hb2)
  have T2 := Lib.hid (bl_seq T1.out hb2)
  clear hb2
  have z0 : w2.cell? ⟨w.heap.size, 0, none⟩ = some (.int .u8 3) := (blk_cell H2.out 0).trans rfl
  have z1 : w2.cell? ⟨w.heap.size, 1, none⟩ = some (.int .u32 e1) := (blk_cell H2.out 1).trans rfl
  have z2 : w2.cell? ⟨w.heap.size, 2, none⟩ = some (.int .u32 b1) := (blk_cell H2.out 2).trans rfl
  have z3 : w2.cell? ⟨w.heap.size, 3, none⟩ = some (.int .u16 i1) := (blk_cell H2.out 3).trans rfl
  have z4 : w2.cell? ⟨w.heap.size, 4, none⟩ = some (.int .u16 c1) := (blk_cell H2.out 4).trans rfl
  have z5 : w2.cell? ⟨w.heap.size, 5, none⟩ = some (.int .u32 l1) := (blk_cell H2.out 5).trans rfl
  have z6 : w2.cell? ⟨w.heap.size, 6, none⟩ = some (.int .u32 m1) := (blk_cell H2.out 6).trans rfl
  go_wp2_with fail
  clear z0 z1 z2 z3 z4 z5 z6
  refine (HS.out.1 w2).mono ?_
  rintro e w3 ⟨hb3, rfl⟩
  have H3 := Lib.hid (blk_below H2.out hb3)
  have T3 := Lib.hid (bl_seq T2.out hb3)
  clear hb3
  have z0 : ∀ o, (w3.alloc o).cell? ⟨w.heap.size, 0, none⟩ = some (.int .u8 3) := fun o => (blk_cell (blk_alloc H3.out o) 0).trans rfl
  have x0 : ∀ o o2, ((w3.alloc o).alloc o2).cell? ⟨w.heap.size, 0, none⟩ = some (.int .u8 3) := fun o o2 => (blk_cell (blk_alloc (blk_alloc H3.out o) o2) 0).trans rfl
  have z1 : ∀ o, (w3.alloc o).cell? ⟨w.heap.size, 1, none⟩ = some (.int .u32 e1) := fun o => (blk_cell (blk_alloc H3.out o) 1).trans rfl
  have x1 : ∀ o o2, ((w3.alloc o).alloc o2).cell? ⟨w.heap.size, 1, none⟩ = some (.int .u32 e1) := fun o o2 => (blk_cell (blk_alloc (blk_alloc H3.out o) o2) 1).trans rfl
  have z2 : ∀ o, (w3.alloc o).cell? ⟨w.heap.size, 2, none⟩ = some (.int .u32 b1) := fun o => (blk_cell (blk_alloc H3.out o) 2).trans rfl
  have x2 : ∀ o o2, ((w3.alloc o).alloc o2).cell? ⟨w.heap.size, 2, none⟩ = some (.int .u32 b1) := fun o o2 => (blk_cell (blk_alloc (blk_alloc H3.out o) o2) 2).trans rfl
  have z3 : ∀ o, (w3.alloc o).cell? ⟨w.heap.size, 3, none⟩ = some (.int .u16 i1) := fun o => (blk_cell (blk_alloc H3.out o) 3).trans rfl
  have x3 : ∀ o o2, ((w3.alloc o).alloc o2).cell? ⟨w.heap.size, 3, none⟩ = some (.int .u16 i1) := fun o o2 => (blk_cell (blk_alloc (blk_alloc H3.out o) o2) 3).trans rfl
  have z4 : ∀ o, (w3.alloc o).cell? ⟨w.heap.size, 4, none⟩ = some (.int .u16 c1) := fun o => (blk_cell (blk_alloc H3.out o) 4).trans rfl
  have x4 : ∀ o o2, ((w3.alloc o).alloc o2).cell? ⟨w.heap.size, 4, none⟩ = some (.int .u16 c1) := fun o o2 => (blk_cell (blk_alloc (blk_alloc H3.out o) o2) 4).trans rfl
  have z5 : ∀ o, (w3.alloc o).cell? ⟨w.heap.size, 5, none⟩ = some (.int .u32 l1) := fun o => (blk_cell (blk_alloc H3.out o) 5).trans rfl
  have x5 : ∀ o o2, ((w3.alloc o).alloc o2).cell? ⟨w.heap.size, 5, none⟩ = some (.int .u32 l1) := fun o o2 => (blk_cell (blk_alloc (blk_alloc H3.out o) o2) 5).trans rfl
  have z6 : ∀ o, (w3.alloc o).cell? ⟨w.heap.size, 6, none⟩ = some (.int .u32 m1) := fun o => (blk_cell (blk_alloc H3.out o) 6).trans rfl
  have x6 : ∀ o o2, ((w3.alloc o).alloc o2).cell? ⟨w.heap.size, 6, none⟩ = some (.int .u32 m1) := fun o o2 => (blk_cell (blk_alloc (blk_alloc H3.out o) o2) 6).trans rfl
  go_wp2_with fail
  clear z0 z1 z2 z3 z4 z5 z6
  clear x0 x1 x2 x3 x4 x5 x6
  have yb : ((w3.alloc (.cells #[.int .u8 3, .int .u32 e1, .int .u32 0, .int .u16 i1, .int .u16 c1, .int .u32 0, .int .u32 0] 25)).alloc (.cells #[.int .u8 3, .int .u32 e1, .int .u32 0, .int .u16 i1, .int .u16 c1, .int .u32 0, .int .u32 0] 25)).heap[w3.heap.size]? = some (.cells #[.int .u8 3, .int .u32 e1, .int .u32 0, .int .u16 i1, .int .u16 c1, .int .u32 0, .int .u32 0] 25 (0, 0)) := blk_alloc (heap_alloc_new _ _) _
  have wb : ((w3.alloc (.cells #[.int .u8 3, .int .u32 e1, .int .u32 0, .int .u16 i1, .int .u16 c1, .int .u32 0, .int .u32 0] 25)).alloc (.cells #[.int .u8 3, .int .u32 e1, .int .u32 0, .int .u16 i1, .int .u16 c1, .int .u32 0, .int .u32 0] 25)).heap[w3.heap.size + 1]? = some (.cells #[.int .u8 3, .int .u32 e1, .int .u32 0, .int .u16 i1, .int .u16 c1, .int .u32 0, .int .u32 0] 25 (0, 0)) := by
    have h_ := heap_alloc_new (w3.alloc (.cells #[.int .u8 3, .int .u32 e1, .int .u32 0, .int .u16 i1, .int .u16 c1, .int .u32 0, .int .u32 0] 25)) (.cells #[.int .u8 3, .int .u32 e1, .int .u32 0, .int .u16 i1, .int .u16 c1, .int .u32 0, .int .u32 0] 25)
    simp only [World.size_alloc] at h_
    exact h_
  have hb := blk_alloc (blk_alloc H3.out (.cells #[.int .u8 3, .int .u32 e1, .int .u32 0, .int .u16 i1, .int .u16 c1, .int .u32 0, .int .u32 0] 25)) (.cells #[.int .u8 3, .int .u32 e1, .int .u32 0, .int .u16 i1, .int .u16 c1, .int .u32 0, .int .u32 0] 25)
  have tb : Below w.heap.size w ((w3.alloc (.cells #[.int .u8 3, .int .u32 e1, .int .u32 0, .int .u16 i1, .int .u16 c1, .int .u32 0, .int .u32 0] 25)).alloc (.cells #[.int .u8 3, .int .u32 e1, .int .u32 0, .int .u16 i1, .int .u16 c1, .int .u32 0, .int .u32 0] 25)) := bl_alloc (bl_alloc T3.out _) _
  generalize ((w3.alloc (.cells #[.int .u8 3, .int .u32 e1, .int .u32 0, .int .u16 i1, .int .u16 c1, .int .u32 0, .int .u32 0] 25)).alloc (.cells #[.int .u8 3, .int .u32 e1, .int .u32 0, .int .u16 i1, .int .u16 c1, .int .u32 0, .int .u32 0] 25)) = w5 at yb wb hb tb ⊢
  have Y5 := Lib.hid yb
  have W5 := Lib.hid wb
  have H5 := Lib.hid hb
  have T5 := Lib.hid tb
  clear yb wb hb tb
  refine (HS.out.2.1 w5).mono ?_
  rintro e w6 ⟨hb6, rfl⟩
  have Y6 := Lib.hid (blk_below Y5.out hb6)
  have W6 := Lib.hid (blk_below W5.out hb6)
  have H6 := Lib.hid (blk_below H5.out hb6)
  have T6 := Lib.hid (bl_seq T5.out hb6)
  clear hb6 Y5 W5 H5 T5
  go_wp2_with fail
  refine (asdata_Point e1 b1 i1 c1 l1 m1 w6).mono ?_
  rintro e w7 ⟨hb7, rfl⟩
  have yb := blk_alloc (blk_below Y6.out hb7) (.cells #[.int .u32 0, .int .u32 0, .int .i64 0, .int .i64 0, .int .u32 0] 53)
  have wb := blk_alloc (blk_below W6.out hb7) (.cells #[.int .u32 0, .int .u32 0, .int .i64 0, .int .i64 0, .int .u32 0] 53)
  have hb := blk_alloc (blk_below H6.out hb7) (.cells #[.int .u32 0, .int .u32 0, .int .i64 0, .int .i64 0, .int .u32 0] 53)
  have tb : Below w.heap.size w (w7.alloc (.cells #[.int .u32 0, .int .u32 0, .int .i64 0, .int .i64 0, .int .u32 0] 53)) := bl_alloc (bl_seq T6.out hb7) _
  have db_ : (w7.alloc (.cells #[.int .u32 0, .int .u32 0, .int .i64 0, .int .i64 0, .int .u32 0] 53)).heap[w7.heap.size]? = some (.cells #[.int .u32 0, .int .u32 0, .int .i64 0, .int .i64 0, .int .u32 0] 53 (0, 0)) := heap_alloc_new _ _
  have HH := Lib.hid (And.intro hb (And.intro tb db_))
  have y0 : (w7.alloc (.cells #[.int .u32 0, .int .u32 0, .int .i64 0, .int .i64 0, .int .u32 0] 53)).cell? ⟨w3.heap.size, 0, none⟩ = some (.int .u8 3) := (blk_cell yb 0).trans rfl
  have y1 : (w7.alloc (.cells #[.int .u32 0, .int .u32 0, .int .i64 0, .int .i64 0, .int .u32 0] 53)).cell? ⟨w3.heap.size, 1, none⟩ = some (.int .u32 e1) := (blk_cell yb 1).trans rfl
  have y2 : (w7.alloc (.cells #[.int .u32 0, .int .u32 0, .int .i64 0, .int .i64 0, .int .u32 0] 53)).cell? ⟨w3.heap.size, 2, none⟩ = some (.int .u32 0) := (blk_cell yb 2).trans rfl
  have y3 : (w7.alloc (.cells #[.int .u32 0, .int .u32 0, .int .i64 0, .int .i64 0, .int .u32 0] 53)).cell? ⟨w3.heap.size, 3, none⟩ = some (.int .u16 i1) := (blk_cell yb 3).trans rfl
  have y4 : (w7.alloc (.cells #[.int .u32 0, .int .u32 0, .int .i64 0, .int .i64 0, .int .u32 0] 53)).cell? ⟨w3.heap.size, 4, none⟩ = some (.int .u16 c1) := (blk_cell yb 4).trans rfl
  have y5 : (w7.alloc (.cells #[.int .u32 0, .int .u32 0, .int .i64 0, .int .i64 0, .int .u32 0] 53)).cell? ⟨w3.heap.size, 5, none⟩ = some (.int .u32 0) := (blk_cell yb 5).trans rfl
  have y6 : (w7.alloc (.cells #[.int .u32 0, .int .u32 0, .int .i64 0, .int .i64 0, .int .u32 0] 53)).cell? ⟨w3.heap.size, 6, none⟩ = some (.int .u32 0) := (blk_cell yb 6).trans rfl
  have u0 : (w7.alloc (.cells #[.int .u32 0, .int .u32 0, .int .i64 0, .int .i64 0, .int .u32 0] 53)).cell? ⟨w3.heap.size + 1, 0, none⟩ = some (.int .u8 3) := (blk_cell wb 0).trans rfl
  have u1 : (w7.alloc (.cells #[.int .u32 0, .int .u32 0, .int .i64 0, .int .i64 0, .int .u32 0] 53)).cell? ⟨w3.heap.size + 1, 1, none⟩ = some (.int .u32 e1) := (blk_cell wb 1).trans rfl
  have u2 : (w7.alloc (.cells #[.int .u32 0, .int .u32 0, .int .i64 0, .int .i64 0, .int .u32 0] 53)).cell? ⟨w3.heap.size + 1, 2, none⟩ = some (.int .u32 0) := (blk_cell wb 2).trans rfl
  have u3 : (w7.alloc (.cells #[.int .u32 0, .int .u32 0, .int .i64 0, .int .i64 0, .int .u32 0] 53)).cell? ⟨w3.heap.size + 1, 3, none⟩ = some (.int .u16 i1) := (blk_cell wb 3).trans rfl
  have u4 : (w7.alloc (.cells #[.int .u32 0, .int .u32 0, .int .i64 0, .int .i64 0, .int .u32 0] 53)).cell? ⟨w3.heap.size + 1, 4, none⟩ = some (.int .u16 c1) := (blk_cell wb 4).trans rfl
  have u5 : (w7.alloc (.cells #[.int .u32 0, .int .u32 0, .int .i64 0, .int .i64 0, .int .u32 0] 53)).cell? ⟨w3.heap.size + 1, 5, none⟩ = some (.int .u32 0) := (blk_cell wb 5).trans rfl
  have u6 : (w7.alloc (.cells #[.int .u32 0, .int .u32 0, .int .i64 0, .int .i64 0, .int .u32 0] 53)).cell? ⟨w3.heap.size + 1, 6, none⟩ = some (.int .u32 0) := (blk_cell wb 6).trans rfl
  have z0 : (w7.alloc (.cells #[.int .u32 0, .int .u32 0, .int .i64 0, .int .i64 0, .int .u32 0] 53)).cell? ⟨w.heap.size, 0, none⟩ = some (.int .u8 3) := (blk_cell hb 0).trans rfl
  have z1 : (w7.alloc (.cells #[.int .u32 0, .int .u32 0, .int .i64 0, .int .i64 0, .int .u32 0] 53)).cell? ⟨w.heap.size, 1, none⟩ = some (.int .u32 e1) := (blk_cell hb 1).trans rfl
  have z2 : (w7.alloc (.cells #[.int .u32 0, .int .u32 0, .int .i64 0, .int .i64 0, .int .u32 0] 53)).cell? ⟨w.heap.size, 2, none⟩ = some (.int .u32 b1) := (blk_cell hb 2).trans rfl
  have z3 : (w7.alloc (.cells #[.int .u32 0, .int .u32 0, .int .i64 0, .int .i64 0, .int .u32 0] 53)).cell? ⟨w.heap.size, 3, none⟩ = some (.int .u16 i1) := (blk_cell hb 3).trans rfl
  have z4 : (w7.alloc (.cells #[.int .u32 0, .int .u32 0, .int .i64 0, .int .i64 0, .int .u32 0] 53)).cell? ⟨w.heap.size, 4, none⟩ = some (.int .u16 c1) := (blk_cell hb 4).trans rfl
  have z5 : (w7.alloc (.cells #[.int .u32 0, .int .u32 0, .int .i64 0, .int .i64 0, .int .u32 0] 53)).cell? ⟨w.heap.size, 5, none⟩ = some (.int .u32 l1) := (blk_cell hb 5).trans rfl
  have z6 : (w7.alloc (.cells #[.int .u32 0, .int .u32 0, .int .i64 0, .int .i64 0, .int .u32 0] 53)).cell? ⟨w.heap.size, 6, none⟩ = some (.int .u32 m1) := (blk_cell hb 6).trans rfl
  clear hb7 yb wb hb tb db_ Y6 W6 H6 T6
  have nez := neHd ⟨3, e1, 0, i1, c1, 0, 0⟩ ⟨3, e1, 0, i1, c1, 0, 0⟩
  rw [hdEq_self] at nez
  simp only [hdC] at nez
  go_wp2_with fail
  clear y0 y1 y2 y3 y4 y5 y6
  clear u0 u1 u2 u3 u4 u5 u6
  clear z0 z1 z2 z3 z4 z5 z6
  clear nez
  have db_ := HH.out.2.2
  have d0 : (w7.alloc (.cells #[.int .u32 0, .int .u32 0, .int .i64 0, .int .i64 0, .int .u32 0] 53)).cell? ⟨w7.heap.size, 0, none⟩ = some (.int .u32 0) := (blk_cell db_ 0).trans rfl
  have d1 : (w7.alloc (.cells #[.int .u32 0, .int .u32 0, .int .i64 0, .int .i64 0, .int .u32 0] 53)).cell? ⟨w7.heap.size, 1, none⟩ = some (.int .u32 0) := (blk_cell db_ 1).trans rfl
  have d2 : (w7.alloc (.cells #[.int .u32 0, .int .u32 0, .int .i64 0, .int .i64 0, .int .u32 0] 53)).cell? ⟨w7.heap.size, 2, none⟩ = some (.int .i64 0) := (blk_cell db_ 2).trans rfl
  have d3 : (w7.alloc (.cells #[.int .u32 0, .int .u32 0, .int .i64 0, .int .i64 0, .int .u32 0] 53)).cell? ⟨w7.heap.size, 3, none⟩ = some (.int .i64 0) := (blk_cell db_ 3).trans rfl
  have d4 : (w7.alloc (.cells #[.int .u32 0, .int .u32 0, .int .i64 0, .int .i64 0, .int .u32 0] 53)).cell? ⟨w7.heap.size, 4, none⟩ = some (.int .u32 0) := (blk_cell db_ 4).trans rfl
  clear db_
  have eqz := eqDP 0 0 0 0 0
  go_quiet (fail)
  have TE := Lib.hid (bl_drewN HH.out.2.1 nq)
  go_wp2_with fail
  go_ret
  exact ⟨rfl, TE.out⟩
set_option maxHeartbeats 8000000 in
set_option maxRecDepth 100000 in
theorem rtells_Data (e1 b1 i1 c1 l1 m1 : Int) (w : World) (i0 : 0 ≤ i1) (i9 : i1 ≤ 65535) (c0 : 0 ≤ c1) (c9 : c1 ≤ 65535) : Calls Try.prog 9 #[.agg #[.int .u8 4, .int .u32 e1, .int .u32 b1, .int .u16 i1, .int .u16 c1, .int .u32 l1, .int .u32 m1]] w fun e w' => e = .returned (.bool true) ∧ Below w.heap.size w w' := by
  have WI := Lib.hid (i64w (i := i1) (by omega) (by omega))
  have WC := Lib.hid (i64w (i := c1) (by omega) (by omega))
  have HS0 := fun (W : World) => saidk_Data e1 b1 i1 c1 l1 m1 W i0 i9 c0 c9
  have HE0 := fun (W : World) => epoch_Data e1 b1 i1 c1 l1 m1 W i0 i9 c0 c9
  have HT0 := fun (W : World) => tell_Data e1 b1 i1 c1 l1 m1 W i0 i9 c0 c9
  have HS := Lib.hid (And.intro HS0 (And.intro HE0 HT0))
  clear i0 i9 c0 c9 HS0 HE0 HT0
  go_enter Try.func9, Try.ntmps9
  go_wp2_with fail
  have hb : (w.alloc (.cells #[.int .u8 4, .int .u32 e1, .int .u32 b1, .int .u16 i1, .int .u16 c1, .int .u32 l1, .int .u32 m1] 25)).heap[w.heap.size]? = some (.cells #[.int .u8 4, .int .u32 e1, .int .u32 b1, .int .u16 i1, .int .u16 c1, .int .u32 l1, .int .u32 m1] 25 (0, 0)) := heap_alloc_new _ _
  have tb : Below w.heap.size w (w.alloc (.cells #[.int .u8 4, .int .u32 e1, .int .u32 b1, .int .u16 i1, .int .u16 c1, .int .u32 l1, .int .u32 m1] 25)) := bl_alloc (Below.refl _ _) _
  generalize (w.alloc (.cells #[.int .u8 4, .int .u32 e1, .int .u32 b1, .int .u16 i1, .int .u16 c1, .int .u32 l1, .int .u32 m1] 25)) = w0 at hb tb ⊢
  refine (sealed_any _).mono ?_
  rintro e w1 ⟨rfl, hb1⟩
  have H1 := Lib.hid (blk_below hb hb1)
  have T1 := Lib.hid (bl_seq tb hb1)
  clear hb tb hb1
  have z0 : w1.cell? ⟨w.heap.size, 0, none⟩ = some (.int .u8 4) := (blk_cell H1.out 0).trans rfl
  have z1 : w1.cell? ⟨w.heap.size, 1, none⟩ = some (.int .u32 e1) := (blk_cell H1.out 1).trans rfl
  have z2 : w1.cell? ⟨w.heap.size, 2, none⟩ = some (.int .u32 b1) := (blk_cell H1.out 2).trans rfl
  have z3 : w1.cell? ⟨w.heap.size, 3, none⟩ = some (.int .u16 i1) := (blk_cell H1.out 3).trans rfl
  have z4 : w1.cell? ⟨w.heap.size, 4, none⟩ = some (.int .u16 c1) := (blk_cell H1.out 4).trans rfl
  have z5 : w1.cell? ⟨w.heap.size, 5, none⟩ = some (.int .u32 l1) := (blk_cell H1.out 5).trans rfl
  have z6 : w1.cell? ⟨w.heap.size, 6, none⟩ = some (.int .u32 m1) := (blk_cell H1.out 6).trans rfl
  go_wp2_with fail
  clear z0 z1 z2 z3 z4 z5 z6
  refine (HS.out.2.2 w1).mono ?_
  rintro e w2 ⟨hb2, rfl⟩
  have H2 := Lib.hid (blk_below H1.out hb2)
  have T2 := Lib.hid (bl_seq T1.out hb2)
  clear hb2
  have z0 : w2.cell? ⟨w.heap.size, 0, none⟩ = some (.int .u8 4) := (blk_cell H2.out 0).trans rfl
  have z1 : w2.cell? ⟨w.heap.size, 1, none⟩ = some (.int .u32 e1) := (blk_cell H2.out 1).trans rfl
  have z2 : w2.cell? ⟨w.heap.size, 2, none⟩ = some (.int .u32 b1) := (blk_cell H2.out 2).trans rfl
  have z3 : w2.cell? ⟨w.heap.size, 3, none⟩ = some (.int .u16 i1) := (blk_cell H2.out 3).trans rfl
  have z4 : w2.cell? ⟨w.heap.size, 4, none⟩ = some (.int .u16 c1) := (blk_cell H2.out 4).trans rfl
  have z5 : w2.cell? ⟨w.heap.size, 5, none⟩ = some (.int .u32 l1) := (blk_cell H2.out 5).trans rfl
  have z6 : w2.cell? ⟨w.heap.size, 6, none⟩ = some (.int .u32 m1) := (blk_cell H2.out 6).trans rfl
  go_wp2_with fail
  clear z0 z1 z2 z3 z4 z5 z6
  refine (HS.out.1 w2).mono ?_
  rintro e w3 ⟨hb3, rfl⟩
  have H3 := Lib.hid (blk_below H2.out hb3)
  have T3 := Lib.hid (bl_seq T2.out hb3)
  clear hb3
  have z0 : ∀ o, (w3.alloc o).cell? ⟨w.heap.size, 0, none⟩ = some (.int .u8 4) := fun o => (blk_cell (blk_alloc H3.out o) 0).trans rfl
  have x0 : ∀ o o2, ((w3.alloc o).alloc o2).cell? ⟨w.heap.size, 0, none⟩ = some (.int .u8 4) := fun o o2 => (blk_cell (blk_alloc (blk_alloc H3.out o) o2) 0).trans rfl
  have z1 : ∀ o, (w3.alloc o).cell? ⟨w.heap.size, 1, none⟩ = some (.int .u32 e1) := fun o => (blk_cell (blk_alloc H3.out o) 1).trans rfl
  have x1 : ∀ o o2, ((w3.alloc o).alloc o2).cell? ⟨w.heap.size, 1, none⟩ = some (.int .u32 e1) := fun o o2 => (blk_cell (blk_alloc (blk_alloc H3.out o) o2) 1).trans rfl
  have z2 : ∀ o, (w3.alloc o).cell? ⟨w.heap.size, 2, none⟩ = some (.int .u32 b1) := fun o => (blk_cell (blk_alloc H3.out o) 2).trans rfl
  have x2 : ∀ o o2, ((w3.alloc o).alloc o2).cell? ⟨w.heap.size, 2, none⟩ = some (.int .u32 b1) := fun o o2 => (blk_cell (blk_alloc (blk_alloc H3.out o) o2) 2).trans rfl
  have z3 : ∀ o, (w3.alloc o).cell? ⟨w.heap.size, 3, none⟩ = some (.int .u16 i1) := fun o => (blk_cell (blk_alloc H3.out o) 3).trans rfl
  have x3 : ∀ o o2, ((w3.alloc o).alloc o2).cell? ⟨w.heap.size, 3, none⟩ = some (.int .u16 i1) := fun o o2 => (blk_cell (blk_alloc (blk_alloc H3.out o) o2) 3).trans rfl
  have z4 : ∀ o, (w3.alloc o).cell? ⟨w.heap.size, 4, none⟩ = some (.int .u16 c1) := fun o => (blk_cell (blk_alloc H3.out o) 4).trans rfl
  have x4 : ∀ o o2, ((w3.alloc o).alloc o2).cell? ⟨w.heap.size, 4, none⟩ = some (.int .u16 c1) := fun o o2 => (blk_cell (blk_alloc (blk_alloc H3.out o) o2) 4).trans rfl
  have z5 : ∀ o, (w3.alloc o).cell? ⟨w.heap.size, 5, none⟩ = some (.int .u32 l1) := fun o => (blk_cell (blk_alloc H3.out o) 5).trans rfl
  have x5 : ∀ o o2, ((w3.alloc o).alloc o2).cell? ⟨w.heap.size, 5, none⟩ = some (.int .u32 l1) := fun o o2 => (blk_cell (blk_alloc (blk_alloc H3.out o) o2) 5).trans rfl
  have z6 : ∀ o, (w3.alloc o).cell? ⟨w.heap.size, 6, none⟩ = some (.int .u32 m1) := fun o => (blk_cell (blk_alloc H3.out o) 6).trans rfl
  have x6 : ∀ o o2, ((w3.alloc o).alloc o2).cell? ⟨w.heap.size, 6, none⟩ = some (.int .u32 m1) := fun o o2 => (blk_cell (blk_alloc (blk_alloc H3.out o) o2) 6).trans rfl
  go_wp2_with fail
  clear z0 z1 z2 z3 z4 z5 z6
  clear x0 x1 x2 x3 x4 x5 x6
  have yb : ((w3.alloc (.cells #[.int .u8 4, .int .u32 e1, .int .u32 b1, .int .u16 i1, .int .u16 c1, .int .u32 l1, .int .u32 0] 25)).alloc (.cells #[.int .u8 4, .int .u32 e1, .int .u32 0, .int .u16 i1, .int .u16 c1, .int .u32 0, .int .u32 0] 25)).heap[w3.heap.size]? = some (.cells #[.int .u8 4, .int .u32 e1, .int .u32 b1, .int .u16 i1, .int .u16 c1, .int .u32 l1, .int .u32 0] 25 (0, 0)) := blk_alloc (heap_alloc_new _ _) _
  have wb : ((w3.alloc (.cells #[.int .u8 4, .int .u32 e1, .int .u32 b1, .int .u16 i1, .int .u16 c1, .int .u32 l1, .int .u32 0] 25)).alloc (.cells #[.int .u8 4, .int .u32 e1, .int .u32 0, .int .u16 i1, .int .u16 c1, .int .u32 0, .int .u32 0] 25)).heap[w3.heap.size + 1]? = some (.cells #[.int .u8 4, .int .u32 e1, .int .u32 0, .int .u16 i1, .int .u16 c1, .int .u32 0, .int .u32 0] 25 (0, 0)) := by
    have h_ := heap_alloc_new (w3.alloc (.cells #[.int .u8 4, .int .u32 e1, .int .u32 b1, .int .u16 i1, .int .u16 c1, .int .u32 l1, .int .u32 0] 25)) (.cells #[.int .u8 4, .int .u32 e1, .int .u32 0, .int .u16 i1, .int .u16 c1, .int .u32 0, .int .u32 0] 25)
    simp only [World.size_alloc] at h_
    exact h_
  have hb := blk_alloc (blk_alloc H3.out (.cells #[.int .u8 4, .int .u32 e1, .int .u32 b1, .int .u16 i1, .int .u16 c1, .int .u32 l1, .int .u32 0] 25)) (.cells #[.int .u8 4, .int .u32 e1, .int .u32 0, .int .u16 i1, .int .u16 c1, .int .u32 0, .int .u32 0] 25)
  have tb : Below w.heap.size w ((w3.alloc (.cells #[.int .u8 4, .int .u32 e1, .int .u32 b1, .int .u16 i1, .int .u16 c1, .int .u32 l1, .int .u32 0] 25)).alloc (.cells #[.int .u8 4, .int .u32 e1, .int .u32 0, .int .u16 i1, .int .u16 c1, .int .u32 0, .int .u32 0] 25)) := bl_alloc (bl_alloc T3.out _) _
  have sb := T3.out.size
  have hlt3 := blk_lt H3.out
  generalize ((w3.alloc (.cells #[.int .u8 4, .int .u32 e1, .int .u32 b1, .int .u16 i1, .int .u16 c1, .int .u32 l1, .int .u32 0] 25)).alloc (.cells #[.int .u8 4, .int .u32 e1, .int .u32 0, .int .u16 i1, .int .u16 c1, .int .u32 0, .int .u32 0] 25)) = w4 at yb wb hb tb ⊢
  have z0 : w4.cell? ⟨w.heap.size, 0, none⟩ = some (.int .u8 4) := (blk_cell hb 0).trans rfl
  have z1 : w4.cell? ⟨w.heap.size, 1, none⟩ = some (.int .u32 e1) := (blk_cell hb 1).trans rfl
  have z2 : w4.cell? ⟨w.heap.size, 2, none⟩ = some (.int .u32 b1) := (blk_cell hb 2).trans rfl
  have z3 : w4.cell? ⟨w.heap.size, 3, none⟩ = some (.int .u16 i1) := (blk_cell hb 3).trans rfl
  have z4 : w4.cell? ⟨w.heap.size, 4, none⟩ = some (.int .u16 c1) := (blk_cell hb 4).trans rfl
  have z5 : w4.cell? ⟨w.heap.size, 5, none⟩ = some (.int .u32 l1) := (blk_cell hb 5).trans rfl
  have z6 : w4.cell? ⟨w.heap.size, 6, none⟩ = some (.int .u32 m1) := (blk_cell hb 6).trans rfl
  have y0 : w4.cell? ⟨w3.heap.size + 1, 0, none⟩ = some (.int .u8 4) := (blk_cell wb 0).trans rfl
  have y1 : w4.cell? ⟨w3.heap.size + 1, 1, none⟩ = some (.int .u32 e1) := (blk_cell wb 1).trans rfl
  have y2 : w4.cell? ⟨w3.heap.size + 1, 2, none⟩ = some (.int .u32 0) := (blk_cell wb 2).trans rfl
  have y3 : w4.cell? ⟨w3.heap.size + 1, 3, none⟩ = some (.int .u16 i1) := (blk_cell wb 3).trans rfl
  have y4 : w4.cell? ⟨w3.heap.size + 1, 4, none⟩ = some (.int .u16 c1) := (blk_cell wb 4).trans rfl
  have y5 : w4.cell? ⟨w3.heap.size + 1, 5, none⟩ = some (.int .u32 0) := (blk_cell wb 5).trans rfl
  have y6 : w4.cell? ⟨w3.heap.size + 1, 6, none⟩ = some (.int .u32 0) := (blk_cell wb 6).trans rfl
  have q2 := blk_frozen wb 2
  have q5 := blk_frozen wb 5
  go_region
  clear z0 z1 z2 z3 z4 z5 z6
  clear y0 y1 y2 y3 y4 y5 y6
  clear q2 q5
  have wb2 := blk_put (blk_put wb 2 (.int .u32 b1) (cs' := #[.int .u8 4, .int .u32 e1, .int .u32 b1, .int .u16 i1, .int .u16 c1, .int .u32 0, .int .u32 0]) (by simp)) 5 (.int .u32 l1) (cs' := #[.int .u8 4, .int .u32 e1, .int .u32 b1, .int .u16 i1, .int .u16 c1, .int .u32 l1, .int .u32 0]) (by simp)
  have yb2 := blk_far (blk_far yb (p := ⟨w3.heap.size + 1, 2, none⟩) (by show w3.heap.size ≠ w3.heap.size + 1; omega) (.int .u32 b1)) (p := ⟨w3.heap.size + 1, 5, none⟩) (by show w3.heap.size ≠ w3.heap.size + 1; omega) (.int .u32 l1)
  have hb2 := blk_far (blk_far hb (p := ⟨w3.heap.size + 1, 2, none⟩) (by show w.heap.size ≠ w3.heap.size + 1; omega) (.int .u32 b1)) (p := ⟨w3.heap.size + 1, 5, none⟩) (by show w.heap.size ≠ w3.heap.size + 1; omega) (.int .u32 l1)
  have tb2 := bl_set (bl_set tb (p := ⟨w3.heap.size + 1, 2, none⟩) (by show w.heap.size ≤ w3.heap.size + 1; omega) (.int .u32 b1)) (p := ⟨w3.heap.size + 1, 5, none⟩) (by show w.heap.size ≤ w3.heap.size + 1; omega) (.int .u32 l1)
  clear yb wb hb tb
  generalize (w4.setCell ⟨w3.heap.size + 1, 2, none⟩ (.int .u32 b1)).setCell ⟨w3.heap.size + 1, 5, none⟩ (.int .u32 l1) = wc at wb2 yb2 hb2 tb2 ⊢
  replace yb2 : wc.drew.heap[w3.heap.size]? = some (.cells #[.int .u8 4, .int .u32 e1, .int .u32 b1, .int .u16 i1, .int .u16 c1, .int .u32 l1, .int .u32 0] 25 (0, 0)) := yb2
  replace wb2 : wc.drew.heap[w3.heap.size + 1]? = some (.cells #[.int .u8 4, .int .u32 e1, .int .u32 b1, .int .u16 i1, .int .u16 c1, .int .u32 l1, .int .u32 0] 25 (0, 0)) := wb2
  replace hb2 : wc.drew.heap[w.heap.size]? = some (.cells #[.int .u8 4, .int .u32 e1, .int .u32 b1, .int .u16 i1, .int .u16 c1, .int .u32 l1, .int .u32 m1] 25 (0, 0)) := hb2
  replace tb2 : Below w.heap.size w wc.drew := bl_drew tb2
  generalize wc.drew = w5 at yb2 wb2 hb2 tb2 ⊢
  have Y5 := Lib.hid yb2
  have W5 := Lib.hid wb2
  have H5 := Lib.hid hb2
  have T5 := Lib.hid tb2
  clear yb2 wb2 hb2 tb2 sb hlt3
  go_wp2_with fail
  refine (HS.out.2.1 w5).mono ?_
  rintro e w6 ⟨hb6, rfl⟩
  have Y6 := Lib.hid (blk_below Y5.out hb6)
  have W6 := Lib.hid (blk_below W5.out hb6)
  have H6 := Lib.hid (blk_below H5.out hb6)
  have T6 := Lib.hid (bl_seq T5.out hb6)
  clear hb6 Y5 W5 H5 T5
  go_wp2_with fail
  refine (asdata_Data e1 b1 i1 c1 l1 m1 w6).mono ?_
  rintro e w7 ⟨hb7, rfl⟩
  have yb := blk_alloc (blk_below Y6.out hb7) (.cells #[.int .u32 e1, .int .u32 b1, .int .i64 i1, .int .i64 c1, .int .u32 l1] 53)
  have wb := blk_alloc (blk_below W6.out hb7) (.cells #[.int .u32 e1, .int .u32 b1, .int .i64 i1, .int .i64 c1, .int .u32 l1] 53)
  have hb := blk_alloc (blk_below H6.out hb7) (.cells #[.int .u32 e1, .int .u32 b1, .int .i64 i1, .int .i64 c1, .int .u32 l1] 53)
  have tb : Below w.heap.size w (w7.alloc (.cells #[.int .u32 e1, .int .u32 b1, .int .i64 i1, .int .i64 c1, .int .u32 l1] 53)) := bl_alloc (bl_seq T6.out hb7) _
  have db_ : (w7.alloc (.cells #[.int .u32 e1, .int .u32 b1, .int .i64 i1, .int .i64 c1, .int .u32 l1] 53)).heap[w7.heap.size]? = some (.cells #[.int .u32 e1, .int .u32 b1, .int .i64 i1, .int .i64 c1, .int .u32 l1] 53 (0, 0)) := heap_alloc_new _ _
  have HH := Lib.hid (And.intro hb (And.intro tb db_))
  have y0 : (w7.alloc (.cells #[.int .u32 e1, .int .u32 b1, .int .i64 i1, .int .i64 c1, .int .u32 l1] 53)).cell? ⟨w3.heap.size, 0, none⟩ = some (.int .u8 4) := (blk_cell yb 0).trans rfl
  have y1 : (w7.alloc (.cells #[.int .u32 e1, .int .u32 b1, .int .i64 i1, .int .i64 c1, .int .u32 l1] 53)).cell? ⟨w3.heap.size, 1, none⟩ = some (.int .u32 e1) := (blk_cell yb 1).trans rfl
  have y2 : (w7.alloc (.cells #[.int .u32 e1, .int .u32 b1, .int .i64 i1, .int .i64 c1, .int .u32 l1] 53)).cell? ⟨w3.heap.size, 2, none⟩ = some (.int .u32 b1) := (blk_cell yb 2).trans rfl
  have y3 : (w7.alloc (.cells #[.int .u32 e1, .int .u32 b1, .int .i64 i1, .int .i64 c1, .int .u32 l1] 53)).cell? ⟨w3.heap.size, 3, none⟩ = some (.int .u16 i1) := (blk_cell yb 3).trans rfl
  have y4 : (w7.alloc (.cells #[.int .u32 e1, .int .u32 b1, .int .i64 i1, .int .i64 c1, .int .u32 l1] 53)).cell? ⟨w3.heap.size, 4, none⟩ = some (.int .u16 c1) := (blk_cell yb 4).trans rfl
  have y5 : (w7.alloc (.cells #[.int .u32 e1, .int .u32 b1, .int .i64 i1, .int .i64 c1, .int .u32 l1] 53)).cell? ⟨w3.heap.size, 5, none⟩ = some (.int .u32 l1) := (blk_cell yb 5).trans rfl
  have y6 : (w7.alloc (.cells #[.int .u32 e1, .int .u32 b1, .int .i64 i1, .int .i64 c1, .int .u32 l1] 53)).cell? ⟨w3.heap.size, 6, none⟩ = some (.int .u32 0) := (blk_cell yb 6).trans rfl
  have u0 : (w7.alloc (.cells #[.int .u32 e1, .int .u32 b1, .int .i64 i1, .int .i64 c1, .int .u32 l1] 53)).cell? ⟨w3.heap.size + 1, 0, none⟩ = some (.int .u8 4) := (blk_cell wb 0).trans rfl
  have u1 : (w7.alloc (.cells #[.int .u32 e1, .int .u32 b1, .int .i64 i1, .int .i64 c1, .int .u32 l1] 53)).cell? ⟨w3.heap.size + 1, 1, none⟩ = some (.int .u32 e1) := (blk_cell wb 1).trans rfl
  have u2 : (w7.alloc (.cells #[.int .u32 e1, .int .u32 b1, .int .i64 i1, .int .i64 c1, .int .u32 l1] 53)).cell? ⟨w3.heap.size + 1, 2, none⟩ = some (.int .u32 b1) := (blk_cell wb 2).trans rfl
  have u3 : (w7.alloc (.cells #[.int .u32 e1, .int .u32 b1, .int .i64 i1, .int .i64 c1, .int .u32 l1] 53)).cell? ⟨w3.heap.size + 1, 3, none⟩ = some (.int .u16 i1) := (blk_cell wb 3).trans rfl
  have u4 : (w7.alloc (.cells #[.int .u32 e1, .int .u32 b1, .int .i64 i1, .int .i64 c1, .int .u32 l1] 53)).cell? ⟨w3.heap.size + 1, 4, none⟩ = some (.int .u16 c1) := (blk_cell wb 4).trans rfl
  have u5 : (w7.alloc (.cells #[.int .u32 e1, .int .u32 b1, .int .i64 i1, .int .i64 c1, .int .u32 l1] 53)).cell? ⟨w3.heap.size + 1, 5, none⟩ = some (.int .u32 l1) := (blk_cell wb 5).trans rfl
  have u6 : (w7.alloc (.cells #[.int .u32 e1, .int .u32 b1, .int .i64 i1, .int .i64 c1, .int .u32 l1] 53)).cell? ⟨w3.heap.size + 1, 6, none⟩ = some (.int .u32 0) := (blk_cell wb 6).trans rfl
  have z0 : (w7.alloc (.cells #[.int .u32 e1, .int .u32 b1, .int .i64 i1, .int .i64 c1, .int .u32 l1] 53)).cell? ⟨w.heap.size, 0, none⟩ = some (.int .u8 4) := (blk_cell hb 0).trans rfl
  have z1 : (w7.alloc (.cells #[.int .u32 e1, .int .u32 b1, .int .i64 i1, .int .i64 c1, .int .u32 l1] 53)).cell? ⟨w.heap.size, 1, none⟩ = some (.int .u32 e1) := (blk_cell hb 1).trans rfl
  have z2 : (w7.alloc (.cells #[.int .u32 e1, .int .u32 b1, .int .i64 i1, .int .i64 c1, .int .u32 l1] 53)).cell? ⟨w.heap.size, 2, none⟩ = some (.int .u32 b1) := (blk_cell hb 2).trans rfl
  have z3 : (w7.alloc (.cells #[.int .u32 e1, .int .u32 b1, .int .i64 i1, .int .i64 c1, .int .u32 l1] 53)).cell? ⟨w.heap.size, 3, none⟩ = some (.int .u16 i1) := (blk_cell hb 3).trans rfl
  have z4 : (w7.alloc (.cells #[.int .u32 e1, .int .u32 b1, .int .i64 i1, .int .i64 c1, .int .u32 l1] 53)).cell? ⟨w.heap.size, 4, none⟩ = some (.int .u16 c1) := (blk_cell hb 4).trans rfl
  have z5 : (w7.alloc (.cells #[.int .u32 e1, .int .u32 b1, .int .i64 i1, .int .i64 c1, .int .u32 l1] 53)).cell? ⟨w.heap.size, 5, none⟩ = some (.int .u32 l1) := (blk_cell hb 5).trans rfl
  have z6 : (w7.alloc (.cells #[.int .u32 e1, .int .u32 b1, .int .i64 i1, .int .i64 c1, .int .u32 l1] 53)).cell? ⟨w.heap.size, 6, none⟩ = some (.int .u32 m1) := (blk_cell hb 6).trans rfl
  clear hb7 yb wb hb tb db_ Y6 W6 H6 T6
  have nez := neHd ⟨4, e1, b1, i1, c1, l1, 0⟩ ⟨4, e1, b1, i1, c1, l1, 0⟩
  rw [hdEq_self] at nez
  simp only [hdC] at nez
  go_wp2_with fail
  clear y0 y1 y2 y3 y4 y5 y6
  clear u0 u1 u2 u3 u4 u5 u6
  clear z0 z1 z2 z3 z4 z5 z6
  clear nez
  obtain ⟨db, hdb⟩ : ∃ db, w7.heap.size = db := ⟨_, rfl⟩
  rw [hdb] at HH ⊢
  have BB := Lib.hid HH.out.2.1
  have HB := Lib.hid HH.out.1
  have DB := Lib.hid HH.out.2.2
  generalize w7.alloc (.cells #[.int .u32 e1, .int .u32 b1, .int .i64 i1, .int .i64 c1, .int .u32 l1] 53) = wy at BB HB DB ⊢
  clear HH hdb
  refine start_ (n := 34) (S := fun w' => True) (ds := []) #[false, false, false, false, false, false, false, false, false, false, false, false, false, false, false, false, false, false, false, false, false, false, false, false, false, false, false, false, false, false, false, false, false, false] (by kernel_rfl) rfl rfl trivial (fun hHeld => ?_)
  refine with_tabW RteR.tab22 RteR.bits22 (fun HT_ HW_ => ?_)
  have BB := Lib.hid (bl_drew BB.out)
  have HB := Lib.hid (show wy.drew.heap[w.heap.size]? = _ from HB.out)
  have DB := Lib.hid (show wy.drew.heap[db]? = _ from DB.out)
  generalize wy.drew = wz at BB HB DB hHeld ⊢
  refine pure_ (i := 0) (N := some 110) (v := ?_) (a' := ?_) #[true, false, false, false, false, false, false, false, false, false, false, false, false, false, false, false, false, false, false, false, false, false, false, false, false, false, false, false, false, false, false, false, false, false] rfl rfl (any_of HT_.out (by kernel_rfl)) (fun _ _ _ h => h) (Or.inl ⟨by rfl, ?_⟩) ?_ ?_
  rotate_left
  · intro w'
    go_simp
    with_reducible rfl
  rotate_left
  · simp only [Act.put, List.setIfInBounds_toArray, List.set_cons_zero, List.set_cons_succ, i64_w, i32_w]
    rfl
  refine pure_ (i := 1) (N := some 111) (v := ?_) (a' := ?_) #[true, true, false, false, false, false, false, false, false, false, false, false, false, false, false, false, false, false, false, false, false, false, false, false, false, false, false, false, false, false, false, false, false, false] rfl rfl (any_of HT_.out (by kernel_rfl)) (fun _ _ _ h => h) (Or.inl ⟨by rfl, ?_⟩) ?_ ?_
  rotate_left
  · intro w'
    go_simp
    with_reducible rfl
  rotate_left
  · simp only [Act.put, List.setIfInBounds_toArray, List.set_cons_zero, List.set_cons_succ, i64_w, i32_w]
    rfl
  refine pure_ (i := 2) (N := some 112) (v := ?_) (a' := ?_) #[true, true, true, false, false, false, false, false, false, false, false, false, false, false, false, false, false, false, false, false, false, false, false, false, false, false, false, false, false, false, false, false, false, false] rfl rfl (any_of HT_.out (by kernel_rfl)) (fun _ _ _ h => h) (Or.inl ⟨by rfl, ?_⟩) ?_ ?_
  rotate_left
  · intro w'
    go_simp
    with_reducible rfl
  rotate_left
  · simp only [Act.put, List.setIfInBounds_toArray, List.set_cons_zero, List.set_cons_succ, i64_w, i32_w]
    rfl
  refine inv_at [3, 4, 5, 6, 7, 8, 9, 10, 11, 12, 13, 14, 15, 16, 17, 18, 19, 20, 21, 22, 23, 24, 25, 26, 27, 28, 29, 30, 31, 32, 33] (fun a0_ b a w' => a = putSel a0_ b [(3, 113, undef), (4, 114, undef), (5, 115, undef), (6, 116, .bool false), (7, 117, .bool false), (8, 118, .bool true), (9, 119, .bool true), (10, 120, .agg #[.int .u32 e1, .int .u32 b1, .int .i64 i1, .int .i64 c1, .int .u32 l1]), (11, 121, .iface 53 (.agg #[.int .u32 e1, .int .u32 b1, .int .i64 i1, .int .i64 c1, .int .u32 l1])), (12, 122, .agg #[.int .u32 e1, .int .u32 b1, .int .i64 i1, .int .i64 c1, .int .u32 l1]), (13, 123, .bool true), (14, 124, .bool true), (15, 125, .bool true), (16, 126, .agg #[.int .u32 e1, .int .u32 b1, .int .i64 i1, .int .i64 c1, .int .u32 l1]), (17, 127, .pointer (some ⟨w.heap.size, 1, none⟩)), (18, 128, .int .u32 e1), (19, 129, .pointer (some ⟨w.heap.size, 2, none⟩)), (20, 130, .int .u32 b1), (21, 131, .pointer (some ⟨w.heap.size, 3, none⟩)), (22, 132, .int .u16 i1), (23, 133, .int .i64 i1), (24, 134, .pointer (some ⟨w.heap.size, 4, none⟩)), (25, 135, .int .u16 c1), (26, 136, .int .i64 c1), (27, 137, .pointer (some ⟨w.heap.size, 5, none⟩)), (28, 138, .int .u32 l1), (29, 139, .agg #[.int .u32 e1, .int .u32 b1, .int .i64 i1, .int .i64 c1, .int .u32 l1]), (30, 140, .bool true), (31, 141, .bool true), (32, 142, .bool true), (33, 2, .bool true)] ∧ (Below w.heap.size w w') ∧ (w'.heap[w.heap.size]? = some (.cells #[.int .u8 4, .int .u32 e1, .int .u32 b1, .int .u16 i1, .int .u16 c1, .int .u32 l1, .int .u32 m1] 25 (0, 0))) ∧ (w'.heap[db]? = some (.cells #[.int .u32 e1, .int .u32 b1, .int .i64 i1, .int .i64 c1, .int .u32 l1] 53 (0, 0)))) HT_.out HW_.out (by kernel_rfl) (by kernel_rfl) ?_ ?_ ?_
  · exact ⟨by simp only [putSel, Bool.false_eq_true, if_false], BB.out, HB.out, DB.out⟩
  · skip
    clear BB DB HB
    refine steps_cons ?_ ?_
    · rintro b a w' ⟨ha, Q_BB, Q_HB, Q_DB⟩ hb_ hon hoff
      refine ⟨_, rfl, fun K hK => ?_⟩
      have e112 : a.tmps[112]? = some (.bool false) := by rw [ha]; exact (putSel_off rfl).trans rfl
      replace ha := Aside0.mk ha
      have BB := Aside0.mk Q_BB
      have HB := Aside0.mk Q_HB
      have DB := Aside0.mk Q_DB
      refine off_ (wanted_off rfl rfl rfl (e112.trans (by first | rfl | (simp [*]; done)))) ?_
      refine hK.out _ _ ⟨(by rw [ha.out]; exact putSel_upk 0 hb_ rfl rfl rfl), Q_BB, Q_HB, Q_DB⟩
    refine steps_cons ?_ ?_
    · rintro b a w' ⟨ha, Q_BB, Q_HB, Q_DB⟩ hb_ hon hoff
      refine ⟨_, rfl, fun K hK => ?_⟩
      have e112 : a.tmps[112]? = some (.bool false) := by rw [ha]; exact (putSel_off rfl).trans rfl
      replace ha := Aside0.mk ha
      have BB := Aside0.mk Q_BB
      have HB := Aside0.mk Q_HB
      have DB := Aside0.mk Q_DB
      refine off_ (wanted_off rfl rfl rfl (e112.trans (by first | rfl | (simp [*]; done)))) ?_
      refine hK.out _ _ ⟨(by rw [ha.out]; exact putSel_upk 1 hb_ rfl rfl rfl), Q_BB, Q_HB, Q_DB⟩
    refine steps_cons ?_ ?_
    · rintro b a w' ⟨ha, Q_BB, Q_HB, Q_DB⟩ hb_ hon hoff
      refine ⟨_, rfl, fun K hK => ?_⟩
      have e112 : a.tmps[112]? = some (.bool false) := by rw [ha]; exact (putSel_off rfl).trans rfl
      replace ha := Aside0.mk ha
      have BB := Aside0.mk Q_BB
      have HB := Aside0.mk Q_HB
      have DB := Aside0.mk Q_DB
      refine off_ (wanted_off rfl rfl rfl (e112.trans (by first | rfl | (simp [*]; done)))) ?_
      refine hK.out _ _ ⟨(by rw [ha.out]; exact putSel_upk 2 hb_ rfl rfl rfl), Q_BB, Q_HB, Q_DB⟩
    refine steps_cons ?_ ?_
    · rintro b a w' ⟨ha, Q_BB, Q_HB, Q_DB⟩ hb_ hon hoff
      refine ⟨_, rfl, fun K hK => ?_⟩
      have e112 : a.tmps[112]? = some (.bool false) := by rw [ha]; exact (putSel_off rfl).trans rfl
      have e115 : a.tmps[115]? = some (undef) := by rw [ha]; exact putSel_on (e := (5, 115, undef)) 2 rfl rfl (hon 5 (by kernel_rfl)) rfl
      replace ha := Aside0.mk ha
      have BB := Aside0.mk Q_BB
      have HB := Aside0.mk Q_HB
      have DB := Aside0.mk Q_DB
      refine value_ (w1 := w') (v := .bool false) (by rfl) rfl ?_ ?_
      · go_simp
        (try simp only [i64_w])
        try rfl
      refine hK.out _ _ ⟨(by rw [ha.out]; exact putSel_upk 3 hb_ rfl rfl rfl), Q_BB, Q_HB, Q_DB⟩
    refine steps_cons ?_ ?_
    · rintro b a w' ⟨ha, Q_BB, Q_HB, Q_DB⟩ hb_ hon hoff
      refine ⟨_, rfl, fun K hK => ?_⟩
      have e116 : a.tmps[116]? = some (.bool false) := by rw [ha]; exact putSel_on (e := (6, 116, .bool false)) 3 rfl rfl (hon 6 (by kernel_rfl)) rfl
      replace ha := Aside0.mk ha
      have BB := Aside0.mk Q_BB
      have HB := Aside0.mk Q_HB
      have DB := Aside0.mk Q_DB
      refine value_ (w1 := w') (v := .bool false) (by rfl) rfl ?_ ?_
      · go_simp
        (try simp only [i64_w])
        try rfl
      refine hK.out _ _ ⟨(by rw [ha.out]; exact putSel_upk 4 hb_ rfl rfl rfl), Q_BB, Q_HB, Q_DB⟩
    refine steps_cons ?_ ?_
    · rintro b a w' ⟨ha, Q_BB, Q_HB, Q_DB⟩ hb_ hon hoff
      refine ⟨_, rfl, fun K hK => ?_⟩
      have e12 : a.tmps[12]? = some (.bool true) := by rw [ha]; exact (putSel_off rfl).trans rfl
      have e117 : a.tmps[117]? = some (.bool false) := by rw [ha]; exact putSel_on (e := (7, 117, .bool false)) 4 rfl rfl (hon 7 (by kernel_rfl)) rfl
      replace ha := Aside0.mk ha
      have BB := Aside0.mk Q_BB
      have HB := Aside0.mk Q_HB
      have DB := Aside0.mk Q_DB
      refine value_ (w1 := w') (v := .bool true) (wanted_on rfl rfl rfl (e117.trans (by first | rfl | (simp [*]; done)))) rfl ?_ ?_
      · go_simp
        (try simp only [i64_w])
        try rfl
      refine hK.out _ _ ⟨(by rw [ha.out]; exact putSel_upk 5 hb_ rfl rfl rfl), Q_BB, Q_HB, Q_DB⟩
    refine steps_cons ?_ ?_
    · rintro b a w' ⟨ha, Q_BB, Q_HB, Q_DB⟩ hb_ hon hoff
      refine ⟨_, rfl, fun K hK => ?_⟩
      have e118 : a.tmps[118]? = some (.bool true) := by rw [ha]; exact putSel_on (e := (8, 118, .bool true)) 5 rfl rfl (hon 8 (by kernel_rfl)) rfl
      have e117 : a.tmps[117]? = some (.bool false) := by rw [ha]; exact putSel_on (e := (7, 117, .bool false)) 4 rfl rfl (hon 7 (by kernel_rfl)) rfl
      replace ha := Aside0.mk ha
      have BB := Aside0.mk Q_BB
      have HB := Aside0.mk Q_HB
      have DB := Aside0.mk Q_DB
      refine value_ (w1 := w') (v := .bool true) (wanted_on rfl rfl rfl (e117.trans (by first | rfl | (simp [*]; done)))) rfl ?_ ?_
      · go_simp
        (try simp only [i64_w])
        try rfl
      refine hK.out _ _ ⟨(by rw [ha.out]; exact putSel_upk 6 hb_ rfl rfl rfl), Q_BB, Q_HB, Q_DB⟩
    refine steps_cons ?_ ?_
    · rintro b a w' ⟨ha, Q_BB, Q_HB, Q_DB⟩ hb_ hon hoff
      refine ⟨_, rfl, fun K hK => ?_⟩
      have e11 : a.tmps[11]? = some (.pointer (some ⟨db, 0, none⟩)) := by rw [ha]; exact (putSel_off rfl).trans rfl
      have e119 : a.tmps[119]? = some (.bool true) := by rw [ha]; exact putSel_on (e := (9, 119, .bool true)) 6 rfl rfl (hon 9 (by kernel_rfl)) rfl
      replace ha := Aside0.mk ha
      have BB := Aside0.mk Q_BB
      have HB := Aside0.mk Q_HB
      have DB := Aside0.mk Q_DB
      have hc0_ : w'.cell? ⟨db, 0, none⟩ = some (.int .u32 e1) := (blk_cell DB.out 0).trans rfl
      have hc1_ : w'.cell? ⟨db, 1, none⟩ = some (.int .u32 b1) := (blk_cell DB.out 1).trans rfl
      have hc2_ : w'.cell? ⟨db, 2, none⟩ = some (.int .i64 i1) := (blk_cell DB.out 2).trans rfl
      have hc3_ : w'.cell? ⟨db, 3, none⟩ = some (.int .i64 c1) := (blk_cell DB.out 3).trans rfl
      have hc4_ : w'.cell? ⟨db, 4, none⟩ = some (.int .u32 l1) := (blk_cell DB.out 4).trans rfl
      refine value_ (w1 := w') (v := .agg #[.int .u32 e1, .int .u32 b1, .int .i64 i1, .int .i64 c1, .int .u32 l1]) (wanted_on rfl rfl rfl (e119.trans (by first | rfl | (simp [*]; done)))) rfl ?_ ?_
      · go_simp
        (try simp only [i64_w])
        try rfl
      refine hK.out _ _ ⟨(by rw [ha.out]; exact putSel_upk 7 hb_ rfl rfl rfl), Q_BB, Q_HB, Q_DB⟩
    refine steps_cons ?_ ?_
    · rintro b a w' ⟨ha, Q_BB, Q_HB, Q_DB⟩ hb_ hon hoff
      refine ⟨_, rfl, fun K hK => ?_⟩
      have e3 : a.tmps[3]? = some (.iface 53 (.agg #[.int .u32 e1, .int .u32 b1, .int .i64 i1, .int .i64 c1, .int .u32 l1])) := by rw [ha]; exact (putSel_off rfl).trans rfl
      have e119 : a.tmps[119]? = some (.bool true) := by rw [ha]; exact putSel_on (e := (9, 119, .bool true)) 6 rfl rfl (hon 9 (by kernel_rfl)) rfl
      replace ha := Aside0.mk ha
      have BB := Aside0.mk Q_BB
      have HB := Aside0.mk Q_HB
      have DB := Aside0.mk Q_DB
      refine value_ (w1 := w') (v := .iface 53 (.agg #[.int .u32 e1, .int .u32 b1, .int .i64 i1, .int .i64 c1, .int .u32 l1])) (wanted_on rfl rfl rfl (e119.trans (by first | rfl | (simp [*]; done)))) rfl ?_ ?_
      · go_simp
        (try simp only [i64_w])
        try rfl
      refine hK.out _ _ ⟨(by rw [ha.out]; exact putSel_upk 8 hb_ rfl rfl rfl), Q_BB, Q_HB, Q_DB⟩
    refine steps_cons ?_ ?_
    · rintro b a w' ⟨ha, Q_BB, Q_HB, Q_DB⟩ hb_ hon hoff
      refine ⟨_, rfl, fun K hK => ?_⟩
      have e121 : a.tmps[121]? = some (.iface 53 (.agg #[.int .u32 e1, .int .u32 b1, .int .i64 i1, .int .i64 c1, .int .u32 l1])) := by rw [ha]; exact putSel_on (e := (11, 121, .iface 53 (.agg #[.int .u32 e1, .int .u32 b1, .int .i64 i1, .int .i64 c1, .int .u32 l1]))) 8 rfl rfl (hon 11 (by kernel_rfl)) rfl
      have e119 : a.tmps[119]? = some (.bool true) := by rw [ha]; exact putSel_on (e := (9, 119, .bool true)) 6 rfl rfl (hon 9 (by kernel_rfl)) rfl
      replace ha := Aside0.mk ha
      have BB := Aside0.mk Q_BB
      have HB := Aside0.mk Q_HB
      have DB := Aside0.mk Q_DB
      refine goes_ Try.func23 (by kernel_rfl) rfl #[.iface 53 (.agg #[.int .u32 e1, .int .u32 b1, .int .i64 i1, .int .i64 c1, .int .u32 l1])] (wanted_on rfl rfl rfl (e119.trans (by first | rfl | (simp [*]; done)))) rfl rfl (by first | (simp only [List.map_toArray, List.map_cons, List.map_nil, Act.eval, Array.getD_eq_getD_getElem?, Option.getD_some, e121, e119]; done) | (simp only [List.map_toArray, List.map_cons, List.map_nil, Act.eval, Array.getD_eq_getD_getElem?, Option.getD_some, e121, e119]; rfl)) ?_
      refine (must_Data e1 b1 i1 c1 l1 m1 w').mono ?_
      rintro e w1 ⟨g1, rfl⟩
      refine ⟨_, rfl, ?_⟩
      refine hK.out _ _ ⟨(by rw [ha.out]; exact putSel_upk 9 hb_ rfl rfl rfl), bl_seq BB.out g1, blk_below HB.out g1, blk_below DB.out g1⟩
    refine steps_cons ?_ ?_
    · rintro b a w' ⟨ha, Q_BB, Q_HB, Q_DB⟩ hb_ hon hoff
      refine ⟨_, rfl, fun K hK => ?_⟩
      have e120 : a.tmps[120]? = some (.agg #[.int .u32 e1, .int .u32 b1, .int .i64 i1, .int .i64 c1, .int .u32 l1]) := by rw [ha]; exact putSel_on (e := (10, 120, .agg #[.int .u32 e1, .int .u32 b1, .int .i64 i1, .int .i64 c1, .int .u32 l1])) 7 rfl rfl (hon 10 (by kernel_rfl)) rfl
      have e122 : a.tmps[122]? = some (.agg #[.int .u32 e1, .int .u32 b1, .int .i64 i1, .int .i64 c1, .int .u32 l1]) := by rw [ha]; exact putSel_on (e := (12, 122, .agg #[.int .u32 e1, .int .u32 b1, .int .i64 i1, .int .i64 c1, .int .u32 l1])) 9 rfl rfl (hon 12 (by kernel_rfl)) rfl
      have e119 : a.tmps[119]? = some (.bool true) := by rw [ha]; exact putSel_on (e := (9, 119, .bool true)) 6 rfl rfl (hon 9 (by kernel_rfl)) rfl
      replace ha := Aside0.mk ha
      have BB := Aside0.mk Q_BB
      have HB := Aside0.mk Q_HB
      have DB := Aside0.mk Q_DB
      refine value_ (w1 := w') (v := .bool true) (wanted_on rfl rfl rfl (e119.trans (by first | rfl | (simp [*]; done)))) rfl ?_ ?_
      · have h_ := eqDP e1 b1 i1 c1 l1 w'
        go_simp
        try simp [h_]
      refine hK.out _ _ ⟨(by rw [ha.out]; exact putSel_upk 10 hb_ rfl rfl rfl), BB.out, HB.out, DB.out⟩
    refine steps_cons ?_ ?_
    · rintro b a w' ⟨ha, Q_BB, Q_HB, Q_DB⟩ hb_ hon hoff
      refine ⟨_, rfl, fun K hK => ?_⟩
      have e119 : a.tmps[119]? = some (.bool true) := by rw [ha]; exact putSel_on (e := (9, 119, .bool true)) 6 rfl rfl (hon 9 (by kernel_rfl)) rfl
      have e123 : a.tmps[123]? = some (.bool true) := by rw [ha]; exact putSel_on (e := (13, 123, .bool true)) 10 rfl rfl (hon 13 (by kernel_rfl)) rfl
      have e117 : a.tmps[117]? = some (.bool false) := by rw [ha]; exact putSel_on (e := (7, 117, .bool false)) 4 rfl rfl (hon 7 (by kernel_rfl)) rfl
      replace ha := Aside0.mk ha
      have BB := Aside0.mk Q_BB
      have HB := Aside0.mk Q_HB
      have DB := Aside0.mk Q_DB
      refine value_ (w1 := w') (v := .bool true) (wanted_on rfl rfl rfl (e117.trans (by first | rfl | (simp [*]; done)))) rfl ?_ ?_
      · go_simp
        (try simp only [i64_w])
        try rfl
      refine hK.out _ _ ⟨(by rw [ha.out]; exact putSel_upk 11 hb_ rfl rfl rfl), Q_BB, Q_HB, Q_DB⟩
    refine steps_cons ?_ ?_
    · rintro b a w' ⟨ha, Q_BB, Q_HB, Q_DB⟩ hb_ hon hoff
      refine ⟨_, rfl, fun K hK => ?_⟩
      have e124 : a.tmps[124]? = some (.bool true) := by rw [ha]; exact putSel_on (e := (14, 124, .bool true)) 11 rfl rfl (hon 14 (by kernel_rfl)) rfl
      have e117 : a.tmps[117]? = some (.bool false) := by rw [ha]; exact putSel_on (e := (7, 117, .bool false)) 4 rfl rfl (hon 7 (by kernel_rfl)) rfl
      replace ha := Aside0.mk ha
      have BB := Aside0.mk Q_BB
      have HB := Aside0.mk Q_HB
      have DB := Aside0.mk Q_DB
      refine value_ (w1 := w') (v := .bool true) (wanted_on rfl rfl rfl (e117.trans (by first | rfl | (simp [*]; done)))) rfl ?_ ?_
      · go_simp
        (try simp only [i64_w])
        try rfl
      refine hK.out _ _ ⟨(by rw [ha.out]; exact putSel_upk 12 hb_ rfl rfl rfl), Q_BB, Q_HB, Q_DB⟩
    refine steps_cons ?_ ?_
    · rintro b a w' ⟨ha, Q_BB, Q_HB, Q_DB⟩ hb_ hon hoff
      refine ⟨_, rfl, fun K hK => ?_⟩
      have e11 : a.tmps[11]? = some (.pointer (some ⟨db, 0, none⟩)) := by rw [ha]; exact (putSel_off rfl).trans rfl
      have e125 : a.tmps[125]? = some (.bool true) := by rw [ha]; exact putSel_on (e := (15, 125, .bool true)) 12 rfl rfl (hon 15 (by kernel_rfl)) rfl
      replace ha := Aside0.mk ha
      have BB := Aside0.mk Q_BB
      have HB := Aside0.mk Q_HB
      have DB := Aside0.mk Q_DB
      have hc0_ : w'.cell? ⟨db, 0, none⟩ = some (.int .u32 e1) := (blk_cell DB.out 0).trans rfl
      have hc1_ : w'.cell? ⟨db, 1, none⟩ = some (.int .u32 b1) := (blk_cell DB.out 1).trans rfl
      have hc2_ : w'.cell? ⟨db, 2, none⟩ = some (.int .i64 i1) := (blk_cell DB.out 2).trans rfl
      have hc3_ : w'.cell? ⟨db, 3, none⟩ = some (.int .i64 c1) := (blk_cell DB.out 3).trans rfl
      have hc4_ : w'.cell? ⟨db, 4, none⟩ = some (.int .u32 l1) := (blk_cell DB.out 4).trans rfl
      refine value_ (w1 := w') (v := .agg #[.int .u32 e1, .int .u32 b1, .int .i64 i1, .int .i64 c1, .int .u32 l1]) (wanted_on rfl rfl rfl (e125.trans (by first | rfl | (simp [*]; done)))) rfl ?_ ?_
      · go_simp
        (try simp only [i64_w])
        try rfl
      refine hK.out _ _ ⟨(by rw [ha.out]; exact putSel_upk 13 hb_ rfl rfl rfl), Q_BB, Q_HB, Q_DB⟩
    refine steps_cons ?_ ?_
    · rintro b a w' ⟨ha, Q_BB, Q_HB, Q_DB⟩ hb_ hon hoff
      refine ⟨_, rfl, fun K hK => ?_⟩
      have e1 : a.tmps[1]? = some (.pointer (some ⟨w.heap.size, 0, none⟩)) := by rw [ha]; exact (putSel_off rfl).trans rfl
      have e125 : a.tmps[125]? = some (.bool true) := by rw [ha]; exact putSel_on (e := (15, 125, .bool true)) 12 rfl rfl (hon 15 (by kernel_rfl)) rfl
      replace ha := Aside0.mk ha
      have BB := Aside0.mk Q_BB
      have HB := Aside0.mk Q_HB
      have DB := Aside0.mk Q_DB
      refine value_ (w1 := w') (v := .pointer (some ⟨w.heap.size, 1, none⟩)) (wanted_on rfl rfl rfl (e125.trans (by first | rfl | (simp [*]; done)))) rfl ?_ ?_
      · go_simp
        (try simp only [i64_w])
        try rfl
      refine hK.out _ _ ⟨(by rw [ha.out]; exact putSel_upk 14 hb_ rfl rfl rfl), Q_BB, Q_HB, Q_DB⟩
    refine steps_cons ?_ ?_
    · rintro b a w' ⟨ha, Q_BB, Q_HB, Q_DB⟩ hb_ hon hoff
      refine ⟨_, rfl, fun K hK => ?_⟩
      have e127 : a.tmps[127]? = some (.pointer (some ⟨w.heap.size, 1, none⟩)) := by rw [ha]; exact putSel_on (e := (17, 127, .pointer (some ⟨w.heap.size, 1, none⟩))) 14 rfl rfl (hon 17 (by kernel_rfl)) rfl
      have e125 : a.tmps[125]? = some (.bool true) := by rw [ha]; exact putSel_on (e := (15, 125, .bool true)) 12 rfl rfl (hon 15 (by kernel_rfl)) rfl
      replace ha := Aside0.mk ha
      have BB := Aside0.mk Q_BB
      have HB := Aside0.mk Q_HB
      have DB := Aside0.mk Q_DB
      have hc_ : w'.cell? ⟨w.heap.size, 1, none⟩ = some (.int .u32 e1) := (blk_cell HB.out 1).trans rfl
      refine value_ (w1 := w') (v := .int .u32 e1) (wanted_on rfl rfl rfl (e125.trans (by first | rfl | (simp [*]; done)))) rfl ?_ ?_
      · go_simp
        (try simp only [i64_w])
        try rfl
      refine hK.out _ _ ⟨(by rw [ha.out]; exact putSel_upk 15 hb_ rfl rfl rfl), Q_BB, Q_HB, Q_DB⟩
    refine steps_cons ?_ ?_
    · rintro b a w' ⟨ha, Q_BB, Q_HB, Q_DB⟩ hb_ hon hoff
      refine ⟨_, rfl, fun K hK => ?_⟩
      have e1 : a.tmps[1]? = some (.pointer (some ⟨w.heap.size, 0, none⟩)) := by rw [ha]; exact (putSel_off rfl).trans rfl
      have e125 : a.tmps[125]? = some (.bool true) := by rw [ha]; exact putSel_on (e := (15, 125, .bool true)) 12 rfl rfl (hon 15 (by kernel_rfl)) rfl
      replace ha := Aside0.mk ha
      have BB := Aside0.mk Q_BB
      have HB := Aside0.mk Q_HB
      have DB := Aside0.mk Q_DB
      refine value_ (w1 := w') (v := .pointer (some ⟨w.heap.size, 2, none⟩)) (wanted_on rfl rfl rfl (e125.trans (by first | rfl | (simp [*]; done)))) rfl ?_ ?_
      · go_simp
        (try simp only [i64_w])
        try rfl
      refine hK.out _ _ ⟨(by rw [ha.out]; exact putSel_upk 16 hb_ rfl rfl rfl), Q_BB, Q_HB, Q_DB⟩
    refine steps_cons ?_ ?_
    · rintro b a w' ⟨ha, Q_BB, Q_HB, Q_DB⟩ hb_ hon hoff
      refine ⟨_, rfl, fun K hK => ?_⟩
      have e129 : a.tmps[129]? = some (.pointer (some ⟨w.heap.size, 2, none⟩)) := by rw [ha]; exact putSel_on (e := (19, 129, .pointer (some ⟨w.heap.size, 2, none⟩))) 16 rfl rfl (hon 19 (by kernel_rfl)) rfl
      have e125 : a.tmps[125]? = some (.bool true) := by rw [ha]; exact putSel_on (e := (15, 125, .bool true)) 12 rfl rfl (hon 15 (by kernel_rfl)) rfl
      replace ha := Aside0.mk ha
      have BB := Aside0.mk Q_BB
      have HB := Aside0.mk Q_HB
      have DB := Aside0.mk Q_DB
      have hc_ : w'.cell? ⟨w.heap.size, 2, none⟩ = some (.int .u32 b1) := (blk_cell HB.out 2).trans rfl
      refine value_ (w1 := w') (v := .int .u32 b1) (wanted_on rfl rfl rfl (e125.trans (by first | rfl | (simp [*]; done)))) rfl ?_ ?_
      · go_simp
        (try simp only [i64_w])
        try rfl
      refine hK.out _ _ ⟨(by rw [ha.out]; exact putSel_upk 17 hb_ rfl rfl rfl), Q_BB, Q_HB, Q_DB⟩
    refine steps_cons ?_ ?_
    · rintro b a w' ⟨ha, Q_BB, Q_HB, Q_DB⟩ hb_ hon hoff
      refine ⟨_, rfl, fun K hK => ?_⟩
      have e1 : a.tmps[1]? = some (.pointer (some ⟨w.heap.size, 0, none⟩)) := by rw [ha]; exact (putSel_off rfl).trans rfl
      have e125 : a.tmps[125]? = some (.bool true) := by rw [ha]; exact putSel_on (e := (15, 125, .bool true)) 12 rfl rfl (hon 15 (by kernel_rfl)) rfl
      replace ha := Aside0.mk ha
      have BB := Aside0.mk Q_BB
      have HB := Aside0.mk Q_HB
      have DB := Aside0.mk Q_DB
      refine value_ (w1 := w') (v := .pointer (some ⟨w.heap.size, 3, none⟩)) (wanted_on rfl rfl rfl (e125.trans (by first | rfl | (simp [*]; done)))) rfl ?_ ?_
      · go_simp
        (try simp only [i64_w])
        try rfl
      refine hK.out _ _ ⟨(by rw [ha.out]; exact putSel_upk 18 hb_ rfl rfl rfl), Q_BB, Q_HB, Q_DB⟩
    refine steps_cons ?_ ?_
    · rintro b a w' ⟨ha, Q_BB, Q_HB, Q_DB⟩ hb_ hon hoff
      refine ⟨_, rfl, fun K hK => ?_⟩
      have e131 : a.tmps[131]? = some (.pointer (some ⟨w.heap.size, 3, none⟩)) := by rw [ha]; exact putSel_on (e := (21, 131, .pointer (some ⟨w.heap.size, 3, none⟩))) 18 rfl rfl (hon 21 (by kernel_rfl)) rfl
      have e125 : a.tmps[125]? = some (.bool true) := by rw [ha]; exact putSel_on (e := (15, 125, .bool true)) 12 rfl rfl (hon 15 (by kernel_rfl)) rfl
      replace ha := Aside0.mk ha
      have BB := Aside0.mk Q_BB
      have HB := Aside0.mk Q_HB
      have DB := Aside0.mk Q_DB
      have hc_ : w'.cell? ⟨w.heap.size, 3, none⟩ = some (.int .u16 i1) := (blk_cell HB.out 3).trans rfl
      refine value_ (w1 := w') (v := .int .u16 i1) (wanted_on rfl rfl rfl (e125.trans (by first | rfl | (simp [*]; done)))) rfl ?_ ?_
      · go_simp
        (try simp only [i64_w])
        try rfl
      refine hK.out _ _ ⟨(by rw [ha.out]; exact putSel_upk 19 hb_ rfl rfl rfl), Q_BB, Q_HB, Q_DB⟩
    refine steps_cons ?_ ?_
    · rintro b a w' ⟨ha, Q_BB, Q_HB, Q_DB⟩ hb_ hon hoff
      refine ⟨_, rfl, fun K hK => ?_⟩
      have e132 : a.tmps[132]? = some (.int .u16 i1) := by rw [ha]; exact putSel_on (e := (22, 132, .int .u16 i1)) 19 rfl rfl (hon 22 (by kernel_rfl)) rfl
      have e125 : a.tmps[125]? = some (.bool true) := by rw [ha]; exact putSel_on (e := (15, 125, .bool true)) 12 rfl rfl (hon 15 (by kernel_rfl)) rfl
      replace ha := Aside0.mk ha
      have BB := Aside0.mk Q_BB
      have HB := Aside0.mk Q_HB
      have DB := Aside0.mk Q_DB
      refine value_ (w1 := w') (v := .int .i64 i1) (wanted_on rfl rfl rfl (e125.trans (by first | rfl | (simp [*]; done)))) rfl ?_ ?_
      · go_simp
        exact WI.out
      refine hK.out _ _ ⟨(by rw [ha.out]; exact putSel_upk 20 hb_ rfl rfl rfl), BB.out, HB.out, DB.out⟩
    refine steps_cons ?_ ?_
    · rintro b a w' ⟨ha, Q_BB, Q_HB, Q_DB⟩ hb_ hon hoff
      refine ⟨_, rfl, fun K hK => ?_⟩
      have e1 : a.tmps[1]? = some (.pointer (some ⟨w.heap.size, 0, none⟩)) := by rw [ha]; exact (putSel_off rfl).trans rfl
      have e125 : a.tmps[125]? = some (.bool true) := by rw [ha]; exact putSel_on (e := (15, 125, .bool true)) 12 rfl rfl (hon 15 (by kernel_rfl)) rfl
      replace ha := Aside0.mk ha
      have BB := Aside0.mk Q_BB
      have HB := Aside0.mk Q_HB
      have DB := Aside0.mk Q_DB
      refine value_ (w1 := w') (v := .pointer (some ⟨w.heap.size, 4, none⟩)) (wanted_on rfl rfl rfl (e125.trans (by first | rfl | (simp [*]; done)))) rfl ?_ ?_
      · go_simp
        (try simp only [i64_w])
        try rfl
      refine hK.out _ _ ⟨(by rw [ha.out]; exact putSel_upk 21 hb_ rfl rfl rfl), Q_BB, Q_HB, Q_DB⟩
    refine steps_cons ?_ ?_
    · rintro b a w' ⟨ha, Q_BB, Q_HB, Q_DB⟩ hb_ hon hoff
      refine ⟨_, rfl, fun K hK => ?_⟩
      have e134 : a.tmps[134]? = some (.pointer (some ⟨w.heap.size, 4, none⟩)) := by rw [ha]; exact putSel_on (e := (24, 134, .pointer (some ⟨w.heap.size, 4, none⟩))) 21 rfl rfl (hon 24 (by kernel_rfl)) rfl
      have e125 : a.tmps[125]? = some (.bool true) := by rw [ha]; exact putSel_on (e := (15, 125, .bool true)) 12 rfl rfl (hon 15 (by kernel_rfl)) rfl
      replace ha := Aside0.mk ha
      have BB := Aside0.mk Q_BB
      have HB := Aside0.mk Q_HB
      have DB := Aside0.mk Q_DB
      have hc_ : w'.cell? ⟨w.heap.size, 4, none⟩ = some (.int .u16 c1) := (blk_cell HB.out 4).trans rfl
      refine value_ (w1 := w') (v := .int .u16 c1) (wanted_on rfl rfl rfl (e125.trans (by first | rfl | (simp [*]; done)))) rfl ?_ ?_
      · go_simp
        (try simp only [i64_w])
        try rfl
      refine hK.out _ _ ⟨(by rw [ha.out]; exact putSel_upk 22 hb_ rfl rfl rfl), Q_BB, Q_HB, Q_DB⟩
    refine steps_cons ?_ ?_
    · rintro b a w' ⟨ha, Q_BB, Q_HB, Q_DB⟩ hb_ hon hoff
      refine ⟨_, rfl, fun K hK => ?_⟩
      have e135 : a.tmps[135]? = some (.int .u16 c1) := by rw [ha]; exact putSel_on (e := (25, 135, .int .u16 c1)) 22 rfl rfl (hon 25 (by kernel_rfl)) rfl
      have e125 : a.tmps[125]? = some (.bool true) := by rw [ha]; exact putSel_on (e := (15, 125, .bool true)) 12 rfl rfl (hon 15 (by kernel_rfl)) rfl
      replace ha := Aside0.mk ha
      have BB := Aside0.mk Q_BB
      have HB := Aside0.mk Q_HB
      have DB := Aside0.mk Q_DB
      refine value_ (w1 := w') (v := .int .i64 c1) (wanted_on rfl rfl rfl (e125.trans (by first | rfl | (simp [*]; done)))) rfl ?_ ?_
      · go_simp
        exact WC.out
      refine hK.out _ _ ⟨(by rw [ha.out]; exact putSel_upk 23 hb_ rfl rfl rfl), BB.out, HB.out, DB.out⟩
    refine steps_cons ?_ ?_
    · rintro b a w' ⟨ha, Q_BB, Q_HB, Q_DB⟩ hb_ hon hoff
      refine ⟨_, rfl, fun K hK => ?_⟩
      have e1 : a.tmps[1]? = some (.pointer (some ⟨w.heap.size, 0, none⟩)) := by rw [ha]; exact (putSel_off rfl).trans rfl
      have e125 : a.tmps[125]? = some (.bool true) := by rw [ha]; exact putSel_on (e := (15, 125, .bool true)) 12 rfl rfl (hon 15 (by kernel_rfl)) rfl
      replace ha := Aside0.mk ha
      have BB := Aside0.mk Q_BB
      have HB := Aside0.mk Q_HB
      have DB := Aside0.mk Q_DB
      refine value_ (w1 := w') (v := .pointer (some ⟨w.heap.size, 5, none⟩)) (wanted_on rfl rfl rfl (e125.trans (by first | rfl | (simp [*]; done)))) rfl ?_ ?_
      · go_simp
        (try simp only [i64_w])
        try rfl
      refine hK.out _ _ ⟨(by rw [ha.out]; exact putSel_upk 24 hb_ rfl rfl rfl), Q_BB, Q_HB, Q_DB⟩
    refine steps_cons ?_ ?_
    · rintro b a w' ⟨ha, Q_BB, Q_HB, Q_DB⟩ hb_ hon hoff
      refine ⟨_, rfl, fun K hK => ?_⟩
      have e137 : a.tmps[137]? = some (.pointer (some ⟨w.heap.size, 5, none⟩)) := by rw [ha]; exact putSel_on (e := (27, 137, .pointer (some ⟨w.heap.size, 5, none⟩))) 24 rfl rfl (hon 27 (by kernel_rfl)) rfl
      have e125 : a.tmps[125]? = some (.bool true) := by rw [ha]; exact putSel_on (e := (15, 125, .bool true)) 12 rfl rfl (hon 15 (by kernel_rfl)) rfl
      replace ha := Aside0.mk ha
      have BB := Aside0.mk Q_BB
      have HB := Aside0.mk Q_HB
      have DB := Aside0.mk Q_DB
      have hc_ : w'.cell? ⟨w.heap.size, 5, none⟩ = some (.int .u32 l1) := (blk_cell HB.out 5).trans rfl
      refine value_ (w1 := w') (v := .int .u32 l1) (wanted_on rfl rfl rfl (e125.trans (by first | rfl | (simp [*]; done)))) rfl ?_ ?_
      · go_simp
        (try simp only [i64_w])
        try rfl
      refine hK.out _ _ ⟨(by rw [ha.out]; exact putSel_upk 25 hb_ rfl rfl rfl), Q_BB, Q_HB, Q_DB⟩
    refine steps_cons ?_ ?_
    · rintro b a w' ⟨ha, Q_BB, Q_HB, Q_DB⟩ hb_ hon hoff
      refine ⟨_, rfl, fun K hK => ?_⟩
      have e128 : a.tmps[128]? = some (.int .u32 e1) := by rw [ha]; exact putSel_on (e := (18, 128, .int .u32 e1)) 15 rfl rfl (hon 18 (by kernel_rfl)) rfl
      have e130 : a.tmps[130]? = some (.int .u32 b1) := by rw [ha]; exact putSel_on (e := (20, 130, .int .u32 b1)) 17 rfl rfl (hon 20 (by kernel_rfl)) rfl
      have e133 : a.tmps[133]? = some (.int .i64 i1) := by rw [ha]; exact putSel_on (e := (23, 133, .int .i64 i1)) 20 rfl rfl (hon 23 (by kernel_rfl)) rfl
      have e136 : a.tmps[136]? = some (.int .i64 c1) := by rw [ha]; exact putSel_on (e := (26, 136, .int .i64 c1)) 23 rfl rfl (hon 26 (by kernel_rfl)) rfl
      have e138 : a.tmps[138]? = some (.int .u32 l1) := by rw [ha]; exact putSel_on (e := (28, 138, .int .u32 l1)) 25 rfl rfl (hon 28 (by kernel_rfl)) rfl
      have e125 : a.tmps[125]? = some (.bool true) := by rw [ha]; exact putSel_on (e := (15, 125, .bool true)) 12 rfl rfl (hon 15 (by kernel_rfl)) rfl
      replace ha := Aside0.mk ha
      have BB := Aside0.mk Q_BB
      have HB := Aside0.mk Q_HB
      have DB := Aside0.mk Q_DB
      refine value_ (w1 := w') (v := .agg #[.int .u32 e1, .int .u32 b1, .int .i64 i1, .int .i64 c1, .int .u32 l1]) (wanted_on rfl rfl rfl (e125.trans (by first | rfl | (simp [*]; done)))) rfl ?_ ?_
      · go_simp
        (try simp only [i64_w])
        try rfl
      refine hK.out _ _ ⟨(by rw [ha.out]; exact putSel_upk 26 hb_ rfl rfl rfl), Q_BB, Q_HB, Q_DB⟩
    refine steps_cons ?_ ?_
    · rintro b a w' ⟨ha, Q_BB, Q_HB, Q_DB⟩ hb_ hon hoff
      refine ⟨_, rfl, fun K hK => ?_⟩
      have e126 : a.tmps[126]? = some (.agg #[.int .u32 e1, .int .u32 b1, .int .i64 i1, .int .i64 c1, .int .u32 l1]) := by rw [ha]; exact putSel_on (e := (16, 126, .agg #[.int .u32 e1, .int .u32 b1, .int .i64 i1, .int .i64 c1, .int .u32 l1])) 13 rfl rfl (hon 16 (by kernel_rfl)) rfl
      have e139 : a.tmps[139]? = some (.agg #[.int .u32 e1, .int .u32 b1, .int .i64 i1, .int .i64 c1, .int .u32 l1]) := by rw [ha]; exact putSel_on (e := (29, 139, .agg #[.int .u32 e1, .int .u32 b1, .int .i64 i1, .int .i64 c1, .int .u32 l1])) 26 rfl rfl (hon 29 (by kernel_rfl)) rfl
      have e125 : a.tmps[125]? = some (.bool true) := by rw [ha]; exact putSel_on (e := (15, 125, .bool true)) 12 rfl rfl (hon 15 (by kernel_rfl)) rfl
      replace ha := Aside0.mk ha
      have BB := Aside0.mk Q_BB
      have HB := Aside0.mk Q_HB
      have DB := Aside0.mk Q_DB
      refine value_ (w1 := w') (v := .bool true) (wanted_on rfl rfl rfl (e125.trans (by first | rfl | (simp [*]; done)))) rfl ?_ ?_
      · have h_ := eqDP e1 b1 i1 c1 l1 w'
        go_simp
        try simp [h_]
      refine hK.out _ _ ⟨(by rw [ha.out]; exact putSel_upk 27 hb_ rfl rfl rfl), BB.out, HB.out, DB.out⟩
    refine steps_cons ?_ ?_
    · rintro b a w' ⟨ha, Q_BB, Q_HB, Q_DB⟩ hb_ hon hoff
      refine ⟨_, rfl, fun K hK => ?_⟩
      have e125 : a.tmps[125]? = some (.bool true) := by rw [ha]; exact putSel_on (e := (15, 125, .bool true)) 12 rfl rfl (hon 15 (by kernel_rfl)) rfl
      have e140 : a.tmps[140]? = some (.bool true) := by rw [ha]; exact putSel_on (e := (30, 140, .bool true)) 27 rfl rfl (hon 30 (by kernel_rfl)) rfl
      have e117 : a.tmps[117]? = some (.bool false) := by rw [ha]; exact putSel_on (e := (7, 117, .bool false)) 4 rfl rfl (hon 7 (by kernel_rfl)) rfl
      replace ha := Aside0.mk ha
      have BB := Aside0.mk Q_BB
      have HB := Aside0.mk Q_HB
      have DB := Aside0.mk Q_DB
      refine value_ (w1 := w') (v := .bool true) (wanted_on rfl rfl rfl (e117.trans (by first | rfl | (simp [*]; done)))) rfl ?_ ?_
      · go_simp
        (try simp only [i64_w])
        try rfl
      refine hK.out _ _ ⟨(by rw [ha.out]; exact putSel_upk 28 hb_ rfl rfl rfl), Q_BB, Q_HB, Q_DB⟩
    refine steps_cons ?_ ?_
    · rintro b a w' ⟨ha, Q_BB, Q_HB, Q_DB⟩ hb_ hon hoff
      refine ⟨_, rfl, fun K hK => ?_⟩
      have e117 : a.tmps[117]? = some (.bool false) := by rw [ha]; exact putSel_on (e := (7, 117, .bool false)) 4 rfl rfl (hon 7 (by kernel_rfl)) rfl
      have e141 : a.tmps[141]? = some (.bool true) := by rw [ha]; exact putSel_on (e := (31, 141, .bool true)) 28 rfl rfl (hon 31 (by kernel_rfl)) rfl
      replace ha := Aside0.mk ha
      have BB := Aside0.mk Q_BB
      have HB := Aside0.mk Q_HB
      have DB := Aside0.mk Q_DB
      refine value_ (w1 := w') (v := .bool true) (by rfl) rfl ?_ ?_
      · go_simp
        (try simp only [i64_w])
        try rfl
      refine hK.out _ _ ⟨(by rw [ha.out]; exact putSel_upk 29 hb_ rfl rfl rfl), Q_BB, Q_HB, Q_DB⟩
    refine steps_cons ?_ ?_
    · rintro b a w' ⟨ha, Q_BB, Q_HB, Q_DB⟩ hb_ hon hoff
      refine ⟨_, rfl, fun K hK => ?_⟩
      have e142 : a.tmps[142]? = some (.bool true) := by rw [ha]; exact putSel_on (e := (32, 142, .bool true)) 29 rfl rfl (hon 32 (by kernel_rfl)) rfl
      replace ha := Aside0.mk ha
      have BB := Aside0.mk Q_BB
      have HB := Aside0.mk Q_HB
      have DB := Aside0.mk Q_DB
      refine value_ (w1 := w') (v := .bool true) (by rfl) rfl ?_ ?_
      · go_simp
        (try simp only [i64_w])
        try rfl
      refine hK.out _ _ ⟨(by rw [ha.out]; exact putSel_upk 30 hb_ rfl rfl rfl), Q_BB, Q_HB, Q_DB⟩
    exact steps_nil
  · rintro b a w' hall ⟨ha, Q_BB, Q_HB, Q_DB⟩
    clear BB DB HB
    have hb3_ := hall 3 (by kernel_rfl)
    have hb4_ := hall 4 (by kernel_rfl)
    have hb5_ := hall 5 (by kernel_rfl)
    have hb6_ := hall 6 (by kernel_rfl)
    have hb7_ := hall 7 (by kernel_rfl)
    have hb8_ := hall 8 (by kernel_rfl)
    have hb9_ := hall 9 (by kernel_rfl)
    have hb10_ := hall 10 (by kernel_rfl)
    have hb11_ := hall 11 (by kernel_rfl)
    have hb12_ := hall 12 (by kernel_rfl)
    have hb13_ := hall 13 (by kernel_rfl)
    have hb14_ := hall 14 (by kernel_rfl)
    have hb15_ := hall 15 (by kernel_rfl)
    have hb16_ := hall 16 (by kernel_rfl)
    have hb17_ := hall 17 (by kernel_rfl)
    have hb18_ := hall 18 (by kernel_rfl)
    have hb19_ := hall 19 (by kernel_rfl)
    have hb20_ := hall 20 (by kernel_rfl)
    have hb21_ := hall 21 (by kernel_rfl)
    have hb22_ := hall 22 (by kernel_rfl)
    have hb23_ := hall 23 (by kernel_rfl)
    have hb24_ := hall 24 (by kernel_rfl)
    have hb25_ := hall 25 (by kernel_rfl)
    have hb26_ := hall 26 (by kernel_rfl)
    have hb27_ := hall 27 (by kernel_rfl)
    have hb28_ := hall 28 (by kernel_rfl)
    have hb29_ := hall 29 (by kernel_rfl)
    have hb30_ := hall 30 (by kernel_rfl)
    have hb31_ := hall 31 (by kernel_rfl)
    have hb32_ := hall 32 (by kernel_rfl)
    have hb33_ := hall 33 (by kernel_rfl)
    subst ha
    simp only [putSel, hb3_, hb4_, hb5_, hb6_, hb7_, hb8_, hb9_, hb10_, hb11_, hb12_, hb13_, hb14_, hb15_, hb16_, hb17_, hb18_, hb19_, hb20_, hb21_, hb22_, hb23_, hb24_, hb25_, hb26_, hb27_, hb28_, hb29_, hb30_, hb31_, hb32_, hb33_, if_true, Act.put, List.setIfInBounds_toArray, List.set_cons_zero, List.set_cons_succ]
    have BB := Aside0.mk Q_BB
    clear Q_BB
    have HB := Aside0.mk Q_HB
    clear Q_HB
    have DB := Aside0.mk Q_DB
    clear Q_DB
    clear hall hb3_ hb4_ hb5_ hb6_ hb7_ hb8_ hb9_ hb10_ hb11_ hb12_ hb13_ hb14_ hb15_ hb16_ hb17_ hb18_ hb19_ hb20_ hb21_ hb22_ hb23_ hb24_ hb25_ hb26_ hb27_ hb28_ hb29_ hb30_ hb31_ hb32_ hb33_
    have TE := Lib.hid BB.out
    go_wp2_with fail
    go_ret
    exact ⟨rfl, TE.out⟩
set_option maxHeartbeats 8000000 in
set_option maxRecDepth 100000 in
theorem rtells_Parity (e1 b1 i1 c1 l1 m1 : Int) (w : World) (i0 : 0 ≤ i1) (i9 : i1 ≤ 65535) (c0 : 0 ≤ c1) (c9 : c1 ≤ 65535) : Calls Try.prog 9 #[.agg #[.int .u8 5, .int .u32 e1, .int .u32 b1, .int .u16 i1, .int .u16 c1, .int .u32 l1, .int .u32 m1]] w fun e w' => e = .returned (.bool true) ∧ Below w.heap.size w w' := by
  have WI := Lib.hid (i64w (i := i1) (by omega) (by omega))
  have WC := Lib.hid (i64w (i := c1) (by omega) (by omega))
  have HS0 := fun (W : World) => saidk_Parity e1 b1 i1 c1 l1 m1 W i0 i9 c0 c9
  have HE0 := fun (W : World) => epoch_Parity e1 b1 i1 c1 l1 m1 W i0 i9 c0 c9
  have HT0 := fun (W : World) => tell_Parity e1 b1 i1 c1 l1 m1 W i0 i9 c0 c9
  have HS := Lib.hid (And.intro HS0 (And.intro HE0 HT0))
  clear i0 i9 c0 c9 HS0 HE0 HT0
  go_enter Try.func9, Try.ntmps9
  go_wp2_with fail
  have hb : (w.alloc (.cells #[.int .u8 5, .int .u32 e1, .int .u32 b1, .int .u16 i1, .int .u16 c1, .int .u32 l1, .int .u32 m1] 25)).heap[w.heap.size]? = some (.cells #[.int .u8 5, .int .u32 e1, .int .u32 b1, .int .u16 i1, .int .u16 c1, .int .u32 l1, .int .u32 m1] 25 (0, 0)) := heap_alloc_new _ _
  have tb : Below w.heap.size w (w.alloc (.cells #[.int .u8 5, .int .u32 e1, .int .u32 b1, .int .u16 i1, .int .u16 c1, .int .u32 l1, .int .u32 m1] 25)) := bl_alloc (Below.refl _ _) _
  generalize (w.alloc (.cells #[.int .u8 5, .int .u32 e1, .int .u32 b1, .int .u16 i1, .int .u16 c1, .int .u32 l1, .int .u32 m1] 25)) = w0 at hb tb ⊢
  refine (sealed_any _).mono ?_
  rintro e w1 ⟨rfl, hb1⟩
  have H1 := Lib.hid (blk_below hb hb1)
  have T1 := Lib.hid (bl_seq tb hb1)
  clear hb tb hb1
  have z0 : w1.cell? ⟨w.heap.size, 0, none⟩ = some (.int .u8 5) := (blk_cell H1.out 0).trans rfl
  have z1 : w1.cell? ⟨w.heap.size, 1, none⟩ = some (.int .u32 e1) := (blk_cell H1.out 1).trans rfl
  have z2 : w1.cell? ⟨w.heap.size, 2, none⟩ = some (.int .u32 b1) := (blk_cell H1.out 2).trans rfl
  have z3 : w1.cell? ⟨w.heap.size, 3, none⟩ = some (.int .u16 i1) := (blk_cell H1.out 3).trans rfl
  have z4 : w1.cell? ⟨w.heap.size, 4, none⟩ = some (.int .u16 c1) := (blk_cell H1.out 4).trans rfl
  have z5 : w1.cell? ⟨w.heap.size, 5, none⟩ = some (.int .u32 l1) := (blk_cell H1.out 5).trans rfl
  have z6 : w1.cell? ⟨w.heap.size, 6, none⟩ = some (.int .u32 m1) := (blk_cell H1.out 6).trans rfl
  go_wp2_with fail
  clear z0 z1 z2 z3 z4 z5 z6
  refine (HS.out.2.2 w1).mono ?_
  rintro e w2 ⟨hb2, rfl⟩
  have H2 := Lib.hid (blk_below H1.out hb2)
  have T2 := Lib.hid (bl_seq T1.out hb2)
  clear hb2
  have z0 : w2.cell? ⟨w.heap.size, 0, none⟩ = some (.int .u8 5) := (blk_cell H2.out 0).trans rfl
  have z1 : w2.cell? ⟨w.heap.size, 1, none⟩ = some (.int .u32 e1) := (blk_cell H2.out 1).trans rfl
  have z2 : w2.cell? ⟨w.heap.size, 2, none⟩ = some (.int .u32 b1) := (blk_cell H2.out 2).trans rfl
  have z3 : w2.cell? ⟨w.heap.size, 3, none⟩ = some (.int .u16 i1) := (blk_cell H2.out 3).trans rfl
  have z4 : w2.cell? ⟨w.heap.size, 4, none⟩ = some (.int .u16 c1) := (blk_cell H2.out 4).trans rfl
  have z5 : w2.cell? ⟨w.heap.size, 5, none⟩ = some (.int .u32 l1) := (blk_cell H2.out 5).trans rfl
  have z6 : w2.cell? ⟨w.heap.size, 6, none⟩ = some (.int .u32 m1) := (blk_cell H2.out 6).trans rfl
  go_wp2_with fail
  clear z0 z1 z2 z3 z4 z5 z6
  refine (HS.out.1 w2).mono ?_
  rintro e w3 ⟨hb3, rfl⟩
  have H3 := Lib.hid (blk_below H2.out hb3)
  have T3 := Lib.hid (bl_seq T2.out hb3)
  clear hb3
  have z0 : ∀ o, (w3.alloc o).cell? ⟨w.heap.size, 0, none⟩ = some (.int .u8 5) := fun o => (blk_cell (blk_alloc H3.out o) 0).trans rfl
  have x0 : ∀ o o2, ((w3.alloc o).alloc o2).cell? ⟨w.heap.size, 0, none⟩ = some (.int .u8 5) := fun o o2 => (blk_cell (blk_alloc (blk_alloc H3.out o) o2) 0).trans rfl
  have z1 : ∀ o, (w3.alloc o).cell? ⟨w.heap.size, 1, none⟩ = some (.int .u32 e1) := fun o => (blk_cell (blk_alloc H3.out o) 1).trans rfl
  have x1 : ∀ o o2, ((w3.alloc o).alloc o2).cell? ⟨w.heap.size, 1, none⟩ = some (.int .u32 e1) := fun o o2 => (blk_cell (blk_alloc (blk_alloc H3.out o) o2) 1).trans rfl
  have z2 : ∀ o, (w3.alloc o).cell? ⟨w.heap.size, 2, none⟩ = some (.int .u32 b1) := fun o => (blk_cell (blk_alloc H3.out o) 2).trans rfl
  have x2 : ∀ o o2, ((w3.alloc o).alloc o2).cell? ⟨w.heap.size, 2, none⟩ = some (.int .u32 b1) := fun o o2 => (blk_cell (blk_alloc (blk_alloc H3.out o) o2) 2).trans rfl
  have z3 : ∀ o, (w3.alloc o).cell? ⟨w.heap.size, 3, none⟩ = some (.int .u16 i1) := fun o => (blk_cell (blk_alloc H3.out o) 3).trans rfl
  have x3 : ∀ o o2, ((w3.alloc o).alloc o2).cell? ⟨w.heap.size, 3, none⟩ = some (.int .u16 i1) := fun o o2 => (blk_cell (blk_alloc (blk_alloc H3.out o) o2) 3).trans rfl
  have z4 : ∀ o, (w3.alloc o).cell? ⟨w.heap.size, 4, none⟩ = some (.int .u16 c1) := fun o => (blk_cell (blk_alloc H3.out o) 4).trans rfl
  have x4 : ∀ o o2, ((w3.alloc o).alloc o2).cell? ⟨w.heap.size, 4, none⟩ = some (.int .u16 c1) := fun o o2 => (blk_cell (blk_alloc (blk_alloc H3.out o) o2) 4).trans rfl
  have z5 : ∀ o, (w3.alloc o).cell? ⟨w.heap.size, 5, none⟩ = some (.int .u32 l1) := fun o => (blk_cell (blk_alloc H3.out o) 5).trans rfl
  have x5 : ∀ o o2, ((w3.alloc o).alloc o2).cell? ⟨w.heap.size, 5, none⟩ = some (.int .u32 l1) := fun o o2 => (blk_cell (blk_alloc (blk_alloc H3.out o) o2) 5).trans rfl
  have z6 : ∀ o, (w3.alloc o).cell? ⟨w.heap.size, 6, none⟩ = some (.int .u32 m1) := fun o => (blk_cell (blk_alloc H3.out o) 6).trans rfl
  have x6 : ∀ o o2, ((w3.alloc o).alloc o2).cell? ⟨w.heap.size, 6, none⟩ = some (.int .u32 m1) := fun o o2 => (blk_cell (blk_alloc (blk_alloc H3.out o) o2) 6).trans rfl
  go_wp2_with fail
  clear z0 z1 z2 z3 z4 z5 z6
  clear x0 x1 x2 x3 x4 x5 x6
  have yb : ((w3.alloc (.cells #[.int .u8 5, .int .u32 e1, .int .u32 b1, .int .u16 i1, .int .u16 c1, .int .u32 0, .int .u32 0] 25)).alloc (.cells #[.int .u8 5, .int .u32 e1, .int .u32 b1, .int .u16 i1, .int .u16 c1, .int .u32 0, .int .u32 0] 25)).heap[w3.heap.size]? = some (.cells #[.int .u8 5, .int .u32 e1, .int .u32 b1, .int .u16 i1, .int .u16 c1, .int .u32 0, .int .u32 0] 25 (0, 0)) := blk_alloc (heap_alloc_new _ _) _
  have wb : ((w3.alloc (.cells #[.int .u8 5, .int .u32 e1, .int .u32 b1, .int .u16 i1, .int .u16 c1, .int .u32 0, .int .u32 0] 25)).alloc (.cells #[.int .u8 5, .int .u32 e1, .int .u32 b1, .int .u16 i1, .int .u16 c1, .int .u32 0, .int .u32 0] 25)).heap[w3.heap.size + 1]? = some (.cells #[.int .u8 5, .int .u32 e1, .int .u32 b1, .int .u16 i1, .int .u16 c1, .int .u32 0, .int .u32 0] 25 (0, 0)) := by
    have h_ := heap_alloc_new (w3.alloc (.cells #[.int .u8 5, .int .u32 e1, .int .u32 b1, .int .u16 i1, .int .u16 c1, .int .u32 0, .int .u32 0] 25)) (.cells #[.int .u8 5, .int .u32 e1, .int .u32 b1, .int .u16 i1, .int .u16 c1, .int .u32 0, .int .u32 0] 25)
    simp only [World.size_alloc] at h_
    exact h_
  have hb := blk_alloc (blk_alloc H3.out (.cells #[.int .u8 5, .int .u32 e1, .int .u32 b1, .int .u16 i1, .int .u16 c1, .int .u32 0, .int .u32 0] 25)) (.cells #[.int .u8 5, .int .u32 e1, .int .u32 b1, .int .u16 i1, .int .u16 c1, .int .u32 0, .int .u32 0] 25)
  have tb : Below w.heap.size w ((w3.alloc (.cells #[.int .u8 5, .int .u32 e1, .int .u32 b1, .int .u16 i1, .int .u16 c1, .int .u32 0, .int .u32 0] 25)).alloc (.cells #[.int .u8 5, .int .u32 e1, .int .u32 b1, .int .u16 i1, .int .u16 c1, .int .u32 0, .int .u32 0] 25)) := bl_alloc (bl_alloc T3.out _) _
  generalize ((w3.alloc (.cells #[.int .u8 5, .int .u32 e1, .int .u32 b1, .int .u16 i1, .int .u16 c1, .int .u32 0, .int .u32 0] 25)).alloc (.cells #[.int .u8 5, .int .u32 e1, .int .u32 b1, .int .u16 i1, .int .u16 c1, .int .u32 0, .int .u32 0] 25)) = w5 at yb wb hb tb ⊢
  have Y5 := Lib.hid yb
  have W5 := Lib.hid wb
  have H5 := Lib.hid hb
  have T5 := Lib.hid tb
  clear yb wb hb tb
  refine (HS.out.2.1 w5).mono ?_
  rintro e w6 ⟨hb6, rfl⟩
  have Y6 := Lib.hid (blk_below Y5.out hb6)
  have W6 := Lib.hid (blk_below W5.out hb6)
  have H6 := Lib.hid (blk_below H5.out hb6)
  have T6 := Lib.hid (bl_seq T5.out hb6)
  clear hb6 Y5 W5 H5 T5
  go_wp2_with fail
  refine (asdata_Parity e1 b1 i1 c1 l1 m1 w6).mono ?_
  rintro e w7 ⟨hb7, rfl⟩
  have yb := blk_alloc (blk_below Y6.out hb7) (.cells #[.int .u32 0, .int .u32 0, .int .i64 0, .int .i64 0, .int .u32 0] 53)
  have wb := blk_alloc (blk_below W6.out hb7) (.cells #[.int .u32 0, .int .u32 0, .int .i64 0, .int .i64 0, .int .u32 0] 53)
  have hb := blk_alloc (blk_below H6.out hb7) (.cells #[.int .u32 0, .int .u32 0, .int .i64 0, .int .i64 0, .int .u32 0] 53)
  have tb : Below w.heap.size w (w7.alloc (.cells #[.int .u32 0, .int .u32 0, .int .i64 0, .int .i64 0, .int .u32 0] 53)) := bl_alloc (bl_seq T6.out hb7) _
  have db_ : (w7.alloc (.cells #[.int .u32 0, .int .u32 0, .int .i64 0, .int .i64 0, .int .u32 0] 53)).heap[w7.heap.size]? = some (.cells #[.int .u32 0, .int .u32 0, .int .i64 0, .int .i64 0, .int .u32 0] 53 (0, 0)) := heap_alloc_new _ _
  have HH := Lib.hid (And.intro hb (And.intro tb db_))
  have y0 : (w7.alloc (.cells #[.int .u32 0, .int .u32 0, .int .i64 0, .int .i64 0, .int .u32 0] 53)).cell? ⟨w3.heap.size, 0, none⟩ = some (.int .u8 5) := (blk_cell yb 0).trans rfl
  have y1 : (w7.alloc (.cells #[.int .u32 0, .int .u32 0, .int .i64 0, .int .i64 0, .int .u32 0] 53)).cell? ⟨w3.heap.size, 1, none⟩ = some (.int .u32 e1) := (blk_cell yb 1).trans rfl
  have y2 : (w7.alloc (.cells #[.int .u32 0, .int .u32 0, .int .i64 0, .int .i64 0, .int .u32 0] 53)).cell? ⟨w3.heap.size, 2, none⟩ = some (.int .u32 b1) := (blk_cell yb 2).trans rfl
  have y3 : (w7.alloc (.cells #[.int .u32 0, .int .u32 0, .int .i64 0, .int .i64 0, .int .u32 0] 53)).cell? ⟨w3.heap.size, 3, none⟩ = some (.int .u16 i1) := (blk_cell yb 3).trans rfl
  have y4 : (w7.alloc (.cells #[.int .u32 0, .int .u32 0, .int .i64 0, .int .i64 0, .int .u32 0] 53)).cell? ⟨w3.heap.size, 4, none⟩ = some (.int .u16 c1) := (blk_cell yb 4).trans rfl
  have y5 : (w7.alloc (.cells #[.int .u32 0, .int .u32 0, .int .i64 0, .int .i64 0, .int .u32 0] 53)).cell? ⟨w3.heap.size, 5, none⟩ = some (.int .u32 0) := (blk_cell yb 5).trans rfl
  have y6 : (w7.alloc (.cells #[.int .u32 0, .int .u32 0, .int .i64 0, .int .i64 0, .int .u32 0] 53)).cell? ⟨w3.heap.size, 6, none⟩ = some (.int .u32 0) := (blk_cell yb 6).trans rfl
  have u0 : (w7.alloc (.cells #[.int .u32 0, .int .u32 0, .int .i64 0, .int .i64 0, .int .u32 0] 53)).cell? ⟨w3.heap.size + 1, 0, none⟩ = some (.int .u8 5) := (blk_cell wb 0).trans rfl
  have u1 : (w7.alloc (.cells #[.int .u32 0, .int .u32 0, .int .i64 0, .int .i64 0, .int .u32 0] 53)).cell? ⟨w3.heap.size + 1, 1, none⟩ = some (.int .u32 e1) := (blk_cell wb 1).trans rfl
  have u2 : (w7.alloc (.cells #[.int .u32 0, .int .u32 0, .int .i64 0, .int .i64 0, .int .u32 0] 53)).cell? ⟨w3.heap.size + 1, 2, none⟩ = some (.int .u32 b1) := (blk_cell wb 2).trans rfl
  have u3 : (w7.alloc (.cells #[.int .u32 0, .int .u32 0, .int .i64 0, .int .i64 0, .int .u32 0] 53)).cell? ⟨w3.heap.size + 1, 3, none⟩ = some (.int .u16 i1) := (blk_cell wb 3).trans rfl
  have u4 : (w7.alloc (.cells #[.int .u32 0, .int .u32 0, .int .i64 0, .int .i64 0, .int .u32 0] 53)).cell? ⟨w3.heap.size + 1, 4, none⟩ = some (.int .u16 c1) := (blk_cell wb 4).trans rfl
  have u5 : (w7.alloc (.cells #[.int .u32 0, .int .u32 0, .int .i64 0, .int .i64 0, .int .u32 0] 53)).cell? ⟨w3.heap.size + 1, 5, none⟩ = some (.int .u32 0) := (blk_cell wb 5).trans rfl
  have u6 : (w7.alloc (.cells #[.int .u32 0, .int .u32 0, .int .i64 0, .int .i64 0, .int .u32 0] 53)).cell? ⟨w3.heap.size + 1, 6, none⟩ = some (.int .u32 0) := (blk_cell wb 6).trans rfl
  have z0 : (w7.alloc (.cells #[.int .u32 0, .int .u32 0, .int .i64 0, .int .i64 0, .int .u32 0] 53)).cell? ⟨w.heap.size, 0, none⟩ = some (.int .u8 5) := (blk_cell hb 0).trans rfl
  have z1 : (w7.alloc (.cells #[.int .u32 0, .int .u32 0, .int .i64 0, .int .i64 0, .int .u32 0] 53)).cell? ⟨w.heap.size, 1, none⟩ = some (.int .u32 e1) := (blk_cell hb 1).trans rfl
  have z2 : (w7.alloc (.cells #[.int .u32 0, .int .u32 0, .int .i64 0, .int .i64 0, .int .u32 0] 53)).cell? ⟨w.heap.size, 2, none⟩ = some (.int .u32 b1) := (blk_cell hb 2).trans rfl
  have z3 : (w7.alloc (.cells #[.int .u32 0, .int .u32 0, .int .i64 0, .int .i64 0, .int .u32 0] 53)).cell? ⟨w.heap.size, 3, none⟩ = some (.int .u16 i1) := (blk_cell hb 3).trans rfl
  have z4 : (w7.alloc (.cells #[.int .u32 0, .int .u32 0, .int .i64 0, .int .i64 0, .int .u32 0] 53)).cell? ⟨w.heap.size, 4, none⟩ = some (.int .u16 c1) := (blk_cell hb 4).trans rfl
  have z5 : (w7.alloc (.cells #[.int .u32 0, .int .u32 0, .int .i64 0, .int .i64 0, .int .u32 0] 53)).cell? ⟨w.heap.size, 5, none⟩ = some (.int .u32 l1) := (blk_cell hb 5).trans rfl
  have z6 : (w7.alloc (.cells #[.int .u32 0, .int .u32 0, .int .i64 0, .int .i64 0, .int .u32 0] 53)).cell? ⟨w.heap.size, 6, none⟩ = some (.int .u32 m1) := (blk_cell hb 6).trans rfl
  clear hb7 yb wb hb tb db_ Y6 W6 H6 T6
  have nez := neHd ⟨5, e1, b1, i1, c1, 0, 0⟩ ⟨5, e1, b1, i1, c1, 0, 0⟩
  rw [hdEq_self] at nez
  simp only [hdC] at nez
  go_wp2_with fail
  clear y0 y1 y2 y3 y4 y5 y6
  clear u0 u1 u2 u3 u4 u5 u6
  clear z0 z1 z2 z3 z4 z5 z6
  clear nez
  have db_ := HH.out.2.2
  have d0 : (w7.alloc (.cells #[.int .u32 0, .int .u32 0, .int .i64 0, .int .i64 0, .int .u32 0] 53)).cell? ⟨w7.heap.size, 0, none⟩ = some (.int .u32 0) := (blk_cell db_ 0).trans rfl
  have d1 : (w7.alloc (.cells #[.int .u32 0, .int .u32 0, .int .i64 0, .int .i64 0, .int .u32 0] 53)).cell? ⟨w7.heap.size, 1, none⟩ = some (.int .u32 0) := (blk_cell db_ 1).trans rfl
  have d2 : (w7.alloc (.cells #[.int .u32 0, .int .u32 0, .int .i64 0, .int .i64 0, .int .u32 0] 53)).cell? ⟨w7.heap.size, 2, none⟩ = some (.int .i64 0) := (blk_cell db_ 2).trans rfl
  have d3 : (w7.alloc (.cells #[.int .u32 0, .int .u32 0, .int .i64 0, .int .i64 0, .int .u32 0] 53)).cell? ⟨w7.heap.size, 3, none⟩ = some (.int .i64 0) := (blk_cell db_ 3).trans rfl
  have d4 : (w7.alloc (.cells #[.int .u32 0, .int .u32 0, .int .i64 0, .int .i64 0, .int .u32 0] 53)).cell? ⟨w7.heap.size, 4, none⟩ = some (.int .u32 0) := (blk_cell db_ 4).trans rfl
  clear db_
  have eqz := eqDP 0 0 0 0 0
  go_quiet (fail)
  have TE := Lib.hid (bl_drewN HH.out.2.1 nq)
  go_wp2_with fail
  go_ret
  exact ⟨rfl, TE.out⟩
set_option maxHeartbeats 8000000 in
set_option maxRecDepth 100000 in
theorem rtells_Fill (e1 b1 i1 c1 l1 m1 : Int) (w : World) (i0 : 0 ≤ i1) (i9 : i1 ≤ 65535) (c0 : 0 ≤ c1) (c9 : c1 ≤ 65535) : Calls Try.prog 9 #[.agg #[.int .u8 6, .int .u32 e1, .int .u32 b1, .int .u16 i1, .int .u16 c1, .int .u32 l1, .int .u32 m1]] w fun e w' => e = .returned (.bool true) ∧ Below w.heap.size w w' := by
  have WI := Lib.hid (i64w (i := i1) (by omega) (by omega))
  have WC := Lib.hid (i64w (i := c1) (by omega) (by omega))
  have HS0 := fun (W : World) => saidk_Fill e1 b1 i1 c1 l1 m1 W i0 i9 c0 c9
  have HE0 := fun (W : World) => epoch_Fill e1 b1 i1 c1 l1 m1 W i0 i9 c0 c9
  have HT0 := fun (W : World) => tell_Fill e1 b1 i1 c1 l1 m1 W i0 i9 c0 c9
  have HS := Lib.hid (And.intro HS0 (And.intro HE0 HT0))
  clear i0 i9 c0 c9 HS0 HE0 HT0
  go_enter Try.func9, Try.ntmps9
  go_wp2_with fail
  have hb : (w.alloc (.cells #[.int .u8 6, .int .u32 e1, .int .u32 b1, .int .u16 i1, .int .u16 c1, .int .u32 l1, .int .u32 m1] 25)).heap[w.heap.size]? = some (.cells #[.int .u8 6, .int .u32 e1, .int .u32 b1, .int .u16 i1, .int .u16 c1, .int .u32 l1, .int .u32 m1] 25 (0, 0)) := heap_alloc_new _ _
  have tb : Below w.heap.size w (w.alloc (.cells #[.int .u8 6, .int .u32 e1, .int .u32 b1, .int .u16 i1, .int .u16 c1, .int .u32 l1, .int .u32 m1] 25)) := bl_alloc (Below.refl _ _) _
  generalize (w.alloc (.cells #[.int .u8 6, .int .u32 e1, .int .u32 b1, .int .u16 i1, .int .u16 c1, .int .u32 l1, .int .u32 m1] 25)) = w0 at hb tb ⊢
  refine (sealed_any _).mono ?_
  rintro e w1 ⟨rfl, hb1⟩
  have H1 := Lib.hid (blk_below hb hb1)
  have T1 := Lib.hid (bl_seq tb hb1)
  clear hb tb hb1
  have z0 : w1.cell? ⟨w.heap.size, 0, none⟩ = some (.int .u8 6) := (blk_cell H1.out 0).trans rfl
  have z1 : w1.cell? ⟨w.heap.size, 1, none⟩ = some (.int .u32 e1) := (blk_cell H1.out 1).trans rfl
  have z2 : w1.cell? ⟨w.heap.size, 2, none⟩ = some (.int .u32 b1) := (blk_cell H1.out 2).trans rfl
  have z3 : w1.cell? ⟨w.heap.size, 3, none⟩ = some (.int .u16 i1) := (blk_cell H1.out 3).trans rfl
  have z4 : w1.cell? ⟨w.heap.size, 4, none⟩ = some (.int .u16 c1) := (blk_cell H1.out 4).trans rfl
  have z5 : w1.cell? ⟨w.heap.size, 5, none⟩ = some (.int .u32 l1) := (blk_cell H1.out 5).trans rfl
  have z6 : w1.cell? ⟨w.heap.size, 6, none⟩ = some (.int .u32 m1) := (blk_cell H1.out 6).trans rfl
  go_wp2_with fail
  clear z0 z1 z2 z3 z4 z5 z6
  refine (HS.out.2.2 w1).mono ?_
  rintro e w2 ⟨hb2, rfl⟩
  have H2 := Lib.hid (blk_below H1.out hb2)
  have T2 := Lib.hid (bl_seq T1.out hb2)
  clear hb2
  have z0 : w2.cell? ⟨w.heap.size, 0, none⟩ = some (.int .u8 6) := (blk_cell H2.out 0).trans rfl
  have z1 : w2.cell? ⟨w.heap.size, 1, none⟩ = some (.int .u32 e1) := (blk_cell H2.out 1).trans rfl
  have z2 : w2.cell? ⟨w.heap.size, 2, none⟩ = some (.int .u32 b1) := (blk_cell H2.out 2).trans rfl
  have z3 : w2.cell? ⟨w.heap.size, 3, none⟩ = some (.int .u16 i1) := (blk_cell H2.out 3).trans rfl
  have z4 : w2.cell? ⟨w.heap.size, 4, none⟩ = some (.int .u16 c1) := (blk_cell H2.out 4).trans rfl
  have z5 : w2.cell? ⟨w.heap.size, 5, none⟩ = some (.int .u32 l1) := (blk_cell H2.out 5).trans rfl
  have z6 : w2.cell? ⟨w.heap.size, 6, none⟩ = some (.int .u32 m1) := (blk_cell H2.out 6).trans rfl
  go_wp2_with fail
  clear z0 z1 z2 z3 z4 z5 z6
  refine (HS.out.1 w2).mono ?_
  rintro e w3 ⟨hb3, rfl⟩
  have H3 := Lib.hid (blk_below H2.out hb3)
  have T3 := Lib.hid (bl_seq T2.out hb3)
  clear hb3
  have z0 : ∀ o, (w3.alloc o).cell? ⟨w.heap.size, 0, none⟩ = some (.int .u8 6) := fun o => (blk_cell (blk_alloc H3.out o) 0).trans rfl
  have x0 : ∀ o o2, ((w3.alloc o).alloc o2).cell? ⟨w.heap.size, 0, none⟩ = some (.int .u8 6) := fun o o2 => (blk_cell (blk_alloc (blk_alloc H3.out o) o2) 0).trans rfl
  have z1 : ∀ o, (w3.alloc o).cell? ⟨w.heap.size, 1, none⟩ = some (.int .u32 e1) := fun o => (blk_cell (blk_alloc H3.out o) 1).trans rfl
  have x1 : ∀ o o2, ((w3.alloc o).alloc o2).cell? ⟨w.heap.size, 1, none⟩ = some (.int .u32 e1) := fun o o2 => (blk_cell (blk_alloc (blk_alloc H3.out o) o2) 1).trans rfl
  have z2 : ∀ o, (w3.alloc o).cell? ⟨w.heap.size, 2, none⟩ = some (.int .u32 b1) := fun o => (blk_cell (blk_alloc H3.out o) 2).trans rfl
  have x2 : ∀ o o2, ((w3.alloc o).alloc o2).cell? ⟨w.heap.size, 2, none⟩ = some (.int .u32 b1) := fun o o2 => (blk_cell (blk_alloc (blk_alloc H3.out o) o2) 2).trans rfl
  have z3 : ∀ o, (w3.alloc o).cell? ⟨w.heap.size, 3, none⟩ = some (.int .u16 i1) := fun o => (blk_cell (blk_alloc H3.out o) 3).trans rfl
  have x3 : ∀ o o2, ((w3.alloc o).alloc o2).cell? ⟨w.heap.size, 3, none⟩ = some (.int .u16 i1) := fun o o2 => (blk_cell (blk_alloc (blk_alloc H3.out o) o2) 3).trans rfl
  have z4 : ∀ o, (w3.alloc o).cell? ⟨w.heap.size, 4, none⟩ = some (.int .u16 c1) := fun o => (blk_cell (blk_alloc H3.out o) 4).trans rfl
  have x4 : ∀ o o2, ((w3.alloc o).alloc o2).cell? ⟨w.heap.size, 4, none⟩ = some (.int .u16 c1) := fun o o2 => (blk_cell (blk_alloc (blk_alloc H3.out o) o2) 4).trans rfl
  have z5 : ∀ o, (w3.alloc o).cell? ⟨w.heap.size, 5, none⟩ = some (.int .u32 l1) := fun o => (blk_cell (blk_alloc H3.out o) 5).trans rfl
  have x5 : ∀ o o2, ((w3.alloc o).alloc o2).cell? ⟨w.heap.size, 5, none⟩ = some (.int .u32 l1) := fun o o2 => (blk_cell (blk_alloc (blk_alloc H3.out o) o2) 5).trans rfl
  have z6 : ∀ o, (w3.alloc o).cell? ⟨w.heap.size, 6, none⟩ = some (.int .u32 m1) := fun o => (blk_cell (blk_alloc H3.out o) 6).trans rfl
  have x6 : ∀ o o2, ((w3.alloc o).alloc o2).cell? ⟨w.heap.size, 6, none⟩ = some (.int .u32 m1) := fun o o2 => (blk_cell (blk_alloc (blk_alloc H3.out o) o2) 6).trans rfl
  go_wp2_with fail
  clear z0 z1 z2 z3 z4 z5 z6
  clear x0 x1 x2 x3 x4 x5 x6
  have yb : ((w3.alloc (.cells #[.int .u8 6, .int .u32 e1, .int .u32 b1, .int .u16 0, .int .u16 0, .int .u32 0, .int .u32 0] 25)).alloc (.cells #[.int .u8 6, .int .u32 e1, .int .u32 b1, .int .u16 0, .int .u16 0, .int .u32 0, .int .u32 0] 25)).heap[w3.heap.size]? = some (.cells #[.int .u8 6, .int .u32 e1, .int .u32 b1, .int .u16 0, .int .u16 0, .int .u32 0, .int .u32 0] 25 (0, 0)) := blk_alloc (heap_alloc_new _ _) _
  have wb : ((w3.alloc (.cells #[.int .u8 6, .int .u32 e1, .int .u32 b1, .int .u16 0, .int .u16 0, .int .u32 0, .int .u32 0] 25)).alloc (.cells #[.int .u8 6, .int .u32 e1, .int .u32 b1, .int .u16 0, .int .u16 0, .int .u32 0, .int .u32 0] 25)).heap[w3.heap.size + 1]? = some (.cells #[.int .u8 6, .int .u32 e1, .int .u32 b1, .int .u16 0, .int .u16 0, .int .u32 0, .int .u32 0] 25 (0, 0)) := by
    have h_ := heap_alloc_new (w3.alloc (.cells #[.int .u8 6, .int .u32 e1, .int .u32 b1, .int .u16 0, .int .u16 0, .int .u32 0, .int .u32 0] 25)) (.cells #[.int .u8 6, .int .u32 e1, .int .u32 b1, .int .u16 0, .int .u16 0, .int .u32 0, .int .u32 0] 25)
    simp only [World.size_alloc] at h_
    exact h_
  have hb := blk_alloc (blk_alloc H3.out (.cells #[.int .u8 6, .int .u32 e1, .int .u32 b1, .int .u16 0, .int .u16 0, .int .u32 0, .int .u32 0] 25)) (.cells #[.int .u8 6, .int .u32 e1, .int .u32 b1, .int .u16 0, .int .u16 0, .int .u32 0, .int .u32 0] 25)
  have tb : Below w.heap.size w ((w3.alloc (.cells #[.int .u8 6, .int .u32 e1, .int .u32 b1, .int .u16 0, .int .u16 0, .int .u32 0, .int .u32 0] 25)).alloc (.cells #[.int .u8 6, .int .u32 e1, .int .u32 b1, .int .u16 0, .int .u16 0, .int .u32 0, .int .u32 0] 25)) := bl_alloc (bl_alloc T3.out _) _
  generalize ((w3.alloc (.cells #[.int .u8 6, .int .u32 e1, .int .u32 b1, .int .u16 0, .int .u16 0, .int .u32 0, .int .u32 0] 25)).alloc (.cells #[.int .u8 6, .int .u32 e1, .int .u32 b1, .int .u16 0, .int .u16 0, .int .u32 0, .int .u32 0] 25)) = w5 at yb wb hb tb ⊢
  have Y5 := Lib.hid yb
  have W5 := Lib.hid wb
  have H5 := Lib.hid hb
  have T5 := Lib.hid tb
  clear yb wb hb tb
  refine (HS.out.2.1 w5).mono ?_
  rintro e w6 ⟨hb6, rfl⟩
  have Y6 := Lib.hid (blk_below Y5.out hb6)
  have W6 := Lib.hid (blk_below W5.out hb6)
  have H6 := Lib.hid (blk_below H5.out hb6)
  have T6 := Lib.hid (bl_seq T5.out hb6)
  clear hb6 Y5 W5 H5 T5
  go_wp2_with fail
  refine (asdata_Fill e1 b1 i1 c1 l1 m1 w6).mono ?_
  rintro e w7 ⟨hb7, rfl⟩
  have yb := blk_alloc (blk_below Y6.out hb7) (.cells #[.int .u32 0, .int .u32 0, .int .i64 0, .int .i64 0, .int .u32 0] 53)
  have wb := blk_alloc (blk_below W6.out hb7) (.cells #[.int .u32 0, .int .u32 0, .int .i64 0, .int .i64 0, .int .u32 0] 53)
  have hb := blk_alloc (blk_below H6.out hb7) (.cells #[.int .u32 0, .int .u32 0, .int .i64 0, .int .i64 0, .int .u32 0] 53)
  have tb : Below w.heap.size w (w7.alloc (.cells #[.int .u32 0, .int .u32 0, .int .i64 0, .int .i64 0, .int .u32 0] 53)) := bl_alloc (bl_seq T6.out hb7) _
  have db_ : (w7.alloc (.cells #[.int .u32 0, .int .u32 0, .int .i64 0, .int .i64 0, .int .u32 0] 53)).heap[w7.heap.size]? = some (.cells #[.int .u32 0, .int .u32 0, .int .i64 0, .int .i64 0, .int .u32 0] 53 (0, 0)) := heap_alloc_new _ _
  have HH := Lib.hid (And.intro hb (And.intro tb db_))
  have y0 : (w7.alloc (.cells #[.int .u32 0, .int .u32 0, .int .i64 0, .int .i64 0, .int .u32 0] 53)).cell? ⟨w3.heap.size, 0, none⟩ = some (.int .u8 6) := (blk_cell yb 0).trans rfl
  have y1 : (w7.alloc (.cells #[.int .u32 0, .int .u32 0, .int .i64 0, .int .i64 0, .int .u32 0] 53)).cell? ⟨w3.heap.size, 1, none⟩ = some (.int .u32 e1) := (blk_cell yb 1).trans rfl
  have y2 : (w7.alloc (.cells #[.int .u32 0, .int .u32 0, .int .i64 0, .int .i64 0, .int .u32 0] 53)).cell? ⟨w3.heap.size, 2, none⟩ = some (.int .u32 b1) := (blk_cell yb 2).trans rfl
  have y3 : (w7.alloc (.cells #[.int .u32 0, .int .u32 0, .int .i64 0, .int .i64 0, .int .u32 0] 53)).cell? ⟨w3.heap.size, 3, none⟩ = some (.int .u16 0) := (blk_cell yb 3).trans rfl
  have y4 : (w7.alloc (.cells #[.int .u32 0, .int .u32 0, .int .i64 0, .int .i64 0, .int .u32 0] 53)).cell? ⟨w3.heap.size, 4, none⟩ = some (.int .u16 0) := (blk_cell yb 4).trans rfl
  have y5 : (w7.alloc (.cells #[.int .u32 0, .int .u32 0, .int .i64 0, .int .i64 0, .int .u32 0] 53)).cell? ⟨w3.heap.size, 5, none⟩ = some (.int .u32 0) := (blk_cell yb 5).trans rfl
  have y6 : (w7.alloc (.cells #[.int .u32 0, .int .u32 0, .int .i64 0, .int .i64 0, .int .u32 0] 53)).cell? ⟨w3.heap.size, 6, none⟩ = some (.int .u32 0) := (blk_cell yb 6).trans rfl
  have u0 : (w7.alloc (.cells #[.int .u32 0, .int .u32 0, .int .i64 0, .int .i64 0, .int .u32 0] 53)).cell? ⟨w3.heap.size + 1, 0, none⟩ = some (.int .u8 6) := (blk_cell wb 0).trans rfl
  have u1 : (w7.alloc (.cells #[.int .u32 0, .int .u32 0, .int .i64 0, .int .i64 0, .int .u32 0] 53)).cell? ⟨w3.heap.size + 1, 1, none⟩ = some (.int .u32 e1) := (blk_cell wb 1).trans rfl
  have u2 : (w7.alloc (.cells #[.int .u32 0, .int .u32 0, .int .i64 0, .int .i64 0, .int .u32 0] 53)).cell? ⟨w3.heap.size + 1, 2, none⟩ = some (.int .u32 b1) := (blk_cell wb 2).trans rfl
  have u3 : (w7.alloc (.cells #[.int .u32 0, .int .u32 0, .int .i64 0, .int .i64 0, .int .u32 0] 53)).cell? ⟨w3.heap.size + 1, 3, none⟩ = some (.int .u16 0) := (blk_cell wb 3).trans rfl
  have u4 : (w7.alloc (.cells #[.int .u32 0, .int .u32 0, .int .i64 0, .int .i64 0, .int .u32 0] 53)).cell? ⟨w3.heap.size + 1, 4, none⟩ = some (.int .u16 0) := (blk_cell wb 4).trans rfl
  have u5 : (w7.alloc (.cells #[.int .u32 0, .int .u32 0, .int .i64 0, .int .i64 0, .int .u32 0] 53)).cell? ⟨w3.heap.size + 1, 5, none⟩ = some (.int .u32 0) := (blk_cell wb 5).trans rfl
  have u6 : (w7.alloc (.cells #[.int .u32 0, .int .u32 0, .int .i64 0, .int .i64 0, .int .u32 0] 53)).cell? ⟨w3.heap.size + 1, 6, none⟩ = some (.int .u32 0) := (blk_cell wb 6).trans rfl
  have z0 : (w7.alloc (.cells #[.int .u32 0, .int .u32 0, .int .i64 0, .int .i64 0, .int .u32 0] 53)).cell? ⟨w.heap.size, 0, none⟩ = some (.int .u8 6) := (blk_cell hb 0).trans rfl
  have z1 : (w7.alloc (.cells #[.int .u32 0, .int .u32 0, .int .i64 0, .int .i64 0, .int .u32 0] 53)).cell? ⟨w.heap.size, 1, none⟩ = some (.int .u32 e1) := (blk_cell hb 1).trans rfl
  have z2 : (w7.alloc (.cells #[.int .u32 0, .int .u32 0, .int .i64 0, .int .i64 0, .int .u32 0] 53)).cell? ⟨w.heap.size, 2, none⟩ = some (.int .u32 b1) := (blk_cell hb 2).trans rfl
  have z3 : (w7.alloc (.cells #[.int .u32 0, .int .u32 0, .int .i64 0, .int .i64 0, .int .u32 0] 53)).cell? ⟨w.heap.size, 3, none⟩ = some (.int .u16 i1) := (blk_cell hb 3).trans rfl
  have z4 : (w7.alloc (.cells #[.int .u32 0, .int .u32 0, .int .i64 0, .int .i64 0, .int .u32 0] 53)).cell? ⟨w.heap.size, 4, none⟩ = some (.int .u16 c1) := (blk_cell hb 4).trans rfl
  have z5 : (w7.alloc (.cells #[.int .u32 0, .int .u32 0, .int .i64 0, .int .i64 0, .int .u32 0] 53)).cell? ⟨w.heap.size, 5, none⟩ = some (.int .u32 l1) := (blk_cell hb 5).trans rfl
  have z6 : (w7.alloc (.cells #[.int .u32 0, .int .u32 0, .int .i64 0, .int .i64 0, .int .u32 0] 53)).cell? ⟨w.heap.size, 6, none⟩ = some (.int .u32 m1) := (blk_cell hb 6).trans rfl
  clear hb7 yb wb hb tb db_ Y6 W6 H6 T6
  have nez := neHd ⟨6, e1, b1, 0, 0, 0, 0⟩ ⟨6, e1, b1, 0, 0, 0, 0⟩
  rw [hdEq_self] at nez
  simp only [hdC] at nez
  go_wp2_with fail
  clear y0 y1 y2 y3 y4 y5 y6
  clear u0 u1 u2 u3 u4 u5 u6
  clear z0 z1 z2 z3 z4 z5 z6
  clear nez
  have db_ := HH.out.2.2
  have d0 : (w7.alloc (.cells #[.int .u32 0, .int .u32 0, .int .i64 0, .int .i64 0, .int .u32 0] 53)).cell? ⟨w7.heap.size, 0, none⟩ = some (.int .u32 0) := (blk_cell db_ 0).trans rfl
  have d1 : (w7.alloc (.cells #[.int .u32 0, .int .u32 0, .int .i64 0, .int .i64 0, .int .u32 0] 53)).cell? ⟨w7.heap.size, 1, none⟩ = some (.int .u32 0) := (blk_cell db_ 1).trans rfl
  have d2 : (w7.alloc (.cells #[.int .u32 0, .int .u32 0, .int .i64 0, .int .i64 0, .int .u32 0] 53)).cell? ⟨w7.heap.size, 2, none⟩ = some (.int .i64 0) := (blk_cell db_ 2).trans rfl
  have d3 : (w7.alloc (.cells #[.int .u32 0, .int .u32 0, .int .i64 0, .int .i64 0, .int .u32 0] 53)).cell? ⟨w7.heap.size, 3, none⟩ = some (.int .i64 0) := (blk_cell db_ 3).trans rfl
  have d4 : (w7.alloc (.cells #[.int .u32 0, .int .u32 0, .int .i64 0, .int .i64 0, .int .u32 0] 53)).cell? ⟨w7.heap.size, 4, none⟩ = some (.int .u32 0) := (blk_cell db_ 4).trans rfl
  clear db_
  have eqz := eqDP 0 0 0 0 0
  go_quiet (fail)
  have TE := Lib.hid (bl_drewN HH.out.2.1 nq)
  go_wp2_with fail
  go_ret
  exact ⟨rfl, TE.out⟩
set_option maxHeartbeats 4000000 in
set_option maxRecDepth 100000 in
theorem rtells_none (k e1 b1 i1 c1 l1 m1 : Int) (w : World) (i0 : 0 ≤ i1) (i9 : i1 ≤ 65535) (c0 : 0 ≤ c1) (c9 : c1 ≤ 65535) (hk_ : k < 1 ∨ 6 < k) : Calls Try.prog 9 #[.agg #[.int .u8 k, .int .u32 e1, .int .u32 b1, .int .u16 i1, .int .u16 c1, .int .u32 l1, .int .u32 m1]] w fun e w' => e = .returned (.bool true) ∧ Below w.heap.size w w' := by
  have HT0 := fun (W : World) => tell_none k e1 b1 i1 c1 l1 m1 W i0 i9 c0 c9 (by simp; omega) (by simp; omega) (by simp; omega) (by simp; omega) (by simp; omega) (by simp; omega)
  have HS := Lib.hid HT0
  clear i0 i9 c0 c9 HT0
  go_enter Try.func9, Try.ntmps9
  go_wp2_with fail
  have hb : (w.alloc (.cells #[.int .u8 k, .int .u32 e1, .int .u32 b1, .int .u16 i1, .int .u16 c1, .int .u32 l1, .int .u32 m1] 25)).heap[w.heap.size]? = some (.cells #[.int .u8 k, .int .u32 e1, .int .u32 b1, .int .u16 i1, .int .u16 c1, .int .u32 l1, .int .u32 m1] 25 (0, 0)) := heap_alloc_new _ _
  have tb : Below w.heap.size w (w.alloc (.cells #[.int .u8 k, .int .u32 e1, .int .u32 b1, .int .u16 i1, .int .u16 c1, .int .u32 l1, .int .u32 m1] 25)) := bl_alloc (Below.refl _ _) _
  generalize (w.alloc (.cells #[.int .u8 k, .int .u32 e1, .int .u32 b1, .int .u16 i1, .int .u16 c1, .int .u32 l1, .int .u32 m1] 25)) = w0 at hb tb ⊢
  refine (sealed_any _).mono ?_
  rintro e w1 ⟨rfl, hb1⟩
  have H1 := Lib.hid (blk_below hb hb1)
  have T1 := Lib.hid (bl_seq tb hb1)
  clear hb tb hb1
  have z0 : w1.cell? ⟨w.heap.size, 0, none⟩ = some (.int .u8 k) := (blk_cell H1.out 0).trans rfl
  have z1 : w1.cell? ⟨w.heap.size, 1, none⟩ = some (.int .u32 e1) := (blk_cell H1.out 1).trans rfl
  have z2 : w1.cell? ⟨w.heap.size, 2, none⟩ = some (.int .u32 b1) := (blk_cell H1.out 2).trans rfl
  have z3 : w1.cell? ⟨w.heap.size, 3, none⟩ = some (.int .u16 i1) := (blk_cell H1.out 3).trans rfl
  have z4 : w1.cell? ⟨w.heap.size, 4, none⟩ = some (.int .u16 c1) := (blk_cell H1.out 4).trans rfl
  have z5 : w1.cell? ⟨w.heap.size, 5, none⟩ = some (.int .u32 l1) := (blk_cell H1.out 5).trans rfl
  have z6 : w1.cell? ⟨w.heap.size, 6, none⟩ = some (.int .u32 m1) := (blk_cell H1.out 6).trans rfl
  go_wp2_with fail
  clear z0 z1 z2 z3 z4 z5 z6
  refine (HS.out w1).mono ?_
  rintro e w2 ⟨hb2, rfl⟩
  have H2 := Lib.hid (blk_below H1.out hb2)
  have T2 := Lib.hid (bl_seq T1.out hb2)
  clear hb2
  have z0 : w2.cell? ⟨w.heap.size, 0, none⟩ = some (.int .u8 k) := (blk_cell H2.out 0).trans rfl
  have z1 : w2.cell? ⟨w.heap.size, 1, none⟩ = some (.int .u32 e1) := (blk_cell H2.out 1).trans rfl
  have z2 : w2.cell? ⟨w.heap.size, 2, none⟩ = some (.int .u32 b1) := (blk_cell H2.out 2).trans rfl
  have z3 : w2.cell? ⟨w.heap.size, 3, none⟩ = some (.int .u16 i1) := (blk_cell H2.out 3).trans rfl
  have z4 : w2.cell? ⟨w.heap.size, 4, none⟩ = some (.int .u16 c1) := (blk_cell H2.out 4).trans rfl
  have z5 : w2.cell? ⟨w.heap.size, 5, none⟩ = some (.int .u32 l1) := (blk_cell H2.out 5).trans rfl
  have z6 : w2.cell? ⟨w.heap.size, 6, none⟩ = some (.int .u32 m1) := (blk_cell H2.out 6).trans rfl
  by_cases h1 : k < 1
  · go_wp2_with fail
    clear z0 z1 z2 z3 z4 z5 z6
    refine (epoch_nil w2).mono ?_
    rintro e w3 ⟨hb3, rfl⟩
    have T3 := Lib.hid (bl_seq T2.out hb3)
    clear hb3
    go_wp2_with fail
    go_ret
    exact ⟨rfl, T3.out⟩
  have h6 : 6 < k := by omega
  go_wp2_with fail
  clear z0 z1 z2 z3 z4 z5 z6
  refine (epoch_nil w2).mono ?_
  rintro e w3 ⟨hb3, rfl⟩
  have T3 := Lib.hid (bl_seq T2.out hb3)
  clear hb3
  go_wp2_with fail
  go_ret
  exact ⟨rfl, T3.out⟩
theorem rtells_walk (h : Hd) (w : World) (ho : h.ok) : Calls Try.prog 9 #[.agg (hdC h)] w fun e w' => e = .returned (.bool true) ∧ Below w.heap.size w w' := by
  obtain ⟨k, e1, b1, i1, c1, l1, m1⟩ := h
  have i0 : 0 ≤ i1 := ho.i0
  have i9 : i1 ≤ 65535 := by have h_ : i1 < 65536 := ho.i1; omega
  have c0 : 0 ≤ c1 := ho.c0
  have c9 : c1 ≤ 65535 := by have h_ : c1 < 65536 := ho.c1; omega
  by_cases hk : k < 1 ∨ 6 < k
  · exact rtells_none k e1 b1 i1 c1 l1 m1 w i0 i9 c0 c9 hk
  have hk6 : k = 1 ∨ k = 2 ∨ k = 3 ∨ k = 4 ∨ k = 5 ∨ k = 6 := by omega
  rcases hk6 with rfl | rfl | rfl | rfl | rfl | rfl
  · exact rtells_Table e1 b1 i1 c1 l1 m1 w i0 i9 c0 c9
  · exact rtells_Member e1 b1 i1 c1 l1 m1 w i0 i9 c0 c9
  · exact rtells_Point e1 b1 i1 c1 l1 m1 w i0 i9 c0 c9
  · exact rtells_Data e1 b1 i1 c1 l1 m1 w i0 i9 c0 c9
  · exact rtells_Parity e1 b1 i1 c1 l1 m1 w i0 i9 c0 c9
  · exact rtells_Fill e1 b1 i1 c1 l1 m1 w i0 i9 c0 c9
end Go.Proofs.Ytkmfdnoklabndaa
