import Derived.Test.YtdcelfoomjahjaaLain
/-! The law InodeMosts: its walk, size by size. Printed by gen_mosts.py. -/
set_option linter.unusedVariables false
set_option linter.unusedSimpArgs false
namespace Go.Proofs.Ytdcelfoomjahjaa
open Go.RowKit Go.Proofs.YtdcelfoomjahjaaW.PrintWords
theorem mod13 (a0 : Int) : 0 ≤ (IntKind.u64.wrap a0).tmod 13 ∧ (IntKind.u64.wrap a0).tmod 13 < 13 := by
  have h : 0 ≤ IntKind.u64.wrap a0 := by rw [IntKind.wrap_u64]; omega
  rw [Int.tmod_eq_emod_of_nonneg h]; omega
set_option maxHeartbeats 1000000 in
theorem most0 (w : World) : Calls Try.prog 12 #[.agg #[.int .i64 128, .int .i64 32, .int .i64 33, .int .i64 500, .int .i64 256]] w fun e w' => e = .returned (.int .i64 1067008) ∧ Below w.heap.size w w' := by
  go_enter Try.func12, Try.ntmps12
  go_wp2_with fail
  go_ret
  exact ⟨rfl, bl_alloc (Below.refl _ _) _⟩
set_option maxHeartbeats 1000000 in
theorem imosts_walk0 (a0 : Int) (w : World) (hj : (IntKind.u64.wrap a0).tmod 13 = 0) :
    Calls Try.prog 4 #[.int .i64 a0] w fun e w' => e = .returned (.bool true) ∧ Below w.heap.size w w' := by
  go_enter Try.func4, Try.ntmps4
  go_wp2_with fail
  refine (lay_any _ _ _ (by omega) (by omega) (by omega) (by omega)).mono ?_
  rintro e w1 ⟨rfl, hb1⟩
  rw [show layF 500 256 = ((128, 32, 33, 500, 256), 0) from by decide]
  simp only [layV]
  have H1 := Lib.hid hb1
  clear hb1
  go_wp2_with fail
  refine (laid_any _).mono ?_
  rintro e w2 ⟨rfl, hb2⟩
  have hbx : (w1.alloc (.cells #[.int .i64 128, .int .i64 32, .int .i64 33, .int .i64 500, .int .i64 256] 23)).heap[w1.heap.size]? = some (.cells #[.int .i64 128, .int .i64 32, .int .i64 33, .int .i64 500, .int .i64 256] 23 (0, 0)) := heap_alloc_new _ _
  have hbx2 := (hb2.block _ (by simp)).trans hbx
  have z0 := (blk_cell hbx2 0).trans rfl
  have z1 := (blk_cell hbx2 1).trans rfl
  have z2 := (blk_cell hbx2 2).trans rfl
  have z3 := (blk_cell hbx2 3).trans rfl
  have z4 := (blk_cell hbx2 4).trans rfl
  have H2 := Lib.hid hb2
  clear hb2 hbx hbx2
  go_wp2_with fail
  refine (most0 _).mono ?_
  rintro e w3 ⟨rfl, hb3⟩
  have H3 := Lib.hid hb3
  clear hb3
  go_wp2_with fail
  go_ret
  exact ⟨rfl, bl_seq (bl_seq (bl_alloc H1.out _) H2.out) H3.out⟩
set_option maxHeartbeats 1000000 in
theorem most1 (w : World) : Calls Try.prog 12 #[.agg #[.int .i64 125, .int .i64 25, .int .i64 26, .int .i64 500, .int .i64 320]] w fun e w' => e = .returned (.int .i64 2076160) ∧ Below w.heap.size w w' := by
  go_enter Try.func12, Try.ntmps12
  go_wp2_with fail
  go_ret
  exact ⟨rfl, bl_alloc (Below.refl _ _) _⟩
set_option maxHeartbeats 1000000 in
theorem imosts_walk1 (a0 : Int) (w : World) (hj : (IntKind.u64.wrap a0).tmod 13 = 1) :
    Calls Try.prog 4 #[.int .i64 a0] w fun e w' => e = .returned (.bool true) ∧ Below w.heap.size w w' := by
  go_enter Try.func4, Try.ntmps4
  go_wp2_with fail
  refine (lay_any _ _ _ (by omega) (by omega) (by omega) (by omega)).mono ?_
  rintro e w1 ⟨rfl, hb1⟩
  rw [show layF 500 320 = ((125, 25, 26, 500, 320), 0) from by decide]
  simp only [layV]
  have H1 := Lib.hid hb1
  clear hb1
  go_wp2_with fail
  refine (laid_any _).mono ?_
  rintro e w2 ⟨rfl, hb2⟩
  have hbx : (w1.alloc (.cells #[.int .i64 125, .int .i64 25, .int .i64 26, .int .i64 500, .int .i64 320] 23)).heap[w1.heap.size]? = some (.cells #[.int .i64 125, .int .i64 25, .int .i64 26, .int .i64 500, .int .i64 320] 23 (0, 0)) := heap_alloc_new _ _
  have hbx2 := (hb2.block _ (by simp)).trans hbx
  have z0 := (blk_cell hbx2 0).trans rfl
  have z1 := (blk_cell hbx2 1).trans rfl
  have z2 := (blk_cell hbx2 2).trans rfl
  have z3 := (blk_cell hbx2 3).trans rfl
  have z4 := (blk_cell hbx2 4).trans rfl
  have H2 := Lib.hid hb2
  clear hb2 hbx hbx2
  go_wp2_with fail
  refine (most1 _).mono ?_
  rintro e w3 ⟨rfl, hb3⟩
  have H3 := Lib.hid hb3
  clear hb3
  go_wp2_with fail
  go_ret
  exact ⟨rfl, bl_seq (bl_seq (bl_alloc H1.out _) H2.out) H3.out⟩
set_option maxHeartbeats 1000000 in
theorem most2 (w : World) : Calls Try.prog 12 #[.agg #[.int .i64 126, .int .i64 21, .int .i64 22, .int .i64 500, .int .i64 384]] w fun e w' => e = .returned (.int .i64 3578880) ∧ Below w.heap.size w w' := by
  go_enter Try.func12, Try.ntmps12
  go_wp2_with fail
  go_ret
  exact ⟨rfl, bl_alloc (Below.refl _ _) _⟩
set_option maxHeartbeats 1000000 in
theorem imosts_walk2 (a0 : Int) (w : World) (hj : (IntKind.u64.wrap a0).tmod 13 = 2) :
    Calls Try.prog 4 #[.int .i64 a0] w fun e w' => e = .returned (.bool true) ∧ Below w.heap.size w w' := by
  go_enter Try.func4, Try.ntmps4
  go_wp2_with fail
  refine (lay_any _ _ _ (by omega) (by omega) (by omega) (by omega)).mono ?_
  rintro e w1 ⟨rfl, hb1⟩
  rw [show layF 500 384 = ((126, 21, 22, 500, 384), 0) from by decide]
  simp only [layV]
  have H1 := Lib.hid hb1
  clear hb1
  go_wp2_with fail
  refine (laid_any _).mono ?_
  rintro e w2 ⟨rfl, hb2⟩
  have hbx : (w1.alloc (.cells #[.int .i64 126, .int .i64 21, .int .i64 22, .int .i64 500, .int .i64 384] 23)).heap[w1.heap.size]? = some (.cells #[.int .i64 126, .int .i64 21, .int .i64 22, .int .i64 500, .int .i64 384] 23 (0, 0)) := heap_alloc_new _ _
  have hbx2 := (hb2.block _ (by simp)).trans hbx
  have z0 := (blk_cell hbx2 0).trans rfl
  have z1 := (blk_cell hbx2 1).trans rfl
  have z2 := (blk_cell hbx2 2).trans rfl
  have z3 := (blk_cell hbx2 3).trans rfl
  have z4 := (blk_cell hbx2 4).trans rfl
  have H2 := Lib.hid hb2
  clear hb2 hbx hbx2
  go_wp2_with fail
  refine (most2 _).mono ?_
  rintro e w3 ⟨rfl, hb3⟩
  have H3 := Lib.hid hb3
  clear hb3
  go_wp2_with fail
  go_ret
  exact ⟨rfl, bl_seq (bl_seq (bl_alloc H1.out _) H2.out) H3.out⟩
set_option maxHeartbeats 1000000 in
theorem most3 (w : World) : Calls Try.prog 12 #[.agg #[.int .i64 126, .int .i64 18, .int .i64 19, .int .i64 500, .int .i64 448]] w fun e w' => e = .returned (.int .i64 5673472) ∧ Below w.heap.size w w' := by
  go_enter Try.func12, Try.ntmps12
  go_wp2_with fail
  go_ret
  exact ⟨rfl, bl_alloc (Below.refl _ _) _⟩
set_option maxHeartbeats 1000000 in
theorem imosts_walk3 (a0 : Int) (w : World) (hj : (IntKind.u64.wrap a0).tmod 13 = 3) :
    Calls Try.prog 4 #[.int .i64 a0] w fun e w' => e = .returned (.bool true) ∧ Below w.heap.size w w' := by
  go_enter Try.func4, Try.ntmps4
  go_wp2_with fail
  refine (lay_any _ _ _ (by omega) (by omega) (by omega) (by omega)).mono ?_
  rintro e w1 ⟨rfl, hb1⟩
  rw [show layF 500 448 = ((126, 18, 19, 500, 448), 0) from by decide]
  simp only [layV]
  have H1 := Lib.hid hb1
  clear hb1
  go_wp2_with fail
  refine (laid_any _).mono ?_
  rintro e w2 ⟨rfl, hb2⟩
  have hbx : (w1.alloc (.cells #[.int .i64 126, .int .i64 18, .int .i64 19, .int .i64 500, .int .i64 448] 23)).heap[w1.heap.size]? = some (.cells #[.int .i64 126, .int .i64 18, .int .i64 19, .int .i64 500, .int .i64 448] 23 (0, 0)) := heap_alloc_new _ _
  have hbx2 := (hb2.block _ (by simp)).trans hbx
  have z0 := (blk_cell hbx2 0).trans rfl
  have z1 := (blk_cell hbx2 1).trans rfl
  have z2 := (blk_cell hbx2 2).trans rfl
  have z3 := (blk_cell hbx2 3).trans rfl
  have z4 := (blk_cell hbx2 4).trans rfl
  have H2 := Lib.hid hb2
  clear hb2 hbx hbx2
  go_wp2_with fail
  refine (most3 _).mono ?_
  rintro e w3 ⟨rfl, hb3⟩
  have H3 := Lib.hid hb3
  clear hb3
  go_wp2_with fail
  go_ret
  exact ⟨rfl, bl_seq (bl_seq (bl_alloc H1.out _) H2.out) H3.out⟩
set_option maxHeartbeats 1000000 in
theorem most4 (w : World) : Calls Try.prog 12 #[.agg #[.int .i64 128, .int .i64 16, .int .i64 17, .int .i64 500, .int .i64 512]] w fun e w' => e = .returned (.int .i64 8458240) ∧ Below w.heap.size w w' := by
  go_enter Try.func12, Try.ntmps12
  go_wp2_with fail
  go_ret
  exact ⟨rfl, bl_alloc (Below.refl _ _) _⟩
set_option maxHeartbeats 1000000 in
theorem imosts_walk4 (a0 : Int) (w : World) (hj : (IntKind.u64.wrap a0).tmod 13 = 4) :
    Calls Try.prog 4 #[.int .i64 a0] w fun e w' => e = .returned (.bool true) ∧ Below w.heap.size w w' := by
  go_enter Try.func4, Try.ntmps4
  go_wp2_with fail
  refine (lay_any _ _ _ (by omega) (by omega) (by omega) (by omega)).mono ?_
  rintro e w1 ⟨rfl, hb1⟩
  rw [show layF 500 512 = ((128, 16, 17, 500, 512), 0) from by decide]
  simp only [layV]
  have H1 := Lib.hid hb1
  clear hb1
  go_wp2_with fail
  refine (laid_any _).mono ?_
  rintro e w2 ⟨rfl, hb2⟩
  have hbx : (w1.alloc (.cells #[.int .i64 128, .int .i64 16, .int .i64 17, .int .i64 500, .int .i64 512] 23)).heap[w1.heap.size]? = some (.cells #[.int .i64 128, .int .i64 16, .int .i64 17, .int .i64 500, .int .i64 512] 23 (0, 0)) := heap_alloc_new _ _
  have hbx2 := (hb2.block _ (by simp)).trans hbx
  have z0 := (blk_cell hbx2 0).trans rfl
  have z1 := (blk_cell hbx2 1).trans rfl
  have z2 := (blk_cell hbx2 2).trans rfl
  have z3 := (blk_cell hbx2 3).trans rfl
  have z4 := (blk_cell hbx2 4).trans rfl
  have H2 := Lib.hid hb2
  clear hb2 hbx hbx2
  go_wp2_with fail
  refine (most4 _).mono ?_
  rintro e w3 ⟨rfl, hb3⟩
  have H3 := Lib.hid hb3
  clear hb3
  go_wp2_with fail
  go_ret
  exact ⟨rfl, bl_seq (bl_seq (bl_alloc H1.out _) H2.out) H3.out⟩
set_option maxHeartbeats 1000000 in
theorem most5 (w : World) : Calls Try.prog 12 #[.agg #[.int .i64 126, .int .i64 14, .int .i64 15, .int .i64 500, .int .i64 576]] w fun e w' => e = .returned (.int .i64 12031488) ∧ Below w.heap.size w w' := by
  go_enter Try.func12, Try.ntmps12
  go_wp2_with fail
  go_ret
  exact ⟨rfl, bl_alloc (Below.refl _ _) _⟩
set_option maxHeartbeats 1000000 in
theorem imosts_walk5 (a0 : Int) (w : World) (hj : (IntKind.u64.wrap a0).tmod 13 = 5) :
    Calls Try.prog 4 #[.int .i64 a0] w fun e w' => e = .returned (.bool true) ∧ Below w.heap.size w w' := by
  go_enter Try.func4, Try.ntmps4
  go_wp2_with fail
  refine (lay_any _ _ _ (by omega) (by omega) (by omega) (by omega)).mono ?_
  rintro e w1 ⟨rfl, hb1⟩
  rw [show layF 500 576 = ((126, 14, 15, 500, 576), 0) from by decide]
  simp only [layV]
  have H1 := Lib.hid hb1
  clear hb1
  go_wp2_with fail
  refine (laid_any _).mono ?_
  rintro e w2 ⟨rfl, hb2⟩
  have hbx : (w1.alloc (.cells #[.int .i64 126, .int .i64 14, .int .i64 15, .int .i64 500, .int .i64 576] 23)).heap[w1.heap.size]? = some (.cells #[.int .i64 126, .int .i64 14, .int .i64 15, .int .i64 500, .int .i64 576] 23 (0, 0)) := heap_alloc_new _ _
  have hbx2 := (hb2.block _ (by simp)).trans hbx
  have z0 := (blk_cell hbx2 0).trans rfl
  have z1 := (blk_cell hbx2 1).trans rfl
  have z2 := (blk_cell hbx2 2).trans rfl
  have z3 := (blk_cell hbx2 3).trans rfl
  have z4 := (blk_cell hbx2 4).trans rfl
  have H2 := Lib.hid hb2
  clear hb2 hbx hbx2
  go_wp2_with fail
  refine (most5 _).mono ?_
  rintro e w3 ⟨rfl, hb3⟩
  have H3 := Lib.hid hb3
  clear hb3
  go_wp2_with fail
  go_ret
  exact ⟨rfl, bl_seq (bl_seq (bl_alloc H1.out _) H2.out) H3.out⟩
set_option maxHeartbeats 1000000 in
theorem most6 (w : World) : Calls Try.prog 12 #[.agg #[.int .i64 130, .int .i64 13, .int .i64 14, .int .i64 500, .int .i64 640]] w fun e w' => e = .returned (.int .i64 16491520) ∧ Below w.heap.size w w' := by
  go_enter Try.func12, Try.ntmps12
  go_wp2_with fail
  go_ret
  exact ⟨rfl, bl_alloc (Below.refl _ _) _⟩
set_option maxHeartbeats 1000000 in
theorem imosts_walk6 (a0 : Int) (w : World) (hj : (IntKind.u64.wrap a0).tmod 13 = 6) :
    Calls Try.prog 4 #[.int .i64 a0] w fun e w' => e = .returned (.bool true) ∧ Below w.heap.size w w' := by
  go_enter Try.func4, Try.ntmps4
  go_wp2_with fail
  refine (lay_any _ _ _ (by omega) (by omega) (by omega) (by omega)).mono ?_
  rintro e w1 ⟨rfl, hb1⟩
  rw [show layF 500 640 = ((130, 13, 14, 500, 640), 0) from by decide]
  simp only [layV]
  have H1 := Lib.hid hb1
  clear hb1
  go_wp2_with fail
  refine (laid_any _).mono ?_
  rintro e w2 ⟨rfl, hb2⟩
  have hbx : (w1.alloc (.cells #[.int .i64 130, .int .i64 13, .int .i64 14, .int .i64 500, .int .i64 640] 23)).heap[w1.heap.size]? = some (.cells #[.int .i64 130, .int .i64 13, .int .i64 14, .int .i64 500, .int .i64 640] 23 (0, 0)) := heap_alloc_new _ _
  have hbx2 := (hb2.block _ (by simp)).trans hbx
  have z0 := (blk_cell hbx2 0).trans rfl
  have z1 := (blk_cell hbx2 1).trans rfl
  have z2 := (blk_cell hbx2 2).trans rfl
  have z3 := (blk_cell hbx2 3).trans rfl
  have z4 := (blk_cell hbx2 4).trans rfl
  have H2 := Lib.hid hb2
  clear hb2 hbx hbx2
  go_wp2_with fail
  refine (most6 _).mono ?_
  rintro e w3 ⟨rfl, hb3⟩
  have H3 := Lib.hid hb3
  clear hb3
  go_wp2_with fail
  go_ret
  exact ⟨rfl, bl_seq (bl_seq (bl_alloc H1.out _) H2.out) H3.out⟩
set_option maxHeartbeats 1000000 in
theorem most7 (w : World) : Calls Try.prog 12 #[.agg #[.int .i64 132, .int .i64 12, .int .i64 13, .int .i64 500, .int .i64 704]] w fun e w' => e = .returned (.int .i64 21936640) ∧ Below w.heap.size w w' := by
  go_enter Try.func12, Try.ntmps12
  go_wp2_with fail
  go_ret
  exact ⟨rfl, bl_alloc (Below.refl _ _) _⟩
set_option maxHeartbeats 1000000 in
theorem imosts_walk7 (a0 : Int) (w : World) (hj : (IntKind.u64.wrap a0).tmod 13 = 7) :
    Calls Try.prog 4 #[.int .i64 a0] w fun e w' => e = .returned (.bool true) ∧ Below w.heap.size w w' := by
  go_enter Try.func4, Try.ntmps4
  go_wp2_with fail
  refine (lay_any _ _ _ (by omega) (by omega) (by omega) (by omega)).mono ?_
  rintro e w1 ⟨rfl, hb1⟩
  rw [show layF 500 704 = ((132, 12, 13, 500, 704), 0) from by decide]
  simp only [layV]
  have H1 := Lib.hid hb1
  clear hb1
  go_wp2_with fail
  refine (laid_any _).mono ?_
  rintro e w2 ⟨rfl, hb2⟩
  have hbx : (w1.alloc (.cells #[.int .i64 132, .int .i64 12, .int .i64 13, .int .i64 500, .int .i64 704] 23)).heap[w1.heap.size]? = some (.cells #[.int .i64 132, .int .i64 12, .int .i64 13, .int .i64 500, .int .i64 704] 23 (0, 0)) := heap_alloc_new _ _
  have hbx2 := (hb2.block _ (by simp)).trans hbx
  have z0 := (blk_cell hbx2 0).trans rfl
  have z1 := (blk_cell hbx2 1).trans rfl
  have z2 := (blk_cell hbx2 2).trans rfl
  have z3 := (blk_cell hbx2 3).trans rfl
  have z4 := (blk_cell hbx2 4).trans rfl
  have H2 := Lib.hid hb2
  clear hb2 hbx hbx2
  go_wp2_with fail
  refine (most7 _).mono ?_
  rintro e w3 ⟨rfl, hb3⟩
  have H3 := Lib.hid hb3
  clear hb3
  go_wp2_with fail
  go_ret
  exact ⟨rfl, bl_seq (bl_seq (bl_alloc H1.out _) H2.out) H3.out⟩
set_option maxHeartbeats 1000000 in
theorem most8 (w : World) : Calls Try.prog 12 #[.agg #[.int .i64 132, .int .i64 11, .int .i64 12, .int .i64 500, .int .i64 768]] w fun e w' => e = .returned (.int .i64 28465152) ∧ Below w.heap.size w w' := by
  go_enter Try.func12, Try.ntmps12
  go_wp2_with fail
  go_ret
  exact ⟨rfl, bl_alloc (Below.refl _ _) _⟩
set_option maxHeartbeats 1000000 in
theorem imosts_walk8 (a0 : Int) (w : World) (hj : (IntKind.u64.wrap a0).tmod 13 = 8) :
    Calls Try.prog 4 #[.int .i64 a0] w fun e w' => e = .returned (.bool true) ∧ Below w.heap.size w w' := by
  go_enter Try.func4, Try.ntmps4
  go_wp2_with fail
  refine (lay_any _ _ _ (by omega) (by omega) (by omega) (by omega)).mono ?_
  rintro e w1 ⟨rfl, hb1⟩
  rw [show layF 500 768 = ((132, 11, 12, 500, 768), 0) from by decide]
  simp only [layV]
  have H1 := Lib.hid hb1
  clear hb1
  go_wp2_with fail
  refine (laid_any _).mono ?_
  rintro e w2 ⟨rfl, hb2⟩
  have hbx : (w1.alloc (.cells #[.int .i64 132, .int .i64 11, .int .i64 12, .int .i64 500, .int .i64 768] 23)).heap[w1.heap.size]? = some (.cells #[.int .i64 132, .int .i64 11, .int .i64 12, .int .i64 500, .int .i64 768] 23 (0, 0)) := heap_alloc_new _ _
  have hbx2 := (hb2.block _ (by simp)).trans hbx
  have z0 := (blk_cell hbx2 0).trans rfl
  have z1 := (blk_cell hbx2 1).trans rfl
  have z2 := (blk_cell hbx2 2).trans rfl
  have z3 := (blk_cell hbx2 3).trans rfl
  have z4 := (blk_cell hbx2 4).trans rfl
  have H2 := Lib.hid hb2
  clear hb2 hbx hbx2
  go_wp2_with fail
  refine (most8 _).mono ?_
  rintro e w3 ⟨rfl, hb3⟩
  have H3 := Lib.hid hb3
  clear hb3
  go_wp2_with fail
  go_ret
  exact ⟨rfl, bl_seq (bl_seq (bl_alloc H1.out _) H2.out) H3.out⟩
set_option maxHeartbeats 1000000 in
theorem most9 (w : World) : Calls Try.prog 12 #[.agg #[.int .i64 130, .int .i64 10, .int .i64 11, .int .i64 500, .int .i64 832]] w fun e w' => e = .returned (.int .i64 36175360) ∧ Below w.heap.size w w' := by
  go_enter Try.func12, Try.ntmps12
  go_wp2_with fail
  go_ret
  exact ⟨rfl, bl_alloc (Below.refl _ _) _⟩
set_option maxHeartbeats 1000000 in
theorem imosts_walk9 (a0 : Int) (w : World) (hj : (IntKind.u64.wrap a0).tmod 13 = 9) :
    Calls Try.prog 4 #[.int .i64 a0] w fun e w' => e = .returned (.bool true) ∧ Below w.heap.size w w' := by
  go_enter Try.func4, Try.ntmps4
  go_wp2_with fail
  refine (lay_any _ _ _ (by omega) (by omega) (by omega) (by omega)).mono ?_
  rintro e w1 ⟨rfl, hb1⟩
  rw [show layF 500 832 = ((130, 10, 11, 500, 832), 0) from by decide]
  simp only [layV]
  have H1 := Lib.hid hb1
  clear hb1
  go_wp2_with fail
  refine (laid_any _).mono ?_
  rintro e w2 ⟨rfl, hb2⟩
  have hbx : (w1.alloc (.cells #[.int .i64 130, .int .i64 10, .int .i64 11, .int .i64 500, .int .i64 832] 23)).heap[w1.heap.size]? = some (.cells #[.int .i64 130, .int .i64 10, .int .i64 11, .int .i64 500, .int .i64 832] 23 (0, 0)) := heap_alloc_new _ _
  have hbx2 := (hb2.block _ (by simp)).trans hbx
  have z0 := (blk_cell hbx2 0).trans rfl
  have z1 := (blk_cell hbx2 1).trans rfl
  have z2 := (blk_cell hbx2 2).trans rfl
  have z3 := (blk_cell hbx2 3).trans rfl
  have z4 := (blk_cell hbx2 4).trans rfl
  have H2 := Lib.hid hb2
  clear hb2 hbx hbx2
  go_wp2_with fail
  refine (most9 _).mono ?_
  rintro e w3 ⟨rfl, hb3⟩
  have H3 := Lib.hid hb3
  clear hb3
  go_wp2_with fail
  go_ret
  exact ⟨rfl, bl_seq (bl_seq (bl_alloc H1.out _) H2.out) H3.out⟩
set_option maxHeartbeats 1000000 in
theorem most10 (w : World) : Calls Try.prog 12 #[.agg #[.int .i64 126, .int .i64 9, .int .i64 10, .int .i64 500, .int .i64 896]] w fun e w' => e = .returned (.int .i64 45165568) ∧ Below w.heap.size w w' := by
  go_enter Try.func12, Try.ntmps12
  go_wp2_with fail
  go_ret
  exact ⟨rfl, bl_alloc (Below.refl _ _) _⟩
set_option maxHeartbeats 1000000 in
theorem imosts_walk10 (a0 : Int) (w : World) (hj : (IntKind.u64.wrap a0).tmod 13 = 10) :
    Calls Try.prog 4 #[.int .i64 a0] w fun e w' => e = .returned (.bool true) ∧ Below w.heap.size w w' := by
  go_enter Try.func4, Try.ntmps4
  go_wp2_with fail
  refine (lay_any _ _ _ (by omega) (by omega) (by omega) (by omega)).mono ?_
  rintro e w1 ⟨rfl, hb1⟩
  rw [show layF 500 896 = ((126, 9, 10, 500, 896), 0) from by decide]
  simp only [layV]
  have H1 := Lib.hid hb1
  clear hb1
  go_wp2_with fail
  refine (laid_any _).mono ?_
  rintro e w2 ⟨rfl, hb2⟩
  have hbx : (w1.alloc (.cells #[.int .i64 126, .int .i64 9, .int .i64 10, .int .i64 500, .int .i64 896] 23)).heap[w1.heap.size]? = some (.cells #[.int .i64 126, .int .i64 9, .int .i64 10, .int .i64 500, .int .i64 896] 23 (0, 0)) := heap_alloc_new _ _
  have hbx2 := (hb2.block _ (by simp)).trans hbx
  have z0 := (blk_cell hbx2 0).trans rfl
  have z1 := (blk_cell hbx2 1).trans rfl
  have z2 := (blk_cell hbx2 2).trans rfl
  have z3 := (blk_cell hbx2 3).trans rfl
  have z4 := (blk_cell hbx2 4).trans rfl
  have H2 := Lib.hid hb2
  clear hb2 hbx hbx2
  go_wp2_with fail
  refine (most10 _).mono ?_
  rintro e w3 ⟨rfl, hb3⟩
  have H3 := Lib.hid hb3
  clear hb3
  go_wp2_with fail
  go_ret
  exact ⟨rfl, bl_seq (bl_seq (bl_alloc H1.out _) H2.out) H3.out⟩
set_option maxHeartbeats 1000000 in
theorem most11 (w : World) : Calls Try.prog 12 #[.agg #[.int .i64 135, .int .i64 9, .int .i64 10, .int .i64 500, .int .i64 960]] w fun e w' => e = .returned (.int .i64 55534080) ∧ Below w.heap.size w w' := by
  go_enter Try.func12, Try.ntmps12
  go_wp2_with fail
  go_ret
  exact ⟨rfl, bl_alloc (Below.refl _ _) _⟩
set_option maxHeartbeats 1000000 in
theorem imosts_walk11 (a0 : Int) (w : World) (hj : (IntKind.u64.wrap a0).tmod 13 = 11) :
    Calls Try.prog 4 #[.int .i64 a0] w fun e w' => e = .returned (.bool true) ∧ Below w.heap.size w w' := by
  go_enter Try.func4, Try.ntmps4
  go_wp2_with fail
  refine (lay_any _ _ _ (by omega) (by omega) (by omega) (by omega)).mono ?_
  rintro e w1 ⟨rfl, hb1⟩
  rw [show layF 500 960 = ((135, 9, 10, 500, 960), 0) from by decide]
  simp only [layV]
  have H1 := Lib.hid hb1
  clear hb1
  go_wp2_with fail
  refine (laid_any _).mono ?_
  rintro e w2 ⟨rfl, hb2⟩
  have hbx : (w1.alloc (.cells #[.int .i64 135, .int .i64 9, .int .i64 10, .int .i64 500, .int .i64 960] 23)).heap[w1.heap.size]? = some (.cells #[.int .i64 135, .int .i64 9, .int .i64 10, .int .i64 500, .int .i64 960] 23 (0, 0)) := heap_alloc_new _ _
  have hbx2 := (hb2.block _ (by simp)).trans hbx
  have z0 := (blk_cell hbx2 0).trans rfl
  have z1 := (blk_cell hbx2 1).trans rfl
  have z2 := (blk_cell hbx2 2).trans rfl
  have z3 := (blk_cell hbx2 3).trans rfl
  have z4 := (blk_cell hbx2 4).trans rfl
  have H2 := Lib.hid hb2
  clear hb2 hbx hbx2
  go_wp2_with fail
  refine (most11 _).mono ?_
  rintro e w3 ⟨rfl, hb3⟩
  have H3 := Lib.hid hb3
  clear hb3
  go_wp2_with fail
  go_ret
  exact ⟨rfl, bl_seq (bl_seq (bl_alloc H1.out _) H2.out) H3.out⟩
set_option maxHeartbeats 1000000 in
theorem most12 (w : World) : Calls Try.prog 12 #[.agg #[.int .i64 128, .int .i64 8, .int .i64 9, .int .i64 500, .int .i64 1024]] w fun e w' => e = .returned (.int .i64 67379200) ∧ Below w.heap.size w w' := by
  go_enter Try.func12, Try.ntmps12
  go_wp2_with fail
  go_ret
  exact ⟨rfl, bl_alloc (Below.refl _ _) _⟩
set_option maxHeartbeats 1000000 in
theorem imosts_walk12 (a0 : Int) (w : World) (hj : (IntKind.u64.wrap a0).tmod 13 = 12) :
    Calls Try.prog 4 #[.int .i64 a0] w fun e w' => e = .returned (.bool true) ∧ Below w.heap.size w w' := by
  go_enter Try.func4, Try.ntmps4
  go_wp2_with fail
  refine (lay_any _ _ _ (by omega) (by omega) (by omega) (by omega)).mono ?_
  rintro e w1 ⟨rfl, hb1⟩
  rw [show layF 500 1024 = ((128, 8, 9, 500, 1024), 0) from by decide]
  simp only [layV]
  have H1 := Lib.hid hb1
  clear hb1
  go_wp2_with fail
  refine (laid_any _).mono ?_
  rintro e w2 ⟨rfl, hb2⟩
  have hbx : (w1.alloc (.cells #[.int .i64 128, .int .i64 8, .int .i64 9, .int .i64 500, .int .i64 1024] 23)).heap[w1.heap.size]? = some (.cells #[.int .i64 128, .int .i64 8, .int .i64 9, .int .i64 500, .int .i64 1024] 23 (0, 0)) := heap_alloc_new _ _
  have hbx2 := (hb2.block _ (by simp)).trans hbx
  have z0 := (blk_cell hbx2 0).trans rfl
  have z1 := (blk_cell hbx2 1).trans rfl
  have z2 := (blk_cell hbx2 2).trans rfl
  have z3 := (blk_cell hbx2 3).trans rfl
  have z4 := (blk_cell hbx2 4).trans rfl
  have H2 := Lib.hid hb2
  clear hb2 hbx hbx2
  go_wp2_with fail
  refine (most12 _).mono ?_
  rintro e w3 ⟨rfl, hb3⟩
  have H3 := Lib.hid hb3
  clear hb3
  go_wp2_with fail
  go_ret
  exact ⟨rfl, bl_seq (bl_seq (bl_alloc H1.out _) H2.out) H3.out⟩
theorem imosts_walk (a0 : Int) (w : World) (h0 : -9223372036854775808 ≤ a0) (h1 : a0 ≤ 9223372036854775807) :
    Calls Try.prog 4 #[.int .i64 a0] w fun e w' => e = .returned (.bool true) ∧ Below w.heap.size w w' := by
  have h := mod13 a0
  by_cases c0 : (IntKind.u64.wrap a0).tmod 13 = 0
  · exact imosts_walk0 a0 w c0
  by_cases c1 : (IntKind.u64.wrap a0).tmod 13 = 1
  · exact imosts_walk1 a0 w c1
  by_cases c2 : (IntKind.u64.wrap a0).tmod 13 = 2
  · exact imosts_walk2 a0 w c2
  by_cases c3 : (IntKind.u64.wrap a0).tmod 13 = 3
  · exact imosts_walk3 a0 w c3
  by_cases c4 : (IntKind.u64.wrap a0).tmod 13 = 4
  · exact imosts_walk4 a0 w c4
  by_cases c5 : (IntKind.u64.wrap a0).tmod 13 = 5
  · exact imosts_walk5 a0 w c5
  by_cases c6 : (IntKind.u64.wrap a0).tmod 13 = 6
  · exact imosts_walk6 a0 w c6
  by_cases c7 : (IntKind.u64.wrap a0).tmod 13 = 7
  · exact imosts_walk7 a0 w c7
  by_cases c8 : (IntKind.u64.wrap a0).tmod 13 = 8
  · exact imosts_walk8 a0 w c8
  by_cases c9 : (IntKind.u64.wrap a0).tmod 13 = 9
  · exact imosts_walk9 a0 w c9
  by_cases c10 : (IntKind.u64.wrap a0).tmod 13 = 10
  · exact imosts_walk10 a0 w c10
  by_cases c11 : (IntKind.u64.wrap a0).tmod 13 = 11
  · exact imosts_walk11 a0 w c11
  exact imosts_walk12 a0 w (by omega)
end Go.Proofs.Ytdcelfoomjahjaa
