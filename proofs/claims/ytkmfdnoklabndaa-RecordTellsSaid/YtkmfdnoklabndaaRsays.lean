import Derived.Test.YtkmfdnoklabndaaSaid
import Derived.Test.YtkmfdnoklabndaaSealed
/-! The law RecordSays: its walk. -/
set_option linter.unusedVariables false
set_option linter.unusedSimpArgs false
namespace Go.Proofs.Ytkmfdnoklabndaa
open Go.RowKit Go.Proofs.YtkmfdnoklabndaaW.PrintWords Go.Proofs.YtkmfdnoklabndaaW.PrintLast
theorem i64w {i : Int} (h0 : -9223372036854775808 ≤ i) (h1 : i ≤ 9223372036854775807) : IntKind.i64.wrap i = i := by rw [i64_w]; unfold wrap64; omega
set_option maxHeartbeats 16000000 in
set_option maxRecDepth 100000 in
theorem rsays_walk (x0 x1 x2 x3 x4 y0 y1 y2 y3 q : Int) (w : World) (hx2 : -9223372036854775808 ≤ x2 ∧ x2 ≤ 9223372036854775807) (hx3 : -9223372036854775808 ≤ x3 ∧ x3 ≤ 9223372036854775807) (hy2 : -9223372036854775808 ≤ y2 ∧ y2 ≤ 9223372036854775807) (hy3 : -9223372036854775808 ≤ y3 ∧ y3 ≤ 9223372036854775807) :
    Calls Try.prog 8 #[.agg #[.int .u32 x0, .int .u32 x1, .int .i64 x2, .int .i64 x3, .int .u32 x4], .agg #[.int .u32 y0, .int .u32 y1, .int .i64 y2, .int .i64 y3], .int .i64 q] w fun e w' => e = .returned (.bool true) ∧ Below w.heap.size w w' := by
  go_enter Try.func8, Try.ntmps8
  go_wp2_with fail
  have D0 : ((w.alloc (.cells #[.int .u32 x0, .int .u32 x1, .int .i64 x2, .int .i64 x3, .int .u32 x4] 53)).alloc (.cells #[.int .u32 y0, .int .u32 y1, .int .i64 y2, .int .i64 y3] 55)).heap[w.heap.size]? = some (.cells #[.int .u32 x0, .int .u32 x1, .int .i64 x2, .int .i64 x3, .int .u32 x4] 53 (0, 0)) := blk_alloc (heap_alloc_new _ _) _
  have P0 : ((w.alloc (.cells #[.int .u32 x0, .int .u32 x1, .int .i64 x2, .int .i64 x3, .int .u32 x4] 53)).alloc (.cells #[.int .u32 y0, .int .u32 y1, .int .i64 y2, .int .i64 y3] 55)).heap[w.heap.size + 1]? = some (.cells #[.int .u32 y0, .int .u32 y1, .int .i64 y2, .int .i64 y3] 55 (0, 0)) := by
    have h_ := heap_alloc_new (w.alloc (.cells #[.int .u32 x0, .int .u32 x1, .int .i64 x2, .int .i64 x3, .int .u32 x4] 53)) (.cells #[.int .u32 y0, .int .u32 y1, .int .i64 y2, .int .i64 y3] 55)
    simp only [World.size_alloc] at h_
    exact h_
  have T0 : Below w.heap.size w ((w.alloc (.cells #[.int .u32 x0, .int .u32 x1, .int .i64 x2, .int .i64 x3, .int .u32 x4] 53)).alloc (.cells #[.int .u32 y0, .int .u32 y1, .int .i64 y2, .int .i64 y3] 55)) := bl_alloc (bl_alloc (Below.refl _ _) _) _
  refine (said_Data x0 x1 x2 x3 x4 _).mono ?_
  rintro e w2 ⟨hb2_, he2⟩
  have T2 := Lib.hid (bl_seq T0 hb2_)
  have D2 := Lib.hid (blk_below D0 hb2_)
  have P2 := Lib.hid (blk_below P0 hb2_)
  clear T0 D0 P0 hb2_
  by_cases x2a : x2 < 0
  · have HN : fitsB x2 x3 = false := by simp [fitsB]; omega
    rw [saidH_no HN, HN, show (hdC hd0 : Array Value) = #[.int .u8 0, .int .u32 0, .int .u32 0, .int .u16 0, .int .u16 0, .int .u32 0, .int .u32 0] from rfl] at he2
    subst he2
    clear HN
    have hb2 : (w2.alloc (.cells #[.int .u8 0, .int .u32 0, .int .u32 0, .int .u16 0, .int .u16 0, .int .u32 0, .int .u32 0] 25)).heap[w2.heap.size]? = some (.cells #[.int .u8 0, .int .u32 0, .int .u32 0, .int .u16 0, .int .u16 0, .int .u32 0, .int .u32 0] 25 (0, 0)) := heap_alloc_new _ _
    have t2 : Below w.heap.size w (w2.alloc (.cells #[.int .u8 0, .int .u32 0, .int .u32 0, .int .u16 0, .int .u16 0, .int .u32 0, .int .u32 0] 25)) := bl_alloc T2.out _
    have dblk := blk_alloc D2.out (.cells #[.int .u8 0, .int .u32 0, .int .u32 0, .int .u16 0, .int .u16 0, .int .u32 0, .int .u32 0] 25)
    have pblk := blk_alloc P2.out (.cells #[.int .u8 0, .int .u32 0, .int .u32 0, .int .u16 0, .int .u16 0, .int .u32 0, .int .u32 0] 25)
    have d0 : (w2.alloc (.cells #[.int .u8 0, .int .u32 0, .int .u32 0, .int .u16 0, .int .u16 0, .int .u32 0, .int .u32 0] 25)).cell? ⟨w.heap.size, 0, none⟩ = some (.int .u32 x0) := (blk_cell dblk 0).trans rfl
    have d1 : (w2.alloc (.cells #[.int .u8 0, .int .u32 0, .int .u32 0, .int .u16 0, .int .u16 0, .int .u32 0, .int .u32 0] 25)).cell? ⟨w.heap.size, 1, none⟩ = some (.int .u32 x1) := (blk_cell dblk 1).trans rfl
    have d2 : (w2.alloc (.cells #[.int .u8 0, .int .u32 0, .int .u32 0, .int .u16 0, .int .u16 0, .int .u32 0, .int .u32 0] 25)).cell? ⟨w.heap.size, 2, none⟩ = some (.int .i64 x2) := (blk_cell dblk 2).trans rfl
    have d3 : (w2.alloc (.cells #[.int .u8 0, .int .u32 0, .int .u32 0, .int .u16 0, .int .u16 0, .int .u32 0, .int .u32 0] 25)).cell? ⟨w.heap.size, 3, none⟩ = some (.int .i64 x3) := (blk_cell dblk 3).trans rfl
    have d4 : (w2.alloc (.cells #[.int .u8 0, .int .u32 0, .int .u32 0, .int .u16 0, .int .u16 0, .int .u32 0, .int .u32 0] 25)).cell? ⟨w.heap.size, 4, none⟩ = some (.int .u32 x4) := (blk_cell dblk 4).trans rfl
    have H2 := Lib.hid (And.intro hb2 (And.intro t2 (And.intro dblk pblk)))
    clear hb2 t2 dblk pblk
    go_wp2_with fail
    clear d0 d1 d2 d3 d4
    refine (sealed_any _).mono ?_
    rintro e w3 ⟨rfl, hb3⟩
    have T3 := Lib.hid (bl_seq H2.out.2.1 hb3)
    have P3 := Lib.hid (blk_below H2.out.2.2.2 hb3)
    have dd := blk_below H2.out.2.2.1 hb3
    have aa := blk_below H2.out.1 hb3
    have d0 : w3.cell? ⟨w.heap.size, 0, none⟩ = some (.int .u32 x0) := (blk_cell dd 0).trans rfl
    have d1 : w3.cell? ⟨w.heap.size, 1, none⟩ = some (.int .u32 x1) := (blk_cell dd 1).trans rfl
    have d2 : w3.cell? ⟨w.heap.size, 2, none⟩ = some (.int .i64 x2) := (blk_cell dd 2).trans rfl
    have d3 : w3.cell? ⟨w.heap.size, 3, none⟩ = some (.int .i64 x3) := (blk_cell dd 3).trans rfl
    have d4 : w3.cell? ⟨w.heap.size, 4, none⟩ = some (.int .u32 x4) := (blk_cell dd 4).trans rfl
    have a0 : w3.cell? ⟨w2.heap.size, 0, none⟩ = some (.int .u8 0) := (blk_cell aa 0).trans rfl
    have a1 : w3.cell? ⟨w2.heap.size, 1, none⟩ = some (.int .u32 0) := (blk_cell aa 1).trans rfl
    have a2 : w3.cell? ⟨w2.heap.size, 2, none⟩ = some (.int .u32 0) := (blk_cell aa 2).trans rfl
    have a3 : w3.cell? ⟨w2.heap.size, 3, none⟩ = some (.int .u16 0) := (blk_cell aa 3).trans rfl
    have a4 : w3.cell? ⟨w2.heap.size, 4, none⟩ = some (.int .u16 0) := (blk_cell aa 4).trans rfl
    have a5 : w3.cell? ⟨w2.heap.size, 5, none⟩ = some (.int .u32 0) := (blk_cell aa 5).trans rfl
    have a6 : w3.cell? ⟨w2.heap.size, 6, none⟩ = some (.int .u32 0) := (blk_cell aa 6).trans rfl
    have p0 : w3.cell? ⟨w.heap.size + 1, 0, none⟩ = some (.int .u32 y0) := (blk_cell P3.out 0).trans rfl
    have p1 : w3.cell? ⟨w.heap.size + 1, 1, none⟩ = some (.int .u32 y1) := (blk_cell P3.out 1).trans rfl
    have p2 : w3.cell? ⟨w.heap.size + 1, 2, none⟩ = some (.int .i64 y2) := (blk_cell P3.out 2).trans rfl
    have p3 : w3.cell? ⟨w.heap.size + 1, 3, none⟩ = some (.int .i64 y3) := (blk_cell P3.out 3).trans rfl
    clear hb3 H2 dd aa
    have nez := neHd hd0 hd0
    rw [hdEq_self] at nez
    simp only [hdC, hd0] at nez
    go_wp2_with fail
    clear d0 d1 d2 d3 d4 a0 a1 a2 a3 a4 a5 a6 p0 p1 p2 p3
    refine (said_Parity y0 y1 y2 y3 _).mono ?_
    rintro e w4 ⟨hb4_, he4⟩
    have T4 := Lib.hid (bl_seq T3.out hb4_)
    have P4 := Lib.hid (blk_below P3.out hb4_)
    clear hb4_
    by_cases y2a : y2 < 0
    · have HN : fitsB y2 y3 = false := by simp [fitsB]; omega
      rw [saidH_no HN, HN, show (hdC hd0 : Array Value) = #[.int .u8 0, .int .u32 0, .int .u32 0, .int .u16 0, .int .u16 0, .int .u32 0, .int .u32 0] from rfl] at he4
      subst he4
      clear HN
      have hb4 : (w4.alloc (.cells #[.int .u8 0, .int .u32 0, .int .u32 0, .int .u16 0, .int .u16 0, .int .u32 0, .int .u32 0] 25)).heap[w4.heap.size]? = some (.cells #[.int .u8 0, .int .u32 0, .int .u32 0, .int .u16 0, .int .u16 0, .int .u32 0, .int .u32 0] 25 (0, 0)) := heap_alloc_new _ _
      have t4 : Below w.heap.size w (w4.alloc (.cells #[.int .u8 0, .int .u32 0, .int .u32 0, .int .u16 0, .int .u16 0, .int .u32 0, .int .u32 0] 25)) := bl_alloc T4.out _
      have pp := blk_alloc P4.out (.cells #[.int .u8 0, .int .u32 0, .int .u32 0, .int .u16 0, .int .u16 0, .int .u32 0, .int .u32 0] 25)
      have b0 : (w4.alloc (.cells #[.int .u8 0, .int .u32 0, .int .u32 0, .int .u16 0, .int .u16 0, .int .u32 0, .int .u32 0] 25)).cell? ⟨w4.heap.size, 0, none⟩ = some (.int .u8 0) := (blk_cell hb4 0).trans rfl
      have b1 : (w4.alloc (.cells #[.int .u8 0, .int .u32 0, .int .u32 0, .int .u16 0, .int .u16 0, .int .u32 0, .int .u32 0] 25)).cell? ⟨w4.heap.size, 1, none⟩ = some (.int .u32 0) := (blk_cell hb4 1).trans rfl
      have b2 : (w4.alloc (.cells #[.int .u8 0, .int .u32 0, .int .u32 0, .int .u16 0, .int .u16 0, .int .u32 0, .int .u32 0] 25)).cell? ⟨w4.heap.size, 2, none⟩ = some (.int .u32 0) := (blk_cell hb4 2).trans rfl
      have b3 : (w4.alloc (.cells #[.int .u8 0, .int .u32 0, .int .u32 0, .int .u16 0, .int .u16 0, .int .u32 0, .int .u32 0] 25)).cell? ⟨w4.heap.size, 3, none⟩ = some (.int .u16 0) := (blk_cell hb4 3).trans rfl
      have b4 : (w4.alloc (.cells #[.int .u8 0, .int .u32 0, .int .u32 0, .int .u16 0, .int .u16 0, .int .u32 0, .int .u32 0] 25)).cell? ⟨w4.heap.size, 4, none⟩ = some (.int .u16 0) := (blk_cell hb4 4).trans rfl
      have b5 : (w4.alloc (.cells #[.int .u8 0, .int .u32 0, .int .u32 0, .int .u16 0, .int .u16 0, .int .u32 0, .int .u32 0] 25)).cell? ⟨w4.heap.size, 5, none⟩ = some (.int .u32 0) := (blk_cell hb4 5).trans rfl
      have b6 : (w4.alloc (.cells #[.int .u8 0, .int .u32 0, .int .u32 0, .int .u16 0, .int .u16 0, .int .u32 0, .int .u32 0] 25)).cell? ⟨w4.heap.size, 6, none⟩ = some (.int .u32 0) := (blk_cell hb4 6).trans rfl
      have p0 : (w4.alloc (.cells #[.int .u8 0, .int .u32 0, .int .u32 0, .int .u16 0, .int .u16 0, .int .u32 0, .int .u32 0] 25)).cell? ⟨w.heap.size + 1, 0, none⟩ = some (.int .u32 y0) := (blk_cell pp 0).trans rfl
      have p1 : (w4.alloc (.cells #[.int .u8 0, .int .u32 0, .int .u32 0, .int .u16 0, .int .u16 0, .int .u32 0, .int .u32 0] 25)).cell? ⟨w.heap.size + 1, 1, none⟩ = some (.int .u32 y1) := (blk_cell pp 1).trans rfl
      have p2 : (w4.alloc (.cells #[.int .u8 0, .int .u32 0, .int .u32 0, .int .u16 0, .int .u16 0, .int .u32 0, .int .u32 0] 25)).cell? ⟨w.heap.size + 1, 2, none⟩ = some (.int .i64 y2) := (blk_cell pp 2).trans rfl
      have p3 : (w4.alloc (.cells #[.int .u8 0, .int .u32 0, .int .u32 0, .int .u16 0, .int .u16 0, .int .u32 0, .int .u32 0] 25)).cell? ⟨w.heap.size + 1, 3, none⟩ = some (.int .i64 y3) := (blk_cell pp 3).trans rfl
      have T5 := Lib.hid t4
      clear hb4 t4 pp
      go_wp2_with fail
      refine (said_int q _).mono ?_
      rintro e w6 ⟨hb6, rfl⟩
      have T6 := Lib.hid (bl_seq T5.out hb6)
      clear hb6
      go_wp2_with fail
      go_ret
      exact ⟨rfl, bl_alloc T6.out _⟩
    by_cases y2b : 65535 < y2
    · have HN : fitsB y2 y3 = false := by simp [fitsB]; omega
      rw [saidH_no HN, HN, show (hdC hd0 : Array Value) = #[.int .u8 0, .int .u32 0, .int .u32 0, .int .u16 0, .int .u16 0, .int .u32 0, .int .u32 0] from rfl] at he4
      subst he4
      clear HN
      have hb4 : (w4.alloc (.cells #[.int .u8 0, .int .u32 0, .int .u32 0, .int .u16 0, .int .u16 0, .int .u32 0, .int .u32 0] 25)).heap[w4.heap.size]? = some (.cells #[.int .u8 0, .int .u32 0, .int .u32 0, .int .u16 0, .int .u16 0, .int .u32 0, .int .u32 0] 25 (0, 0)) := heap_alloc_new _ _
      have t4 : Below w.heap.size w (w4.alloc (.cells #[.int .u8 0, .int .u32 0, .int .u32 0, .int .u16 0, .int .u16 0, .int .u32 0, .int .u32 0] 25)) := bl_alloc T4.out _
      have pp := blk_alloc P4.out (.cells #[.int .u8 0, .int .u32 0, .int .u32 0, .int .u16 0, .int .u16 0, .int .u32 0, .int .u32 0] 25)
      have b0 : (w4.alloc (.cells #[.int .u8 0, .int .u32 0, .int .u32 0, .int .u16 0, .int .u16 0, .int .u32 0, .int .u32 0] 25)).cell? ⟨w4.heap.size, 0, none⟩ = some (.int .u8 0) := (blk_cell hb4 0).trans rfl
      have b1 : (w4.alloc (.cells #[.int .u8 0, .int .u32 0, .int .u32 0, .int .u16 0, .int .u16 0, .int .u32 0, .int .u32 0] 25)).cell? ⟨w4.heap.size, 1, none⟩ = some (.int .u32 0) := (blk_cell hb4 1).trans rfl
      have b2 : (w4.alloc (.cells #[.int .u8 0, .int .u32 0, .int .u32 0, .int .u16 0, .int .u16 0, .int .u32 0, .int .u32 0] 25)).cell? ⟨w4.heap.size, 2, none⟩ = some (.int .u32 0) := (blk_cell hb4 2).trans rfl
      have b3 : (w4.alloc (.cells #[.int .u8 0, .int .u32 0, .int .u32 0, .int .u16 0, .int .u16 0, .int .u32 0, .int .u32 0] 25)).cell? ⟨w4.heap.size, 3, none⟩ = some (.int .u16 0) := (blk_cell hb4 3).trans rfl
      have b4 : (w4.alloc (.cells #[.int .u8 0, .int .u32 0, .int .u32 0, .int .u16 0, .int .u16 0, .int .u32 0, .int .u32 0] 25)).cell? ⟨w4.heap.size, 4, none⟩ = some (.int .u16 0) := (blk_cell hb4 4).trans rfl
      have b5 : (w4.alloc (.cells #[.int .u8 0, .int .u32 0, .int .u32 0, .int .u16 0, .int .u16 0, .int .u32 0, .int .u32 0] 25)).cell? ⟨w4.heap.size, 5, none⟩ = some (.int .u32 0) := (blk_cell hb4 5).trans rfl
      have b6 : (w4.alloc (.cells #[.int .u8 0, .int .u32 0, .int .u32 0, .int .u16 0, .int .u16 0, .int .u32 0, .int .u32 0] 25)).cell? ⟨w4.heap.size, 6, none⟩ = some (.int .u32 0) := (blk_cell hb4 6).trans rfl
      have p0 : (w4.alloc (.cells #[.int .u8 0, .int .u32 0, .int .u32 0, .int .u16 0, .int .u16 0, .int .u32 0, .int .u32 0] 25)).cell? ⟨w.heap.size + 1, 0, none⟩ = some (.int .u32 y0) := (blk_cell pp 0).trans rfl
      have p1 : (w4.alloc (.cells #[.int .u8 0, .int .u32 0, .int .u32 0, .int .u16 0, .int .u16 0, .int .u32 0, .int .u32 0] 25)).cell? ⟨w.heap.size + 1, 1, none⟩ = some (.int .u32 y1) := (blk_cell pp 1).trans rfl
      have p2 : (w4.alloc (.cells #[.int .u8 0, .int .u32 0, .int .u32 0, .int .u16 0, .int .u16 0, .int .u32 0, .int .u32 0] 25)).cell? ⟨w.heap.size + 1, 2, none⟩ = some (.int .i64 y2) := (blk_cell pp 2).trans rfl
      have p3 : (w4.alloc (.cells #[.int .u8 0, .int .u32 0, .int .u32 0, .int .u16 0, .int .u16 0, .int .u32 0, .int .u32 0] 25)).cell? ⟨w.heap.size + 1, 3, none⟩ = some (.int .i64 y3) := (blk_cell pp 3).trans rfl
      have T5 := Lib.hid t4
      clear hb4 t4 pp
      go_wp2_with fail
      refine (said_int q _).mono ?_
      rintro e w6 ⟨hb6, rfl⟩
      have T6 := Lib.hid (bl_seq T5.out hb6)
      clear hb6
      go_wp2_with fail
      go_ret
      exact ⟨rfl, bl_alloc T6.out _⟩
    by_cases y3a : y3 < 0
    · have HN : fitsB y2 y3 = false := by simp [fitsB]; omega
      rw [saidH_no HN, HN, show (hdC hd0 : Array Value) = #[.int .u8 0, .int .u32 0, .int .u32 0, .int .u16 0, .int .u16 0, .int .u32 0, .int .u32 0] from rfl] at he4
      subst he4
      clear HN
      have hb4 : (w4.alloc (.cells #[.int .u8 0, .int .u32 0, .int .u32 0, .int .u16 0, .int .u16 0, .int .u32 0, .int .u32 0] 25)).heap[w4.heap.size]? = some (.cells #[.int .u8 0, .int .u32 0, .int .u32 0, .int .u16 0, .int .u16 0, .int .u32 0, .int .u32 0] 25 (0, 0)) := heap_alloc_new _ _
      have t4 : Below w.heap.size w (w4.alloc (.cells #[.int .u8 0, .int .u32 0, .int .u32 0, .int .u16 0, .int .u16 0, .int .u32 0, .int .u32 0] 25)) := bl_alloc T4.out _
      have pp := blk_alloc P4.out (.cells #[.int .u8 0, .int .u32 0, .int .u32 0, .int .u16 0, .int .u16 0, .int .u32 0, .int .u32 0] 25)
      have b0 : (w4.alloc (.cells #[.int .u8 0, .int .u32 0, .int .u32 0, .int .u16 0, .int .u16 0, .int .u32 0, .int .u32 0] 25)).cell? ⟨w4.heap.size, 0, none⟩ = some (.int .u8 0) := (blk_cell hb4 0).trans rfl
      have b1 : (w4.alloc (.cells #[.int .u8 0, .int .u32 0, .int .u32 0, .int .u16 0, .int .u16 0, .int .u32 0, .int .u32 0] 25)).cell? ⟨w4.heap.size, 1, none⟩ = some (.int .u32 0) := (blk_cell hb4 1).trans rfl
      have b2 : (w4.alloc (.cells #[.int .u8 0, .int .u32 0, .int .u32 0, .int .u16 0, .int .u16 0, .int .u32 0, .int .u32 0] 25)).cell? ⟨w4.heap.size, 2, none⟩ = some (.int .u32 0) := (blk_cell hb4 2).trans rfl
      have b3 : (w4.alloc (.cells #[.int .u8 0, .int .u32 0, .int .u32 0, .int .u16 0, .int .u16 0, .int .u32 0, .int .u32 0] 25)).cell? ⟨w4.heap.size, 3, none⟩ = some (.int .u16 0) := (blk_cell hb4 3).trans rfl
      have b4 : (w4.alloc (.cells #[.int .u8 0, .int .u32 0, .int .u32 0, .int .u16 0, .int .u16 0, .int .u32 0, .int .u32 0] 25)).cell? ⟨w4.heap.size, 4, none⟩ = some (.int .u16 0) := (blk_cell hb4 4).trans rfl
      have b5 : (w4.alloc (.cells #[.int .u8 0, .int .u32 0, .int .u32 0, .int .u16 0, .int .u16 0, .int .u32 0, .int .u32 0] 25)).cell? ⟨w4.heap.size, 5, none⟩ = some (.int .u32 0) := (blk_cell hb4 5).trans rfl
      have b6 : (w4.alloc (.cells #[.int .u8 0, .int .u32 0, .int .u32 0, .int .u16 0, .int .u16 0, .int .u32 0, .int .u32 0] 25)).cell? ⟨w4.heap.size, 6, none⟩ = some (.int .u32 0) := (blk_cell hb4 6).trans rfl
      have p0 : (w4.alloc (.cells #[.int .u8 0, .int .u32 0, .int .u32 0, .int .u16 0, .int .u16 0, .int .u32 0, .int .u32 0] 25)).cell? ⟨w.heap.size + 1, 0, none⟩ = some (.int .u32 y0) := (blk_cell pp 0).trans rfl
      have p1 : (w4.alloc (.cells #[.int .u8 0, .int .u32 0, .int .u32 0, .int .u16 0, .int .u16 0, .int .u32 0, .int .u32 0] 25)).cell? ⟨w.heap.size + 1, 1, none⟩ = some (.int .u32 y1) := (blk_cell pp 1).trans rfl
      have p2 : (w4.alloc (.cells #[.int .u8 0, .int .u32 0, .int .u32 0, .int .u16 0, .int .u16 0, .int .u32 0, .int .u32 0] 25)).cell? ⟨w.heap.size + 1, 2, none⟩ = some (.int .i64 y2) := (blk_cell pp 2).trans rfl
      have p3 : (w4.alloc (.cells #[.int .u8 0, .int .u32 0, .int .u32 0, .int .u16 0, .int .u16 0, .int .u32 0, .int .u32 0] 25)).cell? ⟨w.heap.size + 1, 3, none⟩ = some (.int .i64 y3) := (blk_cell pp 3).trans rfl
      have T5 := Lib.hid t4
      clear hb4 t4 pp
      go_wp2_with fail
      refine (said_int q _).mono ?_
      rintro e w6 ⟨hb6, rfl⟩
      have T6 := Lib.hid (bl_seq T5.out hb6)
      clear hb6
      go_wp2_with fail
      go_ret
      exact ⟨rfl, bl_alloc T6.out _⟩
    by_cases y3b : 65535 < y3
    · have HN : fitsB y2 y3 = false := by simp [fitsB]; omega
      rw [saidH_no HN, HN, show (hdC hd0 : Array Value) = #[.int .u8 0, .int .u32 0, .int .u32 0, .int .u16 0, .int .u16 0, .int .u32 0, .int .u32 0] from rfl] at he4
      subst he4
      clear HN
      have hb4 : (w4.alloc (.cells #[.int .u8 0, .int .u32 0, .int .u32 0, .int .u16 0, .int .u16 0, .int .u32 0, .int .u32 0] 25)).heap[w4.heap.size]? = some (.cells #[.int .u8 0, .int .u32 0, .int .u32 0, .int .u16 0, .int .u16 0, .int .u32 0, .int .u32 0] 25 (0, 0)) := heap_alloc_new _ _
      have t4 : Below w.heap.size w (w4.alloc (.cells #[.int .u8 0, .int .u32 0, .int .u32 0, .int .u16 0, .int .u16 0, .int .u32 0, .int .u32 0] 25)) := bl_alloc T4.out _
      have pp := blk_alloc P4.out (.cells #[.int .u8 0, .int .u32 0, .int .u32 0, .int .u16 0, .int .u16 0, .int .u32 0, .int .u32 0] 25)
      have b0 : (w4.alloc (.cells #[.int .u8 0, .int .u32 0, .int .u32 0, .int .u16 0, .int .u16 0, .int .u32 0, .int .u32 0] 25)).cell? ⟨w4.heap.size, 0, none⟩ = some (.int .u8 0) := (blk_cell hb4 0).trans rfl
      have b1 : (w4.alloc (.cells #[.int .u8 0, .int .u32 0, .int .u32 0, .int .u16 0, .int .u16 0, .int .u32 0, .int .u32 0] 25)).cell? ⟨w4.heap.size, 1, none⟩ = some (.int .u32 0) := (blk_cell hb4 1).trans rfl
      have b2 : (w4.alloc (.cells #[.int .u8 0, .int .u32 0, .int .u32 0, .int .u16 0, .int .u16 0, .int .u32 0, .int .u32 0] 25)).cell? ⟨w4.heap.size, 2, none⟩ = some (.int .u32 0) := (blk_cell hb4 2).trans rfl
      have b3 : (w4.alloc (.cells #[.int .u8 0, .int .u32 0, .int .u32 0, .int .u16 0, .int .u16 0, .int .u32 0, .int .u32 0] 25)).cell? ⟨w4.heap.size, 3, none⟩ = some (.int .u16 0) := (blk_cell hb4 3).trans rfl
      have b4 : (w4.alloc (.cells #[.int .u8 0, .int .u32 0, .int .u32 0, .int .u16 0, .int .u16 0, .int .u32 0, .int .u32 0] 25)).cell? ⟨w4.heap.size, 4, none⟩ = some (.int .u16 0) := (blk_cell hb4 4).trans rfl
      have b5 : (w4.alloc (.cells #[.int .u8 0, .int .u32 0, .int .u32 0, .int .u16 0, .int .u16 0, .int .u32 0, .int .u32 0] 25)).cell? ⟨w4.heap.size, 5, none⟩ = some (.int .u32 0) := (blk_cell hb4 5).trans rfl
      have b6 : (w4.alloc (.cells #[.int .u8 0, .int .u32 0, .int .u32 0, .int .u16 0, .int .u16 0, .int .u32 0, .int .u32 0] 25)).cell? ⟨w4.heap.size, 6, none⟩ = some (.int .u32 0) := (blk_cell hb4 6).trans rfl
      have p0 : (w4.alloc (.cells #[.int .u8 0, .int .u32 0, .int .u32 0, .int .u16 0, .int .u16 0, .int .u32 0, .int .u32 0] 25)).cell? ⟨w.heap.size + 1, 0, none⟩ = some (.int .u32 y0) := (blk_cell pp 0).trans rfl
      have p1 : (w4.alloc (.cells #[.int .u8 0, .int .u32 0, .int .u32 0, .int .u16 0, .int .u16 0, .int .u32 0, .int .u32 0] 25)).cell? ⟨w.heap.size + 1, 1, none⟩ = some (.int .u32 y1) := (blk_cell pp 1).trans rfl
      have p2 : (w4.alloc (.cells #[.int .u8 0, .int .u32 0, .int .u32 0, .int .u16 0, .int .u16 0, .int .u32 0, .int .u32 0] 25)).cell? ⟨w.heap.size + 1, 2, none⟩ = some (.int .i64 y2) := (blk_cell pp 2).trans rfl
      have p3 : (w4.alloc (.cells #[.int .u8 0, .int .u32 0, .int .u32 0, .int .u16 0, .int .u16 0, .int .u32 0, .int .u32 0] 25)).cell? ⟨w.heap.size + 1, 3, none⟩ = some (.int .i64 y3) := (blk_cell pp 3).trans rfl
      have T5 := Lib.hid t4
      clear hb4 t4 pp
      go_wp2_with fail
      refine (said_int q _).mono ?_
      rintro e w6 ⟨hb6, rfl⟩
      have T6 := Lib.hid (bl_seq T5.out hb6)
      clear hb6
      go_wp2_with fail
      go_ret
      exact ⟨rfl, bl_alloc T6.out _⟩
    have HN : fitsB y2 y3 = true := by simp [fitsB]; omega
    rw [saidH_yes HN, HN] at he4
    subst he4
    clear HN
    have wi2 := i64w (i := y2) (by omega) (by omega)
    have wi3 := i64w (i := y3) (by omega) (by omega)
    have hb4 : (w4.alloc (.cells #[.int .u8 5, .int .u32 y0, .int .u32 y1, .int .u16 y2, .int .u16 y3, .int .u32 0, .int .u32 0] 25)).heap[w4.heap.size]? = some (.cells #[.int .u8 5, .int .u32 y0, .int .u32 y1, .int .u16 y2, .int .u16 y3, .int .u32 0, .int .u32 0] 25 (0, 0)) := heap_alloc_new _ _
    have t4 : Below w.heap.size w (w4.alloc (.cells #[.int .u8 5, .int .u32 y0, .int .u32 y1, .int .u16 y2, .int .u16 y3, .int .u32 0, .int .u32 0] 25)) := bl_alloc T4.out _
    have pp := blk_alloc P4.out (.cells #[.int .u8 5, .int .u32 y0, .int .u32 y1, .int .u16 y2, .int .u16 y3, .int .u32 0, .int .u32 0] 25)
    have b0 : (w4.alloc (.cells #[.int .u8 5, .int .u32 y0, .int .u32 y1, .int .u16 y2, .int .u16 y3, .int .u32 0, .int .u32 0] 25)).cell? ⟨w4.heap.size, 0, none⟩ = some (.int .u8 5) := (blk_cell hb4 0).trans rfl
    have b1 : (w4.alloc (.cells #[.int .u8 5, .int .u32 y0, .int .u32 y1, .int .u16 y2, .int .u16 y3, .int .u32 0, .int .u32 0] 25)).cell? ⟨w4.heap.size, 1, none⟩ = some (.int .u32 y0) := (blk_cell hb4 1).trans rfl
    have b2 : (w4.alloc (.cells #[.int .u8 5, .int .u32 y0, .int .u32 y1, .int .u16 y2, .int .u16 y3, .int .u32 0, .int .u32 0] 25)).cell? ⟨w4.heap.size, 2, none⟩ = some (.int .u32 y1) := (blk_cell hb4 2).trans rfl
    have b3 : (w4.alloc (.cells #[.int .u8 5, .int .u32 y0, .int .u32 y1, .int .u16 y2, .int .u16 y3, .int .u32 0, .int .u32 0] 25)).cell? ⟨w4.heap.size, 3, none⟩ = some (.int .u16 y2) := (blk_cell hb4 3).trans rfl
    have b4 : (w4.alloc (.cells #[.int .u8 5, .int .u32 y0, .int .u32 y1, .int .u16 y2, .int .u16 y3, .int .u32 0, .int .u32 0] 25)).cell? ⟨w4.heap.size, 4, none⟩ = some (.int .u16 y3) := (blk_cell hb4 4).trans rfl
    have b5 : (w4.alloc (.cells #[.int .u8 5, .int .u32 y0, .int .u32 y1, .int .u16 y2, .int .u16 y3, .int .u32 0, .int .u32 0] 25)).cell? ⟨w4.heap.size, 5, none⟩ = some (.int .u32 0) := (blk_cell hb4 5).trans rfl
    have b6 : (w4.alloc (.cells #[.int .u8 5, .int .u32 y0, .int .u32 y1, .int .u16 y2, .int .u16 y3, .int .u32 0, .int .u32 0] 25)).cell? ⟨w4.heap.size, 6, none⟩ = some (.int .u32 0) := (blk_cell hb4 6).trans rfl
    have p0 : (w4.alloc (.cells #[.int .u8 5, .int .u32 y0, .int .u32 y1, .int .u16 y2, .int .u16 y3, .int .u32 0, .int .u32 0] 25)).cell? ⟨w.heap.size + 1, 0, none⟩ = some (.int .u32 y0) := (blk_cell pp 0).trans rfl
    have p1 : (w4.alloc (.cells #[.int .u8 5, .int .u32 y0, .int .u32 y1, .int .u16 y2, .int .u16 y3, .int .u32 0, .int .u32 0] 25)).cell? ⟨w.heap.size + 1, 1, none⟩ = some (.int .u32 y1) := (blk_cell pp 1).trans rfl
    have p2 : (w4.alloc (.cells #[.int .u8 5, .int .u32 y0, .int .u32 y1, .int .u16 y2, .int .u16 y3, .int .u32 0, .int .u32 0] 25)).cell? ⟨w.heap.size + 1, 2, none⟩ = some (.int .i64 y2) := (blk_cell pp 2).trans rfl
    have p3 : (w4.alloc (.cells #[.int .u8 5, .int .u32 y0, .int .u32 y1, .int .u16 y2, .int .u16 y3, .int .u32 0, .int .u32 0] 25)).cell? ⟨w.heap.size + 1, 3, none⟩ = some (.int .i64 y3) := (blk_cell pp 3).trans rfl
    have T5 := Lib.hid t4
    clear hb4 t4 pp
    go_wp2_with fail
    refine (said_int q _).mono ?_
    rintro e w6 ⟨hb6, rfl⟩
    have T6 := Lib.hid (bl_seq T5.out hb6)
    clear hb6
    go_wp2_with fail
    go_ret
    exact ⟨rfl, bl_alloc T6.out _⟩
  by_cases x2b : 65535 < x2
  · have HN : fitsB x2 x3 = false := by simp [fitsB]; omega
    rw [saidH_no HN, HN, show (hdC hd0 : Array Value) = #[.int .u8 0, .int .u32 0, .int .u32 0, .int .u16 0, .int .u16 0, .int .u32 0, .int .u32 0] from rfl] at he2
    subst he2
    clear HN
    have hb2 : (w2.alloc (.cells #[.int .u8 0, .int .u32 0, .int .u32 0, .int .u16 0, .int .u16 0, .int .u32 0, .int .u32 0] 25)).heap[w2.heap.size]? = some (.cells #[.int .u8 0, .int .u32 0, .int .u32 0, .int .u16 0, .int .u16 0, .int .u32 0, .int .u32 0] 25 (0, 0)) := heap_alloc_new _ _
    have t2 : Below w.heap.size w (w2.alloc (.cells #[.int .u8 0, .int .u32 0, .int .u32 0, .int .u16 0, .int .u16 0, .int .u32 0, .int .u32 0] 25)) := bl_alloc T2.out _
    have dblk := blk_alloc D2.out (.cells #[.int .u8 0, .int .u32 0, .int .u32 0, .int .u16 0, .int .u16 0, .int .u32 0, .int .u32 0] 25)
    have pblk := blk_alloc P2.out (.cells #[.int .u8 0, .int .u32 0, .int .u32 0, .int .u16 0, .int .u16 0, .int .u32 0, .int .u32 0] 25)
    have d0 : (w2.alloc (.cells #[.int .u8 0, .int .u32 0, .int .u32 0, .int .u16 0, .int .u16 0, .int .u32 0, .int .u32 0] 25)).cell? ⟨w.heap.size, 0, none⟩ = some (.int .u32 x0) := (blk_cell dblk 0).trans rfl
    have d1 : (w2.alloc (.cells #[.int .u8 0, .int .u32 0, .int .u32 0, .int .u16 0, .int .u16 0, .int .u32 0, .int .u32 0] 25)).cell? ⟨w.heap.size, 1, none⟩ = some (.int .u32 x1) := (blk_cell dblk 1).trans rfl
    have d2 : (w2.alloc (.cells #[.int .u8 0, .int .u32 0, .int .u32 0, .int .u16 0, .int .u16 0, .int .u32 0, .int .u32 0] 25)).cell? ⟨w.heap.size, 2, none⟩ = some (.int .i64 x2) := (blk_cell dblk 2).trans rfl
    have d3 : (w2.alloc (.cells #[.int .u8 0, .int .u32 0, .int .u32 0, .int .u16 0, .int .u16 0, .int .u32 0, .int .u32 0] 25)).cell? ⟨w.heap.size, 3, none⟩ = some (.int .i64 x3) := (blk_cell dblk 3).trans rfl
    have d4 : (w2.alloc (.cells #[.int .u8 0, .int .u32 0, .int .u32 0, .int .u16 0, .int .u16 0, .int .u32 0, .int .u32 0] 25)).cell? ⟨w.heap.size, 4, none⟩ = some (.int .u32 x4) := (blk_cell dblk 4).trans rfl
    have H2 := Lib.hid (And.intro hb2 (And.intro t2 (And.intro dblk pblk)))
    clear hb2 t2 dblk pblk
    go_wp2_with fail
    clear d0 d1 d2 d3 d4
    refine (sealed_any _).mono ?_
    rintro e w3 ⟨rfl, hb3⟩
    have T3 := Lib.hid (bl_seq H2.out.2.1 hb3)
    have P3 := Lib.hid (blk_below H2.out.2.2.2 hb3)
    have dd := blk_below H2.out.2.2.1 hb3
    have aa := blk_below H2.out.1 hb3
    have d0 : w3.cell? ⟨w.heap.size, 0, none⟩ = some (.int .u32 x0) := (blk_cell dd 0).trans rfl
    have d1 : w3.cell? ⟨w.heap.size, 1, none⟩ = some (.int .u32 x1) := (blk_cell dd 1).trans rfl
    have d2 : w3.cell? ⟨w.heap.size, 2, none⟩ = some (.int .i64 x2) := (blk_cell dd 2).trans rfl
    have d3 : w3.cell? ⟨w.heap.size, 3, none⟩ = some (.int .i64 x3) := (blk_cell dd 3).trans rfl
    have d4 : w3.cell? ⟨w.heap.size, 4, none⟩ = some (.int .u32 x4) := (blk_cell dd 4).trans rfl
    have a0 : w3.cell? ⟨w2.heap.size, 0, none⟩ = some (.int .u8 0) := (blk_cell aa 0).trans rfl
    have a1 : w3.cell? ⟨w2.heap.size, 1, none⟩ = some (.int .u32 0) := (blk_cell aa 1).trans rfl
    have a2 : w3.cell? ⟨w2.heap.size, 2, none⟩ = some (.int .u32 0) := (blk_cell aa 2).trans rfl
    have a3 : w3.cell? ⟨w2.heap.size, 3, none⟩ = some (.int .u16 0) := (blk_cell aa 3).trans rfl
    have a4 : w3.cell? ⟨w2.heap.size, 4, none⟩ = some (.int .u16 0) := (blk_cell aa 4).trans rfl
    have a5 : w3.cell? ⟨w2.heap.size, 5, none⟩ = some (.int .u32 0) := (blk_cell aa 5).trans rfl
    have a6 : w3.cell? ⟨w2.heap.size, 6, none⟩ = some (.int .u32 0) := (blk_cell aa 6).trans rfl
    have p0 : w3.cell? ⟨w.heap.size + 1, 0, none⟩ = some (.int .u32 y0) := (blk_cell P3.out 0).trans rfl
    have p1 : w3.cell? ⟨w.heap.size + 1, 1, none⟩ = some (.int .u32 y1) := (blk_cell P3.out 1).trans rfl
    have p2 : w3.cell? ⟨w.heap.size + 1, 2, none⟩ = some (.int .i64 y2) := (blk_cell P3.out 2).trans rfl
    have p3 : w3.cell? ⟨w.heap.size + 1, 3, none⟩ = some (.int .i64 y3) := (blk_cell P3.out 3).trans rfl
    clear hb3 H2 dd aa
    have nez := neHd hd0 hd0
    rw [hdEq_self] at nez
    simp only [hdC, hd0] at nez
    go_wp2_with fail
    clear d0 d1 d2 d3 d4 a0 a1 a2 a3 a4 a5 a6 p0 p1 p2 p3
    refine (said_Parity y0 y1 y2 y3 _).mono ?_
    rintro e w4 ⟨hb4_, he4⟩
    have T4 := Lib.hid (bl_seq T3.out hb4_)
    have P4 := Lib.hid (blk_below P3.out hb4_)
    clear hb4_
    by_cases y2a : y2 < 0
    · have HN : fitsB y2 y3 = false := by simp [fitsB]; omega
      rw [saidH_no HN, HN, show (hdC hd0 : Array Value) = #[.int .u8 0, .int .u32 0, .int .u32 0, .int .u16 0, .int .u16 0, .int .u32 0, .int .u32 0] from rfl] at he4
      subst he4
      clear HN
      have hb4 : (w4.alloc (.cells #[.int .u8 0, .int .u32 0, .int .u32 0, .int .u16 0, .int .u16 0, .int .u32 0, .int .u32 0] 25)).heap[w4.heap.size]? = some (.cells #[.int .u8 0, .int .u32 0, .int .u32 0, .int .u16 0, .int .u16 0, .int .u32 0, .int .u32 0] 25 (0, 0)) := heap_alloc_new _ _
      have t4 : Below w.heap.size w (w4.alloc (.cells #[.int .u8 0, .int .u32 0, .int .u32 0, .int .u16 0, .int .u16 0, .int .u32 0, .int .u32 0] 25)) := bl_alloc T4.out _
      have pp := blk_alloc P4.out (.cells #[.int .u8 0, .int .u32 0, .int .u32 0, .int .u16 0, .int .u16 0, .int .u32 0, .int .u32 0] 25)
      have b0 : (w4.alloc (.cells #[.int .u8 0, .int .u32 0, .int .u32 0, .int .u16 0, .int .u16 0, .int .u32 0, .int .u32 0] 25)).cell? ⟨w4.heap.size, 0, none⟩ = some (.int .u8 0) := (blk_cell hb4 0).trans rfl
      have b1 : (w4.alloc (.cells #[.int .u8 0, .int .u32 0, .int .u32 0, .int .u16 0, .int .u16 0, .int .u32 0, .int .u32 0] 25)).cell? ⟨w4.heap.size, 1, none⟩ = some (.int .u32 0) := (blk_cell hb4 1).trans rfl
      have b2 : (w4.alloc (.cells #[.int .u8 0, .int .u32 0, .int .u32 0, .int .u16 0, .int .u16 0, .int .u32 0, .int .u32 0] 25)).cell? ⟨w4.heap.size, 2, none⟩ = some (.int .u32 0) := (blk_cell hb4 2).trans rfl
      have b3 : (w4.alloc (.cells #[.int .u8 0, .int .u32 0, .int .u32 0, .int .u16 0, .int .u16 0, .int .u32 0, .int .u32 0] 25)).cell? ⟨w4.heap.size, 3, none⟩ = some (.int .u16 0) := (blk_cell hb4 3).trans rfl
      have b4 : (w4.alloc (.cells #[.int .u8 0, .int .u32 0, .int .u32 0, .int .u16 0, .int .u16 0, .int .u32 0, .int .u32 0] 25)).cell? ⟨w4.heap.size, 4, none⟩ = some (.int .u16 0) := (blk_cell hb4 4).trans rfl
      have b5 : (w4.alloc (.cells #[.int .u8 0, .int .u32 0, .int .u32 0, .int .u16 0, .int .u16 0, .int .u32 0, .int .u32 0] 25)).cell? ⟨w4.heap.size, 5, none⟩ = some (.int .u32 0) := (blk_cell hb4 5).trans rfl
      have b6 : (w4.alloc (.cells #[.int .u8 0, .int .u32 0, .int .u32 0, .int .u16 0, .int .u16 0, .int .u32 0, .int .u32 0] 25)).cell? ⟨w4.heap.size, 6, none⟩ = some (.int .u32 0) := (blk_cell hb4 6).trans rfl
      have p0 : (w4.alloc (.cells #[.int .u8 0, .int .u32 0, .int .u32 0, .int .u16 0, .int .u16 0, .int .u32 0, .int .u32 0] 25)).cell? ⟨w.heap.size + 1, 0, none⟩ = some (.int .u32 y0) := (blk_cell pp 0).trans rfl
      have p1 : (w4.alloc (.cells #[.int .u8 0, .int .u32 0, .int .u32 0, .int .u16 0, .int .u16 0, .int .u32 0, .int .u32 0] 25)).cell? ⟨w.heap.size + 1, 1, none⟩ = some (.int .u32 y1) := (blk_cell pp 1).trans rfl
      have p2 : (w4.alloc (.cells #[.int .u8 0, .int .u32 0, .int .u32 0, .int .u16 0, .int .u16 0, .int .u32 0, .int .u32 0] 25)).cell? ⟨w.heap.size + 1, 2, none⟩ = some (.int .i64 y2) := (blk_cell pp 2).trans rfl
      have p3 : (w4.alloc (.cells #[.int .u8 0, .int .u32 0, .int .u32 0, .int .u16 0, .int .u16 0, .int .u32 0, .int .u32 0] 25)).cell? ⟨w.heap.size + 1, 3, none⟩ = some (.int .i64 y3) := (blk_cell pp 3).trans rfl
      have T5 := Lib.hid t4
      clear hb4 t4 pp
      go_wp2_with fail
      refine (said_int q _).mono ?_
      rintro e w6 ⟨hb6, rfl⟩
      have T6 := Lib.hid (bl_seq T5.out hb6)
      clear hb6
      go_wp2_with fail
      go_ret
      exact ⟨rfl, bl_alloc T6.out _⟩
    by_cases y2b : 65535 < y2
    · have HN : fitsB y2 y3 = false := by simp [fitsB]; omega
      rw [saidH_no HN, HN, show (hdC hd0 : Array Value) = #[.int .u8 0, .int .u32 0, .int .u32 0, .int .u16 0, .int .u16 0, .int .u32 0, .int .u32 0] from rfl] at he4
      subst he4
      clear HN
      have hb4 : (w4.alloc (.cells #[.int .u8 0, .int .u32 0, .int .u32 0, .int .u16 0, .int .u16 0, .int .u32 0, .int .u32 0] 25)).heap[w4.heap.size]? = some (.cells #[.int .u8 0, .int .u32 0, .int .u32 0, .int .u16 0, .int .u16 0, .int .u32 0, .int .u32 0] 25 (0, 0)) := heap_alloc_new _ _
      have t4 : Below w.heap.size w (w4.alloc (.cells #[.int .u8 0, .int .u32 0, .int .u32 0, .int .u16 0, .int .u16 0, .int .u32 0, .int .u32 0] 25)) := bl_alloc T4.out _
      have pp := blk_alloc P4.out (.cells #[.int .u8 0, .int .u32 0, .int .u32 0, .int .u16 0, .int .u16 0, .int .u32 0, .int .u32 0] 25)
      have b0 : (w4.alloc (.cells #[.int .u8 0, .int .u32 0, .int .u32 0, .int .u16 0, .int .u16 0, .int .u32 0, .int .u32 0] 25)).cell? ⟨w4.heap.size, 0, none⟩ = some (.int .u8 0) := (blk_cell hb4 0).trans rfl
      have b1 : (w4.alloc (.cells #[.int .u8 0, .int .u32 0, .int .u32 0, .int .u16 0, .int .u16 0, .int .u32 0, .int .u32 0] 25)).cell? ⟨w4.heap.size, 1, none⟩ = some (.int .u32 0) := (blk_cell hb4 1).trans rfl
      have b2 : (w4.alloc (.cells #[.int .u8 0, .int .u32 0, .int .u32 0, .int .u16 0, .int .u16 0, .int .u32 0, .int .u32 0] 25)).cell? ⟨w4.heap.size, 2, none⟩ = some (.int .u32 0) := (blk_cell hb4 2).trans rfl
      have b3 : (w4.alloc (.cells #[.int .u8 0, .int .u32 0, .int .u32 0, .int .u16 0, .int .u16 0, .int .u32 0, .int .u32 0] 25)).cell? ⟨w4.heap.size, 3, none⟩ = some (.int .u16 0) := (blk_cell hb4 3).trans rfl
      have b4 : (w4.alloc (.cells #[.int .u8 0, .int .u32 0, .int .u32 0, .int .u16 0, .int .u16 0, .int .u32 0, .int .u32 0] 25)).cell? ⟨w4.heap.size, 4, none⟩ = some (.int .u16 0) := (blk_cell hb4 4).trans rfl
      have b5 : (w4.alloc (.cells #[.int .u8 0, .int .u32 0, .int .u32 0, .int .u16 0, .int .u16 0, .int .u32 0, .int .u32 0] 25)).cell? ⟨w4.heap.size, 5, none⟩ = some (.int .u32 0) := (blk_cell hb4 5).trans rfl
      have b6 : (w4.alloc (.cells #[.int .u8 0, .int .u32 0, .int .u32 0, .int .u16 0, .int .u16 0, .int .u32 0, .int .u32 0] 25)).cell? ⟨w4.heap.size, 6, none⟩ = some (.int .u32 0) := (blk_cell hb4 6).trans rfl
      have p0 : (w4.alloc (.cells #[.int .u8 0, .int .u32 0, .int .u32 0, .int .u16 0, .int .u16 0, .int .u32 0, .int .u32 0] 25)).cell? ⟨w.heap.size + 1, 0, none⟩ = some (.int .u32 y0) := (blk_cell pp 0).trans rfl
      have p1 : (w4.alloc (.cells #[.int .u8 0, .int .u32 0, .int .u32 0, .int .u16 0, .int .u16 0, .int .u32 0, .int .u32 0] 25)).cell? ⟨w.heap.size + 1, 1, none⟩ = some (.int .u32 y1) := (blk_cell pp 1).trans rfl
      have p2 : (w4.alloc (.cells #[.int .u8 0, .int .u32 0, .int .u32 0, .int .u16 0, .int .u16 0, .int .u32 0, .int .u32 0] 25)).cell? ⟨w.heap.size + 1, 2, none⟩ = some (.int .i64 y2) := (blk_cell pp 2).trans rfl
      have p3 : (w4.alloc (.cells #[.int .u8 0, .int .u32 0, .int .u32 0, .int .u16 0, .int .u16 0, .int .u32 0, .int .u32 0] 25)).cell? ⟨w.heap.size + 1, 3, none⟩ = some (.int .i64 y3) := (blk_cell pp 3).trans rfl
      have T5 := Lib.hid t4
      clear hb4 t4 pp
      go_wp2_with fail
      refine (said_int q _).mono ?_
      rintro e w6 ⟨hb6, rfl⟩
      have T6 := Lib.hid (bl_seq T5.out hb6)
      clear hb6
      go_wp2_with fail
      go_ret
      exact ⟨rfl, bl_alloc T6.out _⟩
    by_cases y3a : y3 < 0
    · have HN : fitsB y2 y3 = false := by simp [fitsB]; omega
      rw [saidH_no HN, HN, show (hdC hd0 : Array Value) = #[.int .u8 0, .int .u32 0, .int .u32 0, .int .u16 0, .int .u16 0, .int .u32 0, .int .u32 0] from rfl] at he4
      subst he4
      clear HN
      have hb4 : (w4.alloc (.cells #[.int .u8 0, .int .u32 0, .int .u32 0, .int .u16 0, .int .u16 0, .int .u32 0, .int .u32 0] 25)).heap[w4.heap.size]? = some (.cells #[.int .u8 0, .int .u32 0, .int .u32 0, .int .u16 0, .int .u16 0, .int .u32 0, .int .u32 0] 25 (0, 0)) := heap_alloc_new _ _
      have t4 : Below w.heap.size w (w4.alloc (.cells #[.int .u8 0, .int .u32 0, .int .u32 0, .int .u16 0, .int .u16 0, .int .u32 0, .int .u32 0] 25)) := bl_alloc T4.out _
      have pp := blk_alloc P4.out (.cells #[.int .u8 0, .int .u32 0, .int .u32 0, .int .u16 0, .int .u16 0, .int .u32 0, .int .u32 0] 25)
      have b0 : (w4.alloc (.cells #[.int .u8 0, .int .u32 0, .int .u32 0, .int .u16 0, .int .u16 0, .int .u32 0, .int .u32 0] 25)).cell? ⟨w4.heap.size, 0, none⟩ = some (.int .u8 0) := (blk_cell hb4 0).trans rfl
      have b1 : (w4.alloc (.cells #[.int .u8 0, .int .u32 0, .int .u32 0, .int .u16 0, .int .u16 0, .int .u32 0, .int .u32 0] 25)).cell? ⟨w4.heap.size, 1, none⟩ = some (.int .u32 0) := (blk_cell hb4 1).trans rfl
      have b2 : (w4.alloc (.cells #[.int .u8 0, .int .u32 0, .int .u32 0, .int .u16 0, .int .u16 0, .int .u32 0, .int .u32 0] 25)).cell? ⟨w4.heap.size, 2, none⟩ = some (.int .u32 0) := (blk_cell hb4 2).trans rfl
      have b3 : (w4.alloc (.cells #[.int .u8 0, .int .u32 0, .int .u32 0, .int .u16 0, .int .u16 0, .int .u32 0, .int .u32 0] 25)).cell? ⟨w4.heap.size, 3, none⟩ = some (.int .u16 0) := (blk_cell hb4 3).trans rfl
      have b4 : (w4.alloc (.cells #[.int .u8 0, .int .u32 0, .int .u32 0, .int .u16 0, .int .u16 0, .int .u32 0, .int .u32 0] 25)).cell? ⟨w4.heap.size, 4, none⟩ = some (.int .u16 0) := (blk_cell hb4 4).trans rfl
      have b5 : (w4.alloc (.cells #[.int .u8 0, .int .u32 0, .int .u32 0, .int .u16 0, .int .u16 0, .int .u32 0, .int .u32 0] 25)).cell? ⟨w4.heap.size, 5, none⟩ = some (.int .u32 0) := (blk_cell hb4 5).trans rfl
      have b6 : (w4.alloc (.cells #[.int .u8 0, .int .u32 0, .int .u32 0, .int .u16 0, .int .u16 0, .int .u32 0, .int .u32 0] 25)).cell? ⟨w4.heap.size, 6, none⟩ = some (.int .u32 0) := (blk_cell hb4 6).trans rfl
      have p0 : (w4.alloc (.cells #[.int .u8 0, .int .u32 0, .int .u32 0, .int .u16 0, .int .u16 0, .int .u32 0, .int .u32 0] 25)).cell? ⟨w.heap.size + 1, 0, none⟩ = some (.int .u32 y0) := (blk_cell pp 0).trans rfl
      have p1 : (w4.alloc (.cells #[.int .u8 0, .int .u32 0, .int .u32 0, .int .u16 0, .int .u16 0, .int .u32 0, .int .u32 0] 25)).cell? ⟨w.heap.size + 1, 1, none⟩ = some (.int .u32 y1) := (blk_cell pp 1).trans rfl
      have p2 : (w4.alloc (.cells #[.int .u8 0, .int .u32 0, .int .u32 0, .int .u16 0, .int .u16 0, .int .u32 0, .int .u32 0] 25)).cell? ⟨w.heap.size + 1, 2, none⟩ = some (.int .i64 y2) := (blk_cell pp 2).trans rfl
      have p3 : (w4.alloc (.cells #[.int .u8 0, .int .u32 0, .int .u32 0, .int .u16 0, .int .u16 0, .int .u32 0, .int .u32 0] 25)).cell? ⟨w.heap.size + 1, 3, none⟩ = some (.int .i64 y3) := (blk_cell pp 3).trans rfl
      have T5 := Lib.hid t4
      clear hb4 t4 pp
      go_wp2_with fail
      refine (said_int q _).mono ?_
      rintro e w6 ⟨hb6, rfl⟩
      have T6 := Lib.hid (bl_seq T5.out hb6)
      clear hb6
      go_wp2_with fail
      go_ret
      exact ⟨rfl, bl_alloc T6.out _⟩
    by_cases y3b : 65535 < y3
    · have HN : fitsB y2 y3 = false := by simp [fitsB]; omega
      rw [saidH_no HN, HN, show (hdC hd0 : Array Value) = #[.int .u8 0, .int .u32 0, .int .u32 0, .int .u16 0, .int .u16 0, .int .u32 0, .int .u32 0] from rfl] at he4
      subst he4
      clear HN
      have hb4 : (w4.alloc (.cells #[.int .u8 0, .int .u32 0, .int .u32 0, .int .u16 0, .int .u16 0, .int .u32 0, .int .u32 0] 25)).heap[w4.heap.size]? = some (.cells #[.int .u8 0, .int .u32 0, .int .u32 0, .int .u16 0, .int .u16 0, .int .u32 0, .int .u32 0] 25 (0, 0)) := heap_alloc_new _ _
      have t4 : Below w.heap.size w (w4.alloc (.cells #[.int .u8 0, .int .u32 0, .int .u32 0, .int .u16 0, .int .u16 0, .int .u32 0, .int .u32 0] 25)) := bl_alloc T4.out _
      have pp := blk_alloc P4.out (.cells #[.int .u8 0, .int .u32 0, .int .u32 0, .int .u16 0, .int .u16 0, .int .u32 0, .int .u32 0] 25)
      have b0 : (w4.alloc (.cells #[.int .u8 0, .int .u32 0, .int .u32 0, .int .u16 0, .int .u16 0, .int .u32 0, .int .u32 0] 25)).cell? ⟨w4.heap.size, 0, none⟩ = some (.int .u8 0) := (blk_cell hb4 0).trans rfl
      have b1 : (w4.alloc (.cells #[.int .u8 0, .int .u32 0, .int .u32 0, .int .u16 0, .int .u16 0, .int .u32 0, .int .u32 0] 25)).cell? ⟨w4.heap.size, 1, none⟩ = some (.int .u32 0) := (blk_cell hb4 1).trans rfl
      have b2 : (w4.alloc (.cells #[.int .u8 0, .int .u32 0, .int .u32 0, .int .u16 0, .int .u16 0, .int .u32 0, .int .u32 0] 25)).cell? ⟨w4.heap.size, 2, none⟩ = some (.int .u32 0) := (blk_cell hb4 2).trans rfl
      have b3 : (w4.alloc (.cells #[.int .u8 0, .int .u32 0, .int .u32 0, .int .u16 0, .int .u16 0, .int .u32 0, .int .u32 0] 25)).cell? ⟨w4.heap.size, 3, none⟩ = some (.int .u16 0) := (blk_cell hb4 3).trans rfl
      have b4 : (w4.alloc (.cells #[.int .u8 0, .int .u32 0, .int .u32 0, .int .u16 0, .int .u16 0, .int .u32 0, .int .u32 0] 25)).cell? ⟨w4.heap.size, 4, none⟩ = some (.int .u16 0) := (blk_cell hb4 4).trans rfl
      have b5 : (w4.alloc (.cells #[.int .u8 0, .int .u32 0, .int .u32 0, .int .u16 0, .int .u16 0, .int .u32 0, .int .u32 0] 25)).cell? ⟨w4.heap.size, 5, none⟩ = some (.int .u32 0) := (blk_cell hb4 5).trans rfl
      have b6 : (w4.alloc (.cells #[.int .u8 0, .int .u32 0, .int .u32 0, .int .u16 0, .int .u16 0, .int .u32 0, .int .u32 0] 25)).cell? ⟨w4.heap.size, 6, none⟩ = some (.int .u32 0) := (blk_cell hb4 6).trans rfl
      have p0 : (w4.alloc (.cells #[.int .u8 0, .int .u32 0, .int .u32 0, .int .u16 0, .int .u16 0, .int .u32 0, .int .u32 0] 25)).cell? ⟨w.heap.size + 1, 0, none⟩ = some (.int .u32 y0) := (blk_cell pp 0).trans rfl
      have p1 : (w4.alloc (.cells #[.int .u8 0, .int .u32 0, .int .u32 0, .int .u16 0, .int .u16 0, .int .u32 0, .int .u32 0] 25)).cell? ⟨w.heap.size + 1, 1, none⟩ = some (.int .u32 y1) := (blk_cell pp 1).trans rfl
      have p2 : (w4.alloc (.cells #[.int .u8 0, .int .u32 0, .int .u32 0, .int .u16 0, .int .u16 0, .int .u32 0, .int .u32 0] 25)).cell? ⟨w.heap.size + 1, 2, none⟩ = some (.int .i64 y2) := (blk_cell pp 2).trans rfl
      have p3 : (w4.alloc (.cells #[.int .u8 0, .int .u32 0, .int .u32 0, .int .u16 0, .int .u16 0, .int .u32 0, .int .u32 0] 25)).cell? ⟨w.heap.size + 1, 3, none⟩ = some (.int .i64 y3) := (blk_cell pp 3).trans rfl
      have T5 := Lib.hid t4
      clear hb4 t4 pp
      go_wp2_with fail
      refine (said_int q _).mono ?_
      rintro e w6 ⟨hb6, rfl⟩
      have T6 := Lib.hid (bl_seq T5.out hb6)
      clear hb6
      go_wp2_with fail
      go_ret
      exact ⟨rfl, bl_alloc T6.out _⟩
    have HN : fitsB y2 y3 = true := by simp [fitsB]; omega
    rw [saidH_yes HN, HN] at he4
    subst he4
    clear HN
    have wi2 := i64w (i := y2) (by omega) (by omega)
    have wi3 := i64w (i := y3) (by omega) (by omega)
    have hb4 : (w4.alloc (.cells #[.int .u8 5, .int .u32 y0, .int .u32 y1, .int .u16 y2, .int .u16 y3, .int .u32 0, .int .u32 0] 25)).heap[w4.heap.size]? = some (.cells #[.int .u8 5, .int .u32 y0, .int .u32 y1, .int .u16 y2, .int .u16 y3, .int .u32 0, .int .u32 0] 25 (0, 0)) := heap_alloc_new _ _
    have t4 : Below w.heap.size w (w4.alloc (.cells #[.int .u8 5, .int .u32 y0, .int .u32 y1, .int .u16 y2, .int .u16 y3, .int .u32 0, .int .u32 0] 25)) := bl_alloc T4.out _
    have pp := blk_alloc P4.out (.cells #[.int .u8 5, .int .u32 y0, .int .u32 y1, .int .u16 y2, .int .u16 y3, .int .u32 0, .int .u32 0] 25)
    have b0 : (w4.alloc (.cells #[.int .u8 5, .int .u32 y0, .int .u32 y1, .int .u16 y2, .int .u16 y3, .int .u32 0, .int .u32 0] 25)).cell? ⟨w4.heap.size, 0, none⟩ = some (.int .u8 5) := (blk_cell hb4 0).trans rfl
    have b1 : (w4.alloc (.cells #[.int .u8 5, .int .u32 y0, .int .u32 y1, .int .u16 y2, .int .u16 y3, .int .u32 0, .int .u32 0] 25)).cell? ⟨w4.heap.size, 1, none⟩ = some (.int .u32 y0) := (blk_cell hb4 1).trans rfl
    have b2 : (w4.alloc (.cells #[.int .u8 5, .int .u32 y0, .int .u32 y1, .int .u16 y2, .int .u16 y3, .int .u32 0, .int .u32 0] 25)).cell? ⟨w4.heap.size, 2, none⟩ = some (.int .u32 y1) := (blk_cell hb4 2).trans rfl
    have b3 : (w4.alloc (.cells #[.int .u8 5, .int .u32 y0, .int .u32 y1, .int .u16 y2, .int .u16 y3, .int .u32 0, .int .u32 0] 25)).cell? ⟨w4.heap.size, 3, none⟩ = some (.int .u16 y2) := (blk_cell hb4 3).trans rfl
    have b4 : (w4.alloc (.cells #[.int .u8 5, .int .u32 y0, .int .u32 y1, .int .u16 y2, .int .u16 y3, .int .u32 0, .int .u32 0] 25)).cell? ⟨w4.heap.size, 4, none⟩ = some (.int .u16 y3) := (blk_cell hb4 4).trans rfl
    have b5 : (w4.alloc (.cells #[.int .u8 5, .int .u32 y0, .int .u32 y1, .int .u16 y2, .int .u16 y3, .int .u32 0, .int .u32 0] 25)).cell? ⟨w4.heap.size, 5, none⟩ = some (.int .u32 0) := (blk_cell hb4 5).trans rfl
    have b6 : (w4.alloc (.cells #[.int .u8 5, .int .u32 y0, .int .u32 y1, .int .u16 y2, .int .u16 y3, .int .u32 0, .int .u32 0] 25)).cell? ⟨w4.heap.size, 6, none⟩ = some (.int .u32 0) := (blk_cell hb4 6).trans rfl
    have p0 : (w4.alloc (.cells #[.int .u8 5, .int .u32 y0, .int .u32 y1, .int .u16 y2, .int .u16 y3, .int .u32 0, .int .u32 0] 25)).cell? ⟨w.heap.size + 1, 0, none⟩ = some (.int .u32 y0) := (blk_cell pp 0).trans rfl
    have p1 : (w4.alloc (.cells #[.int .u8 5, .int .u32 y0, .int .u32 y1, .int .u16 y2, .int .u16 y3, .int .u32 0, .int .u32 0] 25)).cell? ⟨w.heap.size + 1, 1, none⟩ = some (.int .u32 y1) := (blk_cell pp 1).trans rfl
    have p2 : (w4.alloc (.cells #[.int .u8 5, .int .u32 y0, .int .u32 y1, .int .u16 y2, .int .u16 y3, .int .u32 0, .int .u32 0] 25)).cell? ⟨w.heap.size + 1, 2, none⟩ = some (.int .i64 y2) := (blk_cell pp 2).trans rfl
    have p3 : (w4.alloc (.cells #[.int .u8 5, .int .u32 y0, .int .u32 y1, .int .u16 y2, .int .u16 y3, .int .u32 0, .int .u32 0] 25)).cell? ⟨w.heap.size + 1, 3, none⟩ = some (.int .i64 y3) := (blk_cell pp 3).trans rfl
    have T5 := Lib.hid t4
    clear hb4 t4 pp
    go_wp2_with fail
    refine (said_int q _).mono ?_
    rintro e w6 ⟨hb6, rfl⟩
    have T6 := Lib.hid (bl_seq T5.out hb6)
    clear hb6
    go_wp2_with fail
    go_ret
    exact ⟨rfl, bl_alloc T6.out _⟩
  by_cases x3a : x3 < 0
  · have HN : fitsB x2 x3 = false := by simp [fitsB]; omega
    rw [saidH_no HN, HN, show (hdC hd0 : Array Value) = #[.int .u8 0, .int .u32 0, .int .u32 0, .int .u16 0, .int .u16 0, .int .u32 0, .int .u32 0] from rfl] at he2
    subst he2
    clear HN
    have hb2 : (w2.alloc (.cells #[.int .u8 0, .int .u32 0, .int .u32 0, .int .u16 0, .int .u16 0, .int .u32 0, .int .u32 0] 25)).heap[w2.heap.size]? = some (.cells #[.int .u8 0, .int .u32 0, .int .u32 0, .int .u16 0, .int .u16 0, .int .u32 0, .int .u32 0] 25 (0, 0)) := heap_alloc_new _ _
    have t2 : Below w.heap.size w (w2.alloc (.cells #[.int .u8 0, .int .u32 0, .int .u32 0, .int .u16 0, .int .u16 0, .int .u32 0, .int .u32 0] 25)) := bl_alloc T2.out _
    have dblk := blk_alloc D2.out (.cells #[.int .u8 0, .int .u32 0, .int .u32 0, .int .u16 0, .int .u16 0, .int .u32 0, .int .u32 0] 25)
    have pblk := blk_alloc P2.out (.cells #[.int .u8 0, .int .u32 0, .int .u32 0, .int .u16 0, .int .u16 0, .int .u32 0, .int .u32 0] 25)
    have d0 : (w2.alloc (.cells #[.int .u8 0, .int .u32 0, .int .u32 0, .int .u16 0, .int .u16 0, .int .u32 0, .int .u32 0] 25)).cell? ⟨w.heap.size, 0, none⟩ = some (.int .u32 x0) := (blk_cell dblk 0).trans rfl
    have d1 : (w2.alloc (.cells #[.int .u8 0, .int .u32 0, .int .u32 0, .int .u16 0, .int .u16 0, .int .u32 0, .int .u32 0] 25)).cell? ⟨w.heap.size, 1, none⟩ = some (.int .u32 x1) := (blk_cell dblk 1).trans rfl
    have d2 : (w2.alloc (.cells #[.int .u8 0, .int .u32 0, .int .u32 0, .int .u16 0, .int .u16 0, .int .u32 0, .int .u32 0] 25)).cell? ⟨w.heap.size, 2, none⟩ = some (.int .i64 x2) := (blk_cell dblk 2).trans rfl
    have d3 : (w2.alloc (.cells #[.int .u8 0, .int .u32 0, .int .u32 0, .int .u16 0, .int .u16 0, .int .u32 0, .int .u32 0] 25)).cell? ⟨w.heap.size, 3, none⟩ = some (.int .i64 x3) := (blk_cell dblk 3).trans rfl
    have d4 : (w2.alloc (.cells #[.int .u8 0, .int .u32 0, .int .u32 0, .int .u16 0, .int .u16 0, .int .u32 0, .int .u32 0] 25)).cell? ⟨w.heap.size, 4, none⟩ = some (.int .u32 x4) := (blk_cell dblk 4).trans rfl
    have H2 := Lib.hid (And.intro hb2 (And.intro t2 (And.intro dblk pblk)))
    clear hb2 t2 dblk pblk
    go_wp2_with fail
    clear d0 d1 d2 d3 d4
    refine (sealed_any _).mono ?_
    rintro e w3 ⟨rfl, hb3⟩
    have T3 := Lib.hid (bl_seq H2.out.2.1 hb3)
    have P3 := Lib.hid (blk_below H2.out.2.2.2 hb3)
    have dd := blk_below H2.out.2.2.1 hb3
    have aa := blk_below H2.out.1 hb3
    have d0 : w3.cell? ⟨w.heap.size, 0, none⟩ = some (.int .u32 x0) := (blk_cell dd 0).trans rfl
    have d1 : w3.cell? ⟨w.heap.size, 1, none⟩ = some (.int .u32 x1) := (blk_cell dd 1).trans rfl
    have d2 : w3.cell? ⟨w.heap.size, 2, none⟩ = some (.int .i64 x2) := (blk_cell dd 2).trans rfl
    have d3 : w3.cell? ⟨w.heap.size, 3, none⟩ = some (.int .i64 x3) := (blk_cell dd 3).trans rfl
    have d4 : w3.cell? ⟨w.heap.size, 4, none⟩ = some (.int .u32 x4) := (blk_cell dd 4).trans rfl
    have a0 : w3.cell? ⟨w2.heap.size, 0, none⟩ = some (.int .u8 0) := (blk_cell aa 0).trans rfl
    have a1 : w3.cell? ⟨w2.heap.size, 1, none⟩ = some (.int .u32 0) := (blk_cell aa 1).trans rfl
    have a2 : w3.cell? ⟨w2.heap.size, 2, none⟩ = some (.int .u32 0) := (blk_cell aa 2).trans rfl
    have a3 : w3.cell? ⟨w2.heap.size, 3, none⟩ = some (.int .u16 0) := (blk_cell aa 3).trans rfl
    have a4 : w3.cell? ⟨w2.heap.size, 4, none⟩ = some (.int .u16 0) := (blk_cell aa 4).trans rfl
    have a5 : w3.cell? ⟨w2.heap.size, 5, none⟩ = some (.int .u32 0) := (blk_cell aa 5).trans rfl
    have a6 : w3.cell? ⟨w2.heap.size, 6, none⟩ = some (.int .u32 0) := (blk_cell aa 6).trans rfl
    have p0 : w3.cell? ⟨w.heap.size + 1, 0, none⟩ = some (.int .u32 y0) := (blk_cell P3.out 0).trans rfl
    have p1 : w3.cell? ⟨w.heap.size + 1, 1, none⟩ = some (.int .u32 y1) := (blk_cell P3.out 1).trans rfl
    have p2 : w3.cell? ⟨w.heap.size + 1, 2, none⟩ = some (.int .i64 y2) := (blk_cell P3.out 2).trans rfl
    have p3 : w3.cell? ⟨w.heap.size + 1, 3, none⟩ = some (.int .i64 y3) := (blk_cell P3.out 3).trans rfl
    clear hb3 H2 dd aa
    have nez := neHd hd0 hd0
    rw [hdEq_self] at nez
    simp only [hdC, hd0] at nez
    go_wp2_with fail
    clear d0 d1 d2 d3 d4 a0 a1 a2 a3 a4 a5 a6 p0 p1 p2 p3
    refine (said_Parity y0 y1 y2 y3 _).mono ?_
    rintro e w4 ⟨hb4_, he4⟩
    have T4 := Lib.hid (bl_seq T3.out hb4_)
    have P4 := Lib.hid (blk_below P3.out hb4_)
    clear hb4_
    by_cases y2a : y2 < 0
    · have HN : fitsB y2 y3 = false := by simp [fitsB]; omega
      rw [saidH_no HN, HN, show (hdC hd0 : Array Value) = #[.int .u8 0, .int .u32 0, .int .u32 0, .int .u16 0, .int .u16 0, .int .u32 0, .int .u32 0] from rfl] at he4
      subst he4
      clear HN
      have hb4 : (w4.alloc (.cells #[.int .u8 0, .int .u32 0, .int .u32 0, .int .u16 0, .int .u16 0, .int .u32 0, .int .u32 0] 25)).heap[w4.heap.size]? = some (.cells #[.int .u8 0, .int .u32 0, .int .u32 0, .int .u16 0, .int .u16 0, .int .u32 0, .int .u32 0] 25 (0, 0)) := heap_alloc_new _ _
      have t4 : Below w.heap.size w (w4.alloc (.cells #[.int .u8 0, .int .u32 0, .int .u32 0, .int .u16 0, .int .u16 0, .int .u32 0, .int .u32 0] 25)) := bl_alloc T4.out _
      have pp := blk_alloc P4.out (.cells #[.int .u8 0, .int .u32 0, .int .u32 0, .int .u16 0, .int .u16 0, .int .u32 0, .int .u32 0] 25)
      have b0 : (w4.alloc (.cells #[.int .u8 0, .int .u32 0, .int .u32 0, .int .u16 0, .int .u16 0, .int .u32 0, .int .u32 0] 25)).cell? ⟨w4.heap.size, 0, none⟩ = some (.int .u8 0) := (blk_cell hb4 0).trans rfl
      have b1 : (w4.alloc (.cells #[.int .u8 0, .int .u32 0, .int .u32 0, .int .u16 0, .int .u16 0, .int .u32 0, .int .u32 0] 25)).cell? ⟨w4.heap.size, 1, none⟩ = some (.int .u32 0) := (blk_cell hb4 1).trans rfl
      have b2 : (w4.alloc (.cells #[.int .u8 0, .int .u32 0, .int .u32 0, .int .u16 0, .int .u16 0, .int .u32 0, .int .u32 0] 25)).cell? ⟨w4.heap.size, 2, none⟩ = some (.int .u32 0) := (blk_cell hb4 2).trans rfl
      have b3 : (w4.alloc (.cells #[.int .u8 0, .int .u32 0, .int .u32 0, .int .u16 0, .int .u16 0, .int .u32 0, .int .u32 0] 25)).cell? ⟨w4.heap.size, 3, none⟩ = some (.int .u16 0) := (blk_cell hb4 3).trans rfl
      have b4 : (w4.alloc (.cells #[.int .u8 0, .int .u32 0, .int .u32 0, .int .u16 0, .int .u16 0, .int .u32 0, .int .u32 0] 25)).cell? ⟨w4.heap.size, 4, none⟩ = some (.int .u16 0) := (blk_cell hb4 4).trans rfl
      have b5 : (w4.alloc (.cells #[.int .u8 0, .int .u32 0, .int .u32 0, .int .u16 0, .int .u16 0, .int .u32 0, .int .u32 0] 25)).cell? ⟨w4.heap.size, 5, none⟩ = some (.int .u32 0) := (blk_cell hb4 5).trans rfl
      have b6 : (w4.alloc (.cells #[.int .u8 0, .int .u32 0, .int .u32 0, .int .u16 0, .int .u16 0, .int .u32 0, .int .u32 0] 25)).cell? ⟨w4.heap.size, 6, none⟩ = some (.int .u32 0) := (blk_cell hb4 6).trans rfl
      have p0 : (w4.alloc (.cells #[.int .u8 0, .int .u32 0, .int .u32 0, .int .u16 0, .int .u16 0, .int .u32 0, .int .u32 0] 25)).cell? ⟨w.heap.size + 1, 0, none⟩ = some (.int .u32 y0) := (blk_cell pp 0).trans rfl
      have p1 : (w4.alloc (.cells #[.int .u8 0, .int .u32 0, .int .u32 0, .int .u16 0, .int .u16 0, .int .u32 0, .int .u32 0] 25)).cell? ⟨w.heap.size + 1, 1, none⟩ = some (.int .u32 y1) := (blk_cell pp 1).trans rfl
      have p2 : (w4.alloc (.cells #[.int .u8 0, .int .u32 0, .int .u32 0, .int .u16 0, .int .u16 0, .int .u32 0, .int .u32 0] 25)).cell? ⟨w.heap.size + 1, 2, none⟩ = some (.int .i64 y2) := (blk_cell pp 2).trans rfl
      have p3 : (w4.alloc (.cells #[.int .u8 0, .int .u32 0, .int .u32 0, .int .u16 0, .int .u16 0, .int .u32 0, .int .u32 0] 25)).cell? ⟨w.heap.size + 1, 3, none⟩ = some (.int .i64 y3) := (blk_cell pp 3).trans rfl
      have T5 := Lib.hid t4
      clear hb4 t4 pp
      go_wp2_with fail
      refine (said_int q _).mono ?_
      rintro e w6 ⟨hb6, rfl⟩
      have T6 := Lib.hid (bl_seq T5.out hb6)
      clear hb6
      go_wp2_with fail
      go_ret
      exact ⟨rfl, bl_alloc T6.out _⟩
    by_cases y2b : 65535 < y2
    · have HN : fitsB y2 y3 = false := by simp [fitsB]; omega
      rw [saidH_no HN, HN, show (hdC hd0 : Array Value) = #[.int .u8 0, .int .u32 0, .int .u32 0, .int .u16 0, .int .u16 0, .int .u32 0, .int .u32 0] from rfl] at he4
      subst he4
      clear HN
      have hb4 : (w4.alloc (.cells #[.int .u8 0, .int .u32 0, .int .u32 0, .int .u16 0, .int .u16 0, .int .u32 0, .int .u32 0] 25)).heap[w4.heap.size]? = some (.cells #[.int .u8 0, .int .u32 0, .int .u32 0, .int .u16 0, .int .u16 0, .int .u32 0, .int .u32 0] 25 (0, 0)) := heap_alloc_new _ _
      have t4 : Below w.heap.size w (w4.alloc (.cells #[.int .u8 0, .int .u32 0, .int .u32 0, .int .u16 0, .int .u16 0, .int .u32 0, .int .u32 0] 25)) := bl_alloc T4.out _
      have pp := blk_alloc P4.out (.cells #[.int .u8 0, .int .u32 0, .int .u32 0, .int .u16 0, .int .u16 0, .int .u32 0, .int .u32 0] 25)
      have b0 : (w4.alloc (.cells #[.int .u8 0, .int .u32 0, .int .u32 0, .int .u16 0, .int .u16 0, .int .u32 0, .int .u32 0] 25)).cell? ⟨w4.heap.size, 0, none⟩ = some (.int .u8 0) := (blk_cell hb4 0).trans rfl
      have b1 : (w4.alloc (.cells #[.int .u8 0, .int .u32 0, .int .u32 0, .int .u16 0, .int .u16 0, .int .u32 0, .int .u32 0] 25)).cell? ⟨w4.heap.size, 1, none⟩ = some (.int .u32 0) := (blk_cell hb4 1).trans rfl
      have b2 : (w4.alloc (.cells #[.int .u8 0, .int .u32 0, .int .u32 0, .int .u16 0, .int .u16 0, .int .u32 0, .int .u32 0] 25)).cell? ⟨w4.heap.size, 2, none⟩ = some (.int .u32 0) := (blk_cell hb4 2).trans rfl
      have b3 : (w4.alloc (.cells #[.int .u8 0, .int .u32 0, .int .u32 0, .int .u16 0, .int .u16 0, .int .u32 0, .int .u32 0] 25)).cell? ⟨w4.heap.size, 3, none⟩ = some (.int .u16 0) := (blk_cell hb4 3).trans rfl
      have b4 : (w4.alloc (.cells #[.int .u8 0, .int .u32 0, .int .u32 0, .int .u16 0, .int .u16 0, .int .u32 0, .int .u32 0] 25)).cell? ⟨w4.heap.size, 4, none⟩ = some (.int .u16 0) := (blk_cell hb4 4).trans rfl
      have b5 : (w4.alloc (.cells #[.int .u8 0, .int .u32 0, .int .u32 0, .int .u16 0, .int .u16 0, .int .u32 0, .int .u32 0] 25)).cell? ⟨w4.heap.size, 5, none⟩ = some (.int .u32 0) := (blk_cell hb4 5).trans rfl
      have b6 : (w4.alloc (.cells #[.int .u8 0, .int .u32 0, .int .u32 0, .int .u16 0, .int .u16 0, .int .u32 0, .int .u32 0] 25)).cell? ⟨w4.heap.size, 6, none⟩ = some (.int .u32 0) := (blk_cell hb4 6).trans rfl
      have p0 : (w4.alloc (.cells #[.int .u8 0, .int .u32 0, .int .u32 0, .int .u16 0, .int .u16 0, .int .u32 0, .int .u32 0] 25)).cell? ⟨w.heap.size + 1, 0, none⟩ = some (.int .u32 y0) := (blk_cell pp 0).trans rfl
      have p1 : (w4.alloc (.cells #[.int .u8 0, .int .u32 0, .int .u32 0, .int .u16 0, .int .u16 0, .int .u32 0, .int .u32 0] 25)).cell? ⟨w.heap.size + 1, 1, none⟩ = some (.int .u32 y1) := (blk_cell pp 1).trans rfl
      have p2 : (w4.alloc (.cells #[.int .u8 0, .int .u32 0, .int .u32 0, .int .u16 0, .int .u16 0, .int .u32 0, .int .u32 0] 25)).cell? ⟨w.heap.size + 1, 2, none⟩ = some (.int .i64 y2) := (blk_cell pp 2).trans rfl
      have p3 : (w4.alloc (.cells #[.int .u8 0, .int .u32 0, .int .u32 0, .int .u16 0, .int .u16 0, .int .u32 0, .int .u32 0] 25)).cell? ⟨w.heap.size + 1, 3, none⟩ = some (.int .i64 y3) := (blk_cell pp 3).trans rfl
      have T5 := Lib.hid t4
      clear hb4 t4 pp
      go_wp2_with fail
      refine (said_int q _).mono ?_
      rintro e w6 ⟨hb6, rfl⟩
      have T6 := Lib.hid (bl_seq T5.out hb6)
      clear hb6
      go_wp2_with fail
      go_ret
      exact ⟨rfl, bl_alloc T6.out _⟩
    by_cases y3a : y3 < 0
    · have HN : fitsB y2 y3 = false := by simp [fitsB]; omega
      rw [saidH_no HN, HN, show (hdC hd0 : Array Value) = #[.int .u8 0, .int .u32 0, .int .u32 0, .int .u16 0, .int .u16 0, .int .u32 0, .int .u32 0] from rfl] at he4
      subst he4
      clear HN
      have hb4 : (w4.alloc (.cells #[.int .u8 0, .int .u32 0, .int .u32 0, .int .u16 0, .int .u16 0, .int .u32 0, .int .u32 0] 25)).heap[w4.heap.size]? = some (.cells #[.int .u8 0, .int .u32 0, .int .u32 0, .int .u16 0, .int .u16 0, .int .u32 0, .int .u32 0] 25 (0, 0)) := heap_alloc_new _ _
      have t4 : Below w.heap.size w (w4.alloc (.cells #[.int .u8 0, .int .u32 0, .int .u32 0, .int .u16 0, .int .u16 0, .int .u32 0, .int .u32 0] 25)) := bl_alloc T4.out _
      have pp := blk_alloc P4.out (.cells #[.int .u8 0, .int .u32 0, .int .u32 0, .int .u16 0, .int .u16 0, .int .u32 0, .int .u32 0] 25)
      have b0 : (w4.alloc (.cells #[.int .u8 0, .int .u32 0, .int .u32 0, .int .u16 0, .int .u16 0, .int .u32 0, .int .u32 0] 25)).cell? ⟨w4.heap.size, 0, none⟩ = some (.int .u8 0) := (blk_cell hb4 0).trans rfl
      have b1 : (w4.alloc (.cells #[.int .u8 0, .int .u32 0, .int .u32 0, .int .u16 0, .int .u16 0, .int .u32 0, .int .u32 0] 25)).cell? ⟨w4.heap.size, 1, none⟩ = some (.int .u32 0) := (blk_cell hb4 1).trans rfl
      have b2 : (w4.alloc (.cells #[.int .u8 0, .int .u32 0, .int .u32 0, .int .u16 0, .int .u16 0, .int .u32 0, .int .u32 0] 25)).cell? ⟨w4.heap.size, 2, none⟩ = some (.int .u32 0) := (blk_cell hb4 2).trans rfl
      have b3 : (w4.alloc (.cells #[.int .u8 0, .int .u32 0, .int .u32 0, .int .u16 0, .int .u16 0, .int .u32 0, .int .u32 0] 25)).cell? ⟨w4.heap.size, 3, none⟩ = some (.int .u16 0) := (blk_cell hb4 3).trans rfl
      have b4 : (w4.alloc (.cells #[.int .u8 0, .int .u32 0, .int .u32 0, .int .u16 0, .int .u16 0, .int .u32 0, .int .u32 0] 25)).cell? ⟨w4.heap.size, 4, none⟩ = some (.int .u16 0) := (blk_cell hb4 4).trans rfl
      have b5 : (w4.alloc (.cells #[.int .u8 0, .int .u32 0, .int .u32 0, .int .u16 0, .int .u16 0, .int .u32 0, .int .u32 0] 25)).cell? ⟨w4.heap.size, 5, none⟩ = some (.int .u32 0) := (blk_cell hb4 5).trans rfl
      have b6 : (w4.alloc (.cells #[.int .u8 0, .int .u32 0, .int .u32 0, .int .u16 0, .int .u16 0, .int .u32 0, .int .u32 0] 25)).cell? ⟨w4.heap.size, 6, none⟩ = some (.int .u32 0) := (blk_cell hb4 6).trans rfl
      have p0 : (w4.alloc (.cells #[.int .u8 0, .int .u32 0, .int .u32 0, .int .u16 0, .int .u16 0, .int .u32 0, .int .u32 0] 25)).cell? ⟨w.heap.size + 1, 0, none⟩ = some (.int .u32 y0) := (blk_cell pp 0).trans rfl
      have p1 : (w4.alloc (.cells #[.int .u8 0, .int .u32 0, .int .u32 0, .int .u16 0, .int .u16 0, .int .u32 0, .int .u32 0] 25)).cell? ⟨w.heap.size + 1, 1, none⟩ = some (.int .u32 y1) := (blk_cell pp 1).trans rfl
      have p2 : (w4.alloc (.cells #[.int .u8 0, .int .u32 0, .int .u32 0, .int .u16 0, .int .u16 0, .int .u32 0, .int .u32 0] 25)).cell? ⟨w.heap.size + 1, 2, none⟩ = some (.int .i64 y2) := (blk_cell pp 2).trans rfl
      have p3 : (w4.alloc (.cells #[.int .u8 0, .int .u32 0, .int .u32 0, .int .u16 0, .int .u16 0, .int .u32 0, .int .u32 0] 25)).cell? ⟨w.heap.size + 1, 3, none⟩ = some (.int .i64 y3) := (blk_cell pp 3).trans rfl
      have T5 := Lib.hid t4
      clear hb4 t4 pp
      go_wp2_with fail
      refine (said_int q _).mono ?_
      rintro e w6 ⟨hb6, rfl⟩
      have T6 := Lib.hid (bl_seq T5.out hb6)
      clear hb6
      go_wp2_with fail
      go_ret
      exact ⟨rfl, bl_alloc T6.out _⟩
    by_cases y3b : 65535 < y3
    · have HN : fitsB y2 y3 = false := by simp [fitsB]; omega
      rw [saidH_no HN, HN, show (hdC hd0 : Array Value) = #[.int .u8 0, .int .u32 0, .int .u32 0, .int .u16 0, .int .u16 0, .int .u32 0, .int .u32 0] from rfl] at he4
      subst he4
      clear HN
      have hb4 : (w4.alloc (.cells #[.int .u8 0, .int .u32 0, .int .u32 0, .int .u16 0, .int .u16 0, .int .u32 0, .int .u32 0] 25)).heap[w4.heap.size]? = some (.cells #[.int .u8 0, .int .u32 0, .int .u32 0, .int .u16 0, .int .u16 0, .int .u32 0, .int .u32 0] 25 (0, 0)) := heap_alloc_new _ _
      have t4 : Below w.heap.size w (w4.alloc (.cells #[.int .u8 0, .int .u32 0, .int .u32 0, .int .u16 0, .int .u16 0, .int .u32 0, .int .u32 0] 25)) := bl_alloc T4.out _
      have pp := blk_alloc P4.out (.cells #[.int .u8 0, .int .u32 0, .int .u32 0, .int .u16 0, .int .u16 0, .int .u32 0, .int .u32 0] 25)
      have b0 : (w4.alloc (.cells #[.int .u8 0, .int .u32 0, .int .u32 0, .int .u16 0, .int .u16 0, .int .u32 0, .int .u32 0] 25)).cell? ⟨w4.heap.size, 0, none⟩ = some (.int .u8 0) := (blk_cell hb4 0).trans rfl
      have b1 : (w4.alloc (.cells #[.int .u8 0, .int .u32 0, .int .u32 0, .int .u16 0, .int .u16 0, .int .u32 0, .int .u32 0] 25)).cell? ⟨w4.heap.size, 1, none⟩ = some (.int .u32 0) := (blk_cell hb4 1).trans rfl
      have b2 : (w4.alloc (.cells #[.int .u8 0, .int .u32 0, .int .u32 0, .int .u16 0, .int .u16 0, .int .u32 0, .int .u32 0] 25)).cell? ⟨w4.heap.size, 2, none⟩ = some (.int .u32 0) := (blk_cell hb4 2).trans rfl
      have b3 : (w4.alloc (.cells #[.int .u8 0, .int .u32 0, .int .u32 0, .int .u16 0, .int .u16 0, .int .u32 0, .int .u32 0] 25)).cell? ⟨w4.heap.size, 3, none⟩ = some (.int .u16 0) := (blk_cell hb4 3).trans rfl
      have b4 : (w4.alloc (.cells #[.int .u8 0, .int .u32 0, .int .u32 0, .int .u16 0, .int .u16 0, .int .u32 0, .int .u32 0] 25)).cell? ⟨w4.heap.size, 4, none⟩ = some (.int .u16 0) := (blk_cell hb4 4).trans rfl
      have b5 : (w4.alloc (.cells #[.int .u8 0, .int .u32 0, .int .u32 0, .int .u16 0, .int .u16 0, .int .u32 0, .int .u32 0] 25)).cell? ⟨w4.heap.size, 5, none⟩ = some (.int .u32 0) := (blk_cell hb4 5).trans rfl
      have b6 : (w4.alloc (.cells #[.int .u8 0, .int .u32 0, .int .u32 0, .int .u16 0, .int .u16 0, .int .u32 0, .int .u32 0] 25)).cell? ⟨w4.heap.size, 6, none⟩ = some (.int .u32 0) := (blk_cell hb4 6).trans rfl
      have p0 : (w4.alloc (.cells #[.int .u8 0, .int .u32 0, .int .u32 0, .int .u16 0, .int .u16 0, .int .u32 0, .int .u32 0] 25)).cell? ⟨w.heap.size + 1, 0, none⟩ = some (.int .u32 y0) := (blk_cell pp 0).trans rfl
      have p1 : (w4.alloc (.cells #[.int .u8 0, .int .u32 0, .int .u32 0, .int .u16 0, .int .u16 0, .int .u32 0, .int .u32 0] 25)).cell? ⟨w.heap.size + 1, 1, none⟩ = some (.int .u32 y1) := (blk_cell pp 1).trans rfl
      have p2 : (w4.alloc (.cells #[.int .u8 0, .int .u32 0, .int .u32 0, .int .u16 0, .int .u16 0, .int .u32 0, .int .u32 0] 25)).cell? ⟨w.heap.size + 1, 2, none⟩ = some (.int .i64 y2) := (blk_cell pp 2).trans rfl
      have p3 : (w4.alloc (.cells #[.int .u8 0, .int .u32 0, .int .u32 0, .int .u16 0, .int .u16 0, .int .u32 0, .int .u32 0] 25)).cell? ⟨w.heap.size + 1, 3, none⟩ = some (.int .i64 y3) := (blk_cell pp 3).trans rfl
      have T5 := Lib.hid t4
      clear hb4 t4 pp
      go_wp2_with fail
      refine (said_int q _).mono ?_
      rintro e w6 ⟨hb6, rfl⟩
      have T6 := Lib.hid (bl_seq T5.out hb6)
      clear hb6
      go_wp2_with fail
      go_ret
      exact ⟨rfl, bl_alloc T6.out _⟩
    have HN : fitsB y2 y3 = true := by simp [fitsB]; omega
    rw [saidH_yes HN, HN] at he4
    subst he4
    clear HN
    have wi2 := i64w (i := y2) (by omega) (by omega)
    have wi3 := i64w (i := y3) (by omega) (by omega)
    have hb4 : (w4.alloc (.cells #[.int .u8 5, .int .u32 y0, .int .u32 y1, .int .u16 y2, .int .u16 y3, .int .u32 0, .int .u32 0] 25)).heap[w4.heap.size]? = some (.cells #[.int .u8 5, .int .u32 y0, .int .u32 y1, .int .u16 y2, .int .u16 y3, .int .u32 0, .int .u32 0] 25 (0, 0)) := heap_alloc_new _ _
    have t4 : Below w.heap.size w (w4.alloc (.cells #[.int .u8 5, .int .u32 y0, .int .u32 y1, .int .u16 y2, .int .u16 y3, .int .u32 0, .int .u32 0] 25)) := bl_alloc T4.out _
    have pp := blk_alloc P4.out (.cells #[.int .u8 5, .int .u32 y0, .int .u32 y1, .int .u16 y2, .int .u16 y3, .int .u32 0, .int .u32 0] 25)
    have b0 : (w4.alloc (.cells #[.int .u8 5, .int .u32 y0, .int .u32 y1, .int .u16 y2, .int .u16 y3, .int .u32 0, .int .u32 0] 25)).cell? ⟨w4.heap.size, 0, none⟩ = some (.int .u8 5) := (blk_cell hb4 0).trans rfl
    have b1 : (w4.alloc (.cells #[.int .u8 5, .int .u32 y0, .int .u32 y1, .int .u16 y2, .int .u16 y3, .int .u32 0, .int .u32 0] 25)).cell? ⟨w4.heap.size, 1, none⟩ = some (.int .u32 y0) := (blk_cell hb4 1).trans rfl
    have b2 : (w4.alloc (.cells #[.int .u8 5, .int .u32 y0, .int .u32 y1, .int .u16 y2, .int .u16 y3, .int .u32 0, .int .u32 0] 25)).cell? ⟨w4.heap.size, 2, none⟩ = some (.int .u32 y1) := (blk_cell hb4 2).trans rfl
    have b3 : (w4.alloc (.cells #[.int .u8 5, .int .u32 y0, .int .u32 y1, .int .u16 y2, .int .u16 y3, .int .u32 0, .int .u32 0] 25)).cell? ⟨w4.heap.size, 3, none⟩ = some (.int .u16 y2) := (blk_cell hb4 3).trans rfl
    have b4 : (w4.alloc (.cells #[.int .u8 5, .int .u32 y0, .int .u32 y1, .int .u16 y2, .int .u16 y3, .int .u32 0, .int .u32 0] 25)).cell? ⟨w4.heap.size, 4, none⟩ = some (.int .u16 y3) := (blk_cell hb4 4).trans rfl
    have b5 : (w4.alloc (.cells #[.int .u8 5, .int .u32 y0, .int .u32 y1, .int .u16 y2, .int .u16 y3, .int .u32 0, .int .u32 0] 25)).cell? ⟨w4.heap.size, 5, none⟩ = some (.int .u32 0) := (blk_cell hb4 5).trans rfl
    have b6 : (w4.alloc (.cells #[.int .u8 5, .int .u32 y0, .int .u32 y1, .int .u16 y2, .int .u16 y3, .int .u32 0, .int .u32 0] 25)).cell? ⟨w4.heap.size, 6, none⟩ = some (.int .u32 0) := (blk_cell hb4 6).trans rfl
    have p0 : (w4.alloc (.cells #[.int .u8 5, .int .u32 y0, .int .u32 y1, .int .u16 y2, .int .u16 y3, .int .u32 0, .int .u32 0] 25)).cell? ⟨w.heap.size + 1, 0, none⟩ = some (.int .u32 y0) := (blk_cell pp 0).trans rfl
    have p1 : (w4.alloc (.cells #[.int .u8 5, .int .u32 y0, .int .u32 y1, .int .u16 y2, .int .u16 y3, .int .u32 0, .int .u32 0] 25)).cell? ⟨w.heap.size + 1, 1, none⟩ = some (.int .u32 y1) := (blk_cell pp 1).trans rfl
    have p2 : (w4.alloc (.cells #[.int .u8 5, .int .u32 y0, .int .u32 y1, .int .u16 y2, .int .u16 y3, .int .u32 0, .int .u32 0] 25)).cell? ⟨w.heap.size + 1, 2, none⟩ = some (.int .i64 y2) := (blk_cell pp 2).trans rfl
    have p3 : (w4.alloc (.cells #[.int .u8 5, .int .u32 y0, .int .u32 y1, .int .u16 y2, .int .u16 y3, .int .u32 0, .int .u32 0] 25)).cell? ⟨w.heap.size + 1, 3, none⟩ = some (.int .i64 y3) := (blk_cell pp 3).trans rfl
    have T5 := Lib.hid t4
    clear hb4 t4 pp
    go_wp2_with fail
    refine (said_int q _).mono ?_
    rintro e w6 ⟨hb6, rfl⟩
    have T6 := Lib.hid (bl_seq T5.out hb6)
    clear hb6
    go_wp2_with fail
    go_ret
    exact ⟨rfl, bl_alloc T6.out _⟩
  by_cases x3b : 65535 < x3
  · have HN : fitsB x2 x3 = false := by simp [fitsB]; omega
    rw [saidH_no HN, HN, show (hdC hd0 : Array Value) = #[.int .u8 0, .int .u32 0, .int .u32 0, .int .u16 0, .int .u16 0, .int .u32 0, .int .u32 0] from rfl] at he2
    subst he2
    clear HN
    have hb2 : (w2.alloc (.cells #[.int .u8 0, .int .u32 0, .int .u32 0, .int .u16 0, .int .u16 0, .int .u32 0, .int .u32 0] 25)).heap[w2.heap.size]? = some (.cells #[.int .u8 0, .int .u32 0, .int .u32 0, .int .u16 0, .int .u16 0, .int .u32 0, .int .u32 0] 25 (0, 0)) := heap_alloc_new _ _
    have t2 : Below w.heap.size w (w2.alloc (.cells #[.int .u8 0, .int .u32 0, .int .u32 0, .int .u16 0, .int .u16 0, .int .u32 0, .int .u32 0] 25)) := bl_alloc T2.out _
    have dblk := blk_alloc D2.out (.cells #[.int .u8 0, .int .u32 0, .int .u32 0, .int .u16 0, .int .u16 0, .int .u32 0, .int .u32 0] 25)
    have pblk := blk_alloc P2.out (.cells #[.int .u8 0, .int .u32 0, .int .u32 0, .int .u16 0, .int .u16 0, .int .u32 0, .int .u32 0] 25)
    have d0 : (w2.alloc (.cells #[.int .u8 0, .int .u32 0, .int .u32 0, .int .u16 0, .int .u16 0, .int .u32 0, .int .u32 0] 25)).cell? ⟨w.heap.size, 0, none⟩ = some (.int .u32 x0) := (blk_cell dblk 0).trans rfl
    have d1 : (w2.alloc (.cells #[.int .u8 0, .int .u32 0, .int .u32 0, .int .u16 0, .int .u16 0, .int .u32 0, .int .u32 0] 25)).cell? ⟨w.heap.size, 1, none⟩ = some (.int .u32 x1) := (blk_cell dblk 1).trans rfl
    have d2 : (w2.alloc (.cells #[.int .u8 0, .int .u32 0, .int .u32 0, .int .u16 0, .int .u16 0, .int .u32 0, .int .u32 0] 25)).cell? ⟨w.heap.size, 2, none⟩ = some (.int .i64 x2) := (blk_cell dblk 2).trans rfl
    have d3 : (w2.alloc (.cells #[.int .u8 0, .int .u32 0, .int .u32 0, .int .u16 0, .int .u16 0, .int .u32 0, .int .u32 0] 25)).cell? ⟨w.heap.size, 3, none⟩ = some (.int .i64 x3) := (blk_cell dblk 3).trans rfl
    have d4 : (w2.alloc (.cells #[.int .u8 0, .int .u32 0, .int .u32 0, .int .u16 0, .int .u16 0, .int .u32 0, .int .u32 0] 25)).cell? ⟨w.heap.size, 4, none⟩ = some (.int .u32 x4) := (blk_cell dblk 4).trans rfl
    have H2 := Lib.hid (And.intro hb2 (And.intro t2 (And.intro dblk pblk)))
    clear hb2 t2 dblk pblk
    go_wp2_with fail
    clear d0 d1 d2 d3 d4
    refine (sealed_any _).mono ?_
    rintro e w3 ⟨rfl, hb3⟩
    have T3 := Lib.hid (bl_seq H2.out.2.1 hb3)
    have P3 := Lib.hid (blk_below H2.out.2.2.2 hb3)
    have dd := blk_below H2.out.2.2.1 hb3
    have aa := blk_below H2.out.1 hb3
    have d0 : w3.cell? ⟨w.heap.size, 0, none⟩ = some (.int .u32 x0) := (blk_cell dd 0).trans rfl
    have d1 : w3.cell? ⟨w.heap.size, 1, none⟩ = some (.int .u32 x1) := (blk_cell dd 1).trans rfl
    have d2 : w3.cell? ⟨w.heap.size, 2, none⟩ = some (.int .i64 x2) := (blk_cell dd 2).trans rfl
    have d3 : w3.cell? ⟨w.heap.size, 3, none⟩ = some (.int .i64 x3) := (blk_cell dd 3).trans rfl
    have d4 : w3.cell? ⟨w.heap.size, 4, none⟩ = some (.int .u32 x4) := (blk_cell dd 4).trans rfl
    have a0 : w3.cell? ⟨w2.heap.size, 0, none⟩ = some (.int .u8 0) := (blk_cell aa 0).trans rfl
    have a1 : w3.cell? ⟨w2.heap.size, 1, none⟩ = some (.int .u32 0) := (blk_cell aa 1).trans rfl
    have a2 : w3.cell? ⟨w2.heap.size, 2, none⟩ = some (.int .u32 0) := (blk_cell aa 2).trans rfl
    have a3 : w3.cell? ⟨w2.heap.size, 3, none⟩ = some (.int .u16 0) := (blk_cell aa 3).trans rfl
    have a4 : w3.cell? ⟨w2.heap.size, 4, none⟩ = some (.int .u16 0) := (blk_cell aa 4).trans rfl
    have a5 : w3.cell? ⟨w2.heap.size, 5, none⟩ = some (.int .u32 0) := (blk_cell aa 5).trans rfl
    have a6 : w3.cell? ⟨w2.heap.size, 6, none⟩ = some (.int .u32 0) := (blk_cell aa 6).trans rfl
    have p0 : w3.cell? ⟨w.heap.size + 1, 0, none⟩ = some (.int .u32 y0) := (blk_cell P3.out 0).trans rfl
    have p1 : w3.cell? ⟨w.heap.size + 1, 1, none⟩ = some (.int .u32 y1) := (blk_cell P3.out 1).trans rfl
    have p2 : w3.cell? ⟨w.heap.size + 1, 2, none⟩ = some (.int .i64 y2) := (blk_cell P3.out 2).trans rfl
    have p3 : w3.cell? ⟨w.heap.size + 1, 3, none⟩ = some (.int .i64 y3) := (blk_cell P3.out 3).trans rfl
    clear hb3 H2 dd aa
    have nez := neHd hd0 hd0
    rw [hdEq_self] at nez
    simp only [hdC, hd0] at nez
    go_wp2_with fail
    clear d0 d1 d2 d3 d4 a0 a1 a2 a3 a4 a5 a6 p0 p1 p2 p3
    refine (said_Parity y0 y1 y2 y3 _).mono ?_
    rintro e w4 ⟨hb4_, he4⟩
    have T4 := Lib.hid (bl_seq T3.out hb4_)
    have P4 := Lib.hid (blk_below P3.out hb4_)
    clear hb4_
    by_cases y2a : y2 < 0
    · have HN : fitsB y2 y3 = false := by simp [fitsB]; omega
      rw [saidH_no HN, HN, show (hdC hd0 : Array Value) = #[.int .u8 0, .int .u32 0, .int .u32 0, .int .u16 0, .int .u16 0, .int .u32 0, .int .u32 0] from rfl] at he4
      subst he4
      clear HN
      have hb4 : (w4.alloc (.cells #[.int .u8 0, .int .u32 0, .int .u32 0, .int .u16 0, .int .u16 0, .int .u32 0, .int .u32 0] 25)).heap[w4.heap.size]? = some (.cells #[.int .u8 0, .int .u32 0, .int .u32 0, .int .u16 0, .int .u16 0, .int .u32 0, .int .u32 0] 25 (0, 0)) := heap_alloc_new _ _
      have t4 : Below w.heap.size w (w4.alloc (.cells #[.int .u8 0, .int .u32 0, .int .u32 0, .int .u16 0, .int .u16 0, .int .u32 0, .int .u32 0] 25)) := bl_alloc T4.out _
      have pp := blk_alloc P4.out (.cells #[.int .u8 0, .int .u32 0, .int .u32 0, .int .u16 0, .int .u16 0, .int .u32 0, .int .u32 0] 25)
      have b0 : (w4.alloc (.cells #[.int .u8 0, .int .u32 0, .int .u32 0, .int .u16 0, .int .u16 0, .int .u32 0, .int .u32 0] 25)).cell? ⟨w4.heap.size, 0, none⟩ = some (.int .u8 0) := (blk_cell hb4 0).trans rfl
      have b1 : (w4.alloc (.cells #[.int .u8 0, .int .u32 0, .int .u32 0, .int .u16 0, .int .u16 0, .int .u32 0, .int .u32 0] 25)).cell? ⟨w4.heap.size, 1, none⟩ = some (.int .u32 0) := (blk_cell hb4 1).trans rfl
      have b2 : (w4.alloc (.cells #[.int .u8 0, .int .u32 0, .int .u32 0, .int .u16 0, .int .u16 0, .int .u32 0, .int .u32 0] 25)).cell? ⟨w4.heap.size, 2, none⟩ = some (.int .u32 0) := (blk_cell hb4 2).trans rfl
      have b3 : (w4.alloc (.cells #[.int .u8 0, .int .u32 0, .int .u32 0, .int .u16 0, .int .u16 0, .int .u32 0, .int .u32 0] 25)).cell? ⟨w4.heap.size, 3, none⟩ = some (.int .u16 0) := (blk_cell hb4 3).trans rfl
      have b4 : (w4.alloc (.cells #[.int .u8 0, .int .u32 0, .int .u32 0, .int .u16 0, .int .u16 0, .int .u32 0, .int .u32 0] 25)).cell? ⟨w4.heap.size, 4, none⟩ = some (.int .u16 0) := (blk_cell hb4 4).trans rfl
      have b5 : (w4.alloc (.cells #[.int .u8 0, .int .u32 0, .int .u32 0, .int .u16 0, .int .u16 0, .int .u32 0, .int .u32 0] 25)).cell? ⟨w4.heap.size, 5, none⟩ = some (.int .u32 0) := (blk_cell hb4 5).trans rfl
      have b6 : (w4.alloc (.cells #[.int .u8 0, .int .u32 0, .int .u32 0, .int .u16 0, .int .u16 0, .int .u32 0, .int .u32 0] 25)).cell? ⟨w4.heap.size, 6, none⟩ = some (.int .u32 0) := (blk_cell hb4 6).trans rfl
      have p0 : (w4.alloc (.cells #[.int .u8 0, .int .u32 0, .int .u32 0, .int .u16 0, .int .u16 0, .int .u32 0, .int .u32 0] 25)).cell? ⟨w.heap.size + 1, 0, none⟩ = some (.int .u32 y0) := (blk_cell pp 0).trans rfl
      have p1 : (w4.alloc (.cells #[.int .u8 0, .int .u32 0, .int .u32 0, .int .u16 0, .int .u16 0, .int .u32 0, .int .u32 0] 25)).cell? ⟨w.heap.size + 1, 1, none⟩ = some (.int .u32 y1) := (blk_cell pp 1).trans rfl
      have p2 : (w4.alloc (.cells #[.int .u8 0, .int .u32 0, .int .u32 0, .int .u16 0, .int .u16 0, .int .u32 0, .int .u32 0] 25)).cell? ⟨w.heap.size + 1, 2, none⟩ = some (.int .i64 y2) := (blk_cell pp 2).trans rfl
      have p3 : (w4.alloc (.cells #[.int .u8 0, .int .u32 0, .int .u32 0, .int .u16 0, .int .u16 0, .int .u32 0, .int .u32 0] 25)).cell? ⟨w.heap.size + 1, 3, none⟩ = some (.int .i64 y3) := (blk_cell pp 3).trans rfl
      have T5 := Lib.hid t4
      clear hb4 t4 pp
      go_wp2_with fail
      refine (said_int q _).mono ?_
      rintro e w6 ⟨hb6, rfl⟩
      have T6 := Lib.hid (bl_seq T5.out hb6)
      clear hb6
      go_wp2_with fail
      go_ret
      exact ⟨rfl, bl_alloc T6.out _⟩
    by_cases y2b : 65535 < y2
    · have HN : fitsB y2 y3 = false := by simp [fitsB]; omega
      rw [saidH_no HN, HN, show (hdC hd0 : Array Value) = #[.int .u8 0, .int .u32 0, .int .u32 0, .int .u16 0, .int .u16 0, .int .u32 0, .int .u32 0] from rfl] at he4
      subst he4
      clear HN
      have hb4 : (w4.alloc (.cells #[.int .u8 0, .int .u32 0, .int .u32 0, .int .u16 0, .int .u16 0, .int .u32 0, .int .u32 0] 25)).heap[w4.heap.size]? = some (.cells #[.int .u8 0, .int .u32 0, .int .u32 0, .int .u16 0, .int .u16 0, .int .u32 0, .int .u32 0] 25 (0, 0)) := heap_alloc_new _ _
      have t4 : Below w.heap.size w (w4.alloc (.cells #[.int .u8 0, .int .u32 0, .int .u32 0, .int .u16 0, .int .u16 0, .int .u32 0, .int .u32 0] 25)) := bl_alloc T4.out _
      have pp := blk_alloc P4.out (.cells #[.int .u8 0, .int .u32 0, .int .u32 0, .int .u16 0, .int .u16 0, .int .u32 0, .int .u32 0] 25)
      have b0 : (w4.alloc (.cells #[.int .u8 0, .int .u32 0, .int .u32 0, .int .u16 0, .int .u16 0, .int .u32 0, .int .u32 0] 25)).cell? ⟨w4.heap.size, 0, none⟩ = some (.int .u8 0) := (blk_cell hb4 0).trans rfl
      have b1 : (w4.alloc (.cells #[.int .u8 0, .int .u32 0, .int .u32 0, .int .u16 0, .int .u16 0, .int .u32 0, .int .u32 0] 25)).cell? ⟨w4.heap.size, 1, none⟩ = some (.int .u32 0) := (blk_cell hb4 1).trans rfl
      have b2 : (w4.alloc (.cells #[.int .u8 0, .int .u32 0, .int .u32 0, .int .u16 0, .int .u16 0, .int .u32 0, .int .u32 0] 25)).cell? ⟨w4.heap.size, 2, none⟩ = some (.int .u32 0) := (blk_cell hb4 2).trans rfl
      have b3 : (w4.alloc (.cells #[.int .u8 0, .int .u32 0, .int .u32 0, .int .u16 0, .int .u16 0, .int .u32 0, .int .u32 0] 25)).cell? ⟨w4.heap.size, 3, none⟩ = some (.int .u16 0) := (blk_cell hb4 3).trans rfl
      have b4 : (w4.alloc (.cells #[.int .u8 0, .int .u32 0, .int .u32 0, .int .u16 0, .int .u16 0, .int .u32 0, .int .u32 0] 25)).cell? ⟨w4.heap.size, 4, none⟩ = some (.int .u16 0) := (blk_cell hb4 4).trans rfl
      have b5 : (w4.alloc (.cells #[.int .u8 0, .int .u32 0, .int .u32 0, .int .u16 0, .int .u16 0, .int .u32 0, .int .u32 0] 25)).cell? ⟨w4.heap.size, 5, none⟩ = some (.int .u32 0) := (blk_cell hb4 5).trans rfl
      have b6 : (w4.alloc (.cells #[.int .u8 0, .int .u32 0, .int .u32 0, .int .u16 0, .int .u16 0, .int .u32 0, .int .u32 0] 25)).cell? ⟨w4.heap.size, 6, none⟩ = some (.int .u32 0) := (blk_cell hb4 6).trans rfl
      have p0 : (w4.alloc (.cells #[.int .u8 0, .int .u32 0, .int .u32 0, .int .u16 0, .int .u16 0, .int .u32 0, .int .u32 0] 25)).cell? ⟨w.heap.size + 1, 0, none⟩ = some (.int .u32 y0) := (blk_cell pp 0).trans rfl
      have p1 : (w4.alloc (.cells #[.int .u8 0, .int .u32 0, .int .u32 0, .int .u16 0, .int .u16 0, .int .u32 0, .int .u32 0] 25)).cell? ⟨w.heap.size + 1, 1, none⟩ = some (.int .u32 y1) := (blk_cell pp 1).trans rfl
      have p2 : (w4.alloc (.cells #[.int .u8 0, .int .u32 0, .int .u32 0, .int .u16 0, .int .u16 0, .int .u32 0, .int .u32 0] 25)).cell? ⟨w.heap.size + 1, 2, none⟩ = some (.int .i64 y2) := (blk_cell pp 2).trans rfl
      have p3 : (w4.alloc (.cells #[.int .u8 0, .int .u32 0, .int .u32 0, .int .u16 0, .int .u16 0, .int .u32 0, .int .u32 0] 25)).cell? ⟨w.heap.size + 1, 3, none⟩ = some (.int .i64 y3) := (blk_cell pp 3).trans rfl
      have T5 := Lib.hid t4
      clear hb4 t4 pp
      go_wp2_with fail
      refine (said_int q _).mono ?_
      rintro e w6 ⟨hb6, rfl⟩
      have T6 := Lib.hid (bl_seq T5.out hb6)
      clear hb6
      go_wp2_with fail
      go_ret
      exact ⟨rfl, bl_alloc T6.out _⟩
    by_cases y3a : y3 < 0
    · have HN : fitsB y2 y3 = false := by simp [fitsB]; omega
      rw [saidH_no HN, HN, show (hdC hd0 : Array Value) = #[.int .u8 0, .int .u32 0, .int .u32 0, .int .u16 0, .int .u16 0, .int .u32 0, .int .u32 0] from rfl] at he4
      subst he4
      clear HN
      have hb4 : (w4.alloc (.cells #[.int .u8 0, .int .u32 0, .int .u32 0, .int .u16 0, .int .u16 0, .int .u32 0, .int .u32 0] 25)).heap[w4.heap.size]? = some (.cells #[.int .u8 0, .int .u32 0, .int .u32 0, .int .u16 0, .int .u16 0, .int .u32 0, .int .u32 0] 25 (0, 0)) := heap_alloc_new _ _
      have t4 : Below w.heap.size w (w4.alloc (.cells #[.int .u8 0, .int .u32 0, .int .u32 0, .int .u16 0, .int .u16 0, .int .u32 0, .int .u32 0] 25)) := bl_alloc T4.out _
      have pp := blk_alloc P4.out (.cells #[.int .u8 0, .int .u32 0, .int .u32 0, .int .u16 0, .int .u16 0, .int .u32 0, .int .u32 0] 25)
      have b0 : (w4.alloc (.cells #[.int .u8 0, .int .u32 0, .int .u32 0, .int .u16 0, .int .u16 0, .int .u32 0, .int .u32 0] 25)).cell? ⟨w4.heap.size, 0, none⟩ = some (.int .u8 0) := (blk_cell hb4 0).trans rfl
      have b1 : (w4.alloc (.cells #[.int .u8 0, .int .u32 0, .int .u32 0, .int .u16 0, .int .u16 0, .int .u32 0, .int .u32 0] 25)).cell? ⟨w4.heap.size, 1, none⟩ = some (.int .u32 0) := (blk_cell hb4 1).trans rfl
      have b2 : (w4.alloc (.cells #[.int .u8 0, .int .u32 0, .int .u32 0, .int .u16 0, .int .u16 0, .int .u32 0, .int .u32 0] 25)).cell? ⟨w4.heap.size, 2, none⟩ = some (.int .u32 0) := (blk_cell hb4 2).trans rfl
      have b3 : (w4.alloc (.cells #[.int .u8 0, .int .u32 0, .int .u32 0, .int .u16 0, .int .u16 0, .int .u32 0, .int .u32 0] 25)).cell? ⟨w4.heap.size, 3, none⟩ = some (.int .u16 0) := (blk_cell hb4 3).trans rfl
      have b4 : (w4.alloc (.cells #[.int .u8 0, .int .u32 0, .int .u32 0, .int .u16 0, .int .u16 0, .int .u32 0, .int .u32 0] 25)).cell? ⟨w4.heap.size, 4, none⟩ = some (.int .u16 0) := (blk_cell hb4 4).trans rfl
      have b5 : (w4.alloc (.cells #[.int .u8 0, .int .u32 0, .int .u32 0, .int .u16 0, .int .u16 0, .int .u32 0, .int .u32 0] 25)).cell? ⟨w4.heap.size, 5, none⟩ = some (.int .u32 0) := (blk_cell hb4 5).trans rfl
      have b6 : (w4.alloc (.cells #[.int .u8 0, .int .u32 0, .int .u32 0, .int .u16 0, .int .u16 0, .int .u32 0, .int .u32 0] 25)).cell? ⟨w4.heap.size, 6, none⟩ = some (.int .u32 0) := (blk_cell hb4 6).trans rfl
      have p0 : (w4.alloc (.cells #[.int .u8 0, .int .u32 0, .int .u32 0, .int .u16 0, .int .u16 0, .int .u32 0, .int .u32 0] 25)).cell? ⟨w.heap.size + 1, 0, none⟩ = some (.int .u32 y0) := (blk_cell pp 0).trans rfl
      have p1 : (w4.alloc (.cells #[.int .u8 0, .int .u32 0, .int .u32 0, .int .u16 0, .int .u16 0, .int .u32 0, .int .u32 0] 25)).cell? ⟨w.heap.size + 1, 1, none⟩ = some (.int .u32 y1) := (blk_cell pp 1).trans rfl
      have p2 : (w4.alloc (.cells #[.int .u8 0, .int .u32 0, .int .u32 0, .int .u16 0, .int .u16 0, .int .u32 0, .int .u32 0] 25)).cell? ⟨w.heap.size + 1, 2, none⟩ = some (.int .i64 y2) := (blk_cell pp 2).trans rfl
      have p3 : (w4.alloc (.cells #[.int .u8 0, .int .u32 0, .int .u32 0, .int .u16 0, .int .u16 0, .int .u32 0, .int .u32 0] 25)).cell? ⟨w.heap.size + 1, 3, none⟩ = some (.int .i64 y3) := (blk_cell pp 3).trans rfl
      have T5 := Lib.hid t4
      clear hb4 t4 pp
      go_wp2_with fail
      refine (said_int q _).mono ?_
      rintro e w6 ⟨hb6, rfl⟩
      have T6 := Lib.hid (bl_seq T5.out hb6)
      clear hb6
      go_wp2_with fail
      go_ret
      exact ⟨rfl, bl_alloc T6.out _⟩
    by_cases y3b : 65535 < y3
    · have HN : fitsB y2 y3 = false := by simp [fitsB]; omega
      rw [saidH_no HN, HN, show (hdC hd0 : Array Value) = #[.int .u8 0, .int .u32 0, .int .u32 0, .int .u16 0, .int .u16 0, .int .u32 0, .int .u32 0] from rfl] at he4
      subst he4
      clear HN
      have hb4 : (w4.alloc (.cells #[.int .u8 0, .int .u32 0, .int .u32 0, .int .u16 0, .int .u16 0, .int .u32 0, .int .u32 0] 25)).heap[w4.heap.size]? = some (.cells #[.int .u8 0, .int .u32 0, .int .u32 0, .int .u16 0, .int .u16 0, .int .u32 0, .int .u32 0] 25 (0, 0)) := heap_alloc_new _ _
      have t4 : Below w.heap.size w (w4.alloc (.cells #[.int .u8 0, .int .u32 0, .int .u32 0, .int .u16 0, .int .u16 0, .int .u32 0, .int .u32 0] 25)) := bl_alloc T4.out _
      have pp := blk_alloc P4.out (.cells #[.int .u8 0, .int .u32 0, .int .u32 0, .int .u16 0, .int .u16 0, .int .u32 0, .int .u32 0] 25)
      have b0 : (w4.alloc (.cells #[.int .u8 0, .int .u32 0, .int .u32 0, .int .u16 0, .int .u16 0, .int .u32 0, .int .u32 0] 25)).cell? ⟨w4.heap.size, 0, none⟩ = some (.int .u8 0) := (blk_cell hb4 0).trans rfl
      have b1 : (w4.alloc (.cells #[.int .u8 0, .int .u32 0, .int .u32 0, .int .u16 0, .int .u16 0, .int .u32 0, .int .u32 0] 25)).cell? ⟨w4.heap.size, 1, none⟩ = some (.int .u32 0) := (blk_cell hb4 1).trans rfl
      have b2 : (w4.alloc (.cells #[.int .u8 0, .int .u32 0, .int .u32 0, .int .u16 0, .int .u16 0, .int .u32 0, .int .u32 0] 25)).cell? ⟨w4.heap.size, 2, none⟩ = some (.int .u32 0) := (blk_cell hb4 2).trans rfl
      have b3 : (w4.alloc (.cells #[.int .u8 0, .int .u32 0, .int .u32 0, .int .u16 0, .int .u16 0, .int .u32 0, .int .u32 0] 25)).cell? ⟨w4.heap.size, 3, none⟩ = some (.int .u16 0) := (blk_cell hb4 3).trans rfl
      have b4 : (w4.alloc (.cells #[.int .u8 0, .int .u32 0, .int .u32 0, .int .u16 0, .int .u16 0, .int .u32 0, .int .u32 0] 25)).cell? ⟨w4.heap.size, 4, none⟩ = some (.int .u16 0) := (blk_cell hb4 4).trans rfl
      have b5 : (w4.alloc (.cells #[.int .u8 0, .int .u32 0, .int .u32 0, .int .u16 0, .int .u16 0, .int .u32 0, .int .u32 0] 25)).cell? ⟨w4.heap.size, 5, none⟩ = some (.int .u32 0) := (blk_cell hb4 5).trans rfl
      have b6 : (w4.alloc (.cells #[.int .u8 0, .int .u32 0, .int .u32 0, .int .u16 0, .int .u16 0, .int .u32 0, .int .u32 0] 25)).cell? ⟨w4.heap.size, 6, none⟩ = some (.int .u32 0) := (blk_cell hb4 6).trans rfl
      have p0 : (w4.alloc (.cells #[.int .u8 0, .int .u32 0, .int .u32 0, .int .u16 0, .int .u16 0, .int .u32 0, .int .u32 0] 25)).cell? ⟨w.heap.size + 1, 0, none⟩ = some (.int .u32 y0) := (blk_cell pp 0).trans rfl
      have p1 : (w4.alloc (.cells #[.int .u8 0, .int .u32 0, .int .u32 0, .int .u16 0, .int .u16 0, .int .u32 0, .int .u32 0] 25)).cell? ⟨w.heap.size + 1, 1, none⟩ = some (.int .u32 y1) := (blk_cell pp 1).trans rfl
      have p2 : (w4.alloc (.cells #[.int .u8 0, .int .u32 0, .int .u32 0, .int .u16 0, .int .u16 0, .int .u32 0, .int .u32 0] 25)).cell? ⟨w.heap.size + 1, 2, none⟩ = some (.int .i64 y2) := (blk_cell pp 2).trans rfl
      have p3 : (w4.alloc (.cells #[.int .u8 0, .int .u32 0, .int .u32 0, .int .u16 0, .int .u16 0, .int .u32 0, .int .u32 0] 25)).cell? ⟨w.heap.size + 1, 3, none⟩ = some (.int .i64 y3) := (blk_cell pp 3).trans rfl
      have T5 := Lib.hid t4
      clear hb4 t4 pp
      go_wp2_with fail
      refine (said_int q _).mono ?_
      rintro e w6 ⟨hb6, rfl⟩
      have T6 := Lib.hid (bl_seq T5.out hb6)
      clear hb6
      go_wp2_with fail
      go_ret
      exact ⟨rfl, bl_alloc T6.out _⟩
    have HN : fitsB y2 y3 = true := by simp [fitsB]; omega
    rw [saidH_yes HN, HN] at he4
    subst he4
    clear HN
    have wi2 := i64w (i := y2) (by omega) (by omega)
    have wi3 := i64w (i := y3) (by omega) (by omega)
    have hb4 : (w4.alloc (.cells #[.int .u8 5, .int .u32 y0, .int .u32 y1, .int .u16 y2, .int .u16 y3, .int .u32 0, .int .u32 0] 25)).heap[w4.heap.size]? = some (.cells #[.int .u8 5, .int .u32 y0, .int .u32 y1, .int .u16 y2, .int .u16 y3, .int .u32 0, .int .u32 0] 25 (0, 0)) := heap_alloc_new _ _
    have t4 : Below w.heap.size w (w4.alloc (.cells #[.int .u8 5, .int .u32 y0, .int .u32 y1, .int .u16 y2, .int .u16 y3, .int .u32 0, .int .u32 0] 25)) := bl_alloc T4.out _
    have pp := blk_alloc P4.out (.cells #[.int .u8 5, .int .u32 y0, .int .u32 y1, .int .u16 y2, .int .u16 y3, .int .u32 0, .int .u32 0] 25)
    have b0 : (w4.alloc (.cells #[.int .u8 5, .int .u32 y0, .int .u32 y1, .int .u16 y2, .int .u16 y3, .int .u32 0, .int .u32 0] 25)).cell? ⟨w4.heap.size, 0, none⟩ = some (.int .u8 5) := (blk_cell hb4 0).trans rfl
    have b1 : (w4.alloc (.cells #[.int .u8 5, .int .u32 y0, .int .u32 y1, .int .u16 y2, .int .u16 y3, .int .u32 0, .int .u32 0] 25)).cell? ⟨w4.heap.size, 1, none⟩ = some (.int .u32 y0) := (blk_cell hb4 1).trans rfl
    have b2 : (w4.alloc (.cells #[.int .u8 5, .int .u32 y0, .int .u32 y1, .int .u16 y2, .int .u16 y3, .int .u32 0, .int .u32 0] 25)).cell? ⟨w4.heap.size, 2, none⟩ = some (.int .u32 y1) := (blk_cell hb4 2).trans rfl
    have b3 : (w4.alloc (.cells #[.int .u8 5, .int .u32 y0, .int .u32 y1, .int .u16 y2, .int .u16 y3, .int .u32 0, .int .u32 0] 25)).cell? ⟨w4.heap.size, 3, none⟩ = some (.int .u16 y2) := (blk_cell hb4 3).trans rfl
    have b4 : (w4.alloc (.cells #[.int .u8 5, .int .u32 y0, .int .u32 y1, .int .u16 y2, .int .u16 y3, .int .u32 0, .int .u32 0] 25)).cell? ⟨w4.heap.size, 4, none⟩ = some (.int .u16 y3) := (blk_cell hb4 4).trans rfl
    have b5 : (w4.alloc (.cells #[.int .u8 5, .int .u32 y0, .int .u32 y1, .int .u16 y2, .int .u16 y3, .int .u32 0, .int .u32 0] 25)).cell? ⟨w4.heap.size, 5, none⟩ = some (.int .u32 0) := (blk_cell hb4 5).trans rfl
    have b6 : (w4.alloc (.cells #[.int .u8 5, .int .u32 y0, .int .u32 y1, .int .u16 y2, .int .u16 y3, .int .u32 0, .int .u32 0] 25)).cell? ⟨w4.heap.size, 6, none⟩ = some (.int .u32 0) := (blk_cell hb4 6).trans rfl
    have p0 : (w4.alloc (.cells #[.int .u8 5, .int .u32 y0, .int .u32 y1, .int .u16 y2, .int .u16 y3, .int .u32 0, .int .u32 0] 25)).cell? ⟨w.heap.size + 1, 0, none⟩ = some (.int .u32 y0) := (blk_cell pp 0).trans rfl
    have p1 : (w4.alloc (.cells #[.int .u8 5, .int .u32 y0, .int .u32 y1, .int .u16 y2, .int .u16 y3, .int .u32 0, .int .u32 0] 25)).cell? ⟨w.heap.size + 1, 1, none⟩ = some (.int .u32 y1) := (blk_cell pp 1).trans rfl
    have p2 : (w4.alloc (.cells #[.int .u8 5, .int .u32 y0, .int .u32 y1, .int .u16 y2, .int .u16 y3, .int .u32 0, .int .u32 0] 25)).cell? ⟨w.heap.size + 1, 2, none⟩ = some (.int .i64 y2) := (blk_cell pp 2).trans rfl
    have p3 : (w4.alloc (.cells #[.int .u8 5, .int .u32 y0, .int .u32 y1, .int .u16 y2, .int .u16 y3, .int .u32 0, .int .u32 0] 25)).cell? ⟨w.heap.size + 1, 3, none⟩ = some (.int .i64 y3) := (blk_cell pp 3).trans rfl
    have T5 := Lib.hid t4
    clear hb4 t4 pp
    go_wp2_with fail
    refine (said_int q _).mono ?_
    rintro e w6 ⟨hb6, rfl⟩
    have T6 := Lib.hid (bl_seq T5.out hb6)
    clear hb6
    go_wp2_with fail
    go_ret
    exact ⟨rfl, bl_alloc T6.out _⟩
  have HN : fitsB x2 x3 = true := by simp [fitsB]; omega
  rw [saidH_yes HN, HN] at he2
  subst he2
  clear HN
  have wx2 := i64w (i := x2) (by omega) (by omega)
  have wx3 := i64w (i := x3) (by omega) (by omega)
  have hb2 : (w2.alloc (.cells #[.int .u8 4, .int .u32 x0, .int .u32 x1, .int .u16 x2, .int .u16 x3, .int .u32 x4, .int .u32 0] 25)).heap[w2.heap.size]? = some (.cells #[.int .u8 4, .int .u32 x0, .int .u32 x1, .int .u16 x2, .int .u16 x3, .int .u32 x4, .int .u32 0] 25 (0, 0)) := heap_alloc_new _ _
  have t2 : Below w.heap.size w (w2.alloc (.cells #[.int .u8 4, .int .u32 x0, .int .u32 x1, .int .u16 x2, .int .u16 x3, .int .u32 x4, .int .u32 0] 25)) := bl_alloc T2.out _
  have dblk := blk_alloc D2.out (.cells #[.int .u8 4, .int .u32 x0, .int .u32 x1, .int .u16 x2, .int .u16 x3, .int .u32 x4, .int .u32 0] 25)
  have pblk := blk_alloc P2.out (.cells #[.int .u8 4, .int .u32 x0, .int .u32 x1, .int .u16 x2, .int .u16 x3, .int .u32 x4, .int .u32 0] 25)
  have d0 : (w2.alloc (.cells #[.int .u8 4, .int .u32 x0, .int .u32 x1, .int .u16 x2, .int .u16 x3, .int .u32 x4, .int .u32 0] 25)).cell? ⟨w.heap.size, 0, none⟩ = some (.int .u32 x0) := (blk_cell dblk 0).trans rfl
  have d1 : (w2.alloc (.cells #[.int .u8 4, .int .u32 x0, .int .u32 x1, .int .u16 x2, .int .u16 x3, .int .u32 x4, .int .u32 0] 25)).cell? ⟨w.heap.size, 1, none⟩ = some (.int .u32 x1) := (blk_cell dblk 1).trans rfl
  have d2 : (w2.alloc (.cells #[.int .u8 4, .int .u32 x0, .int .u32 x1, .int .u16 x2, .int .u16 x3, .int .u32 x4, .int .u32 0] 25)).cell? ⟨w.heap.size, 2, none⟩ = some (.int .i64 x2) := (blk_cell dblk 2).trans rfl
  have d3 : (w2.alloc (.cells #[.int .u8 4, .int .u32 x0, .int .u32 x1, .int .u16 x2, .int .u16 x3, .int .u32 x4, .int .u32 0] 25)).cell? ⟨w.heap.size, 3, none⟩ = some (.int .i64 x3) := (blk_cell dblk 3).trans rfl
  have d4 : (w2.alloc (.cells #[.int .u8 4, .int .u32 x0, .int .u32 x1, .int .u16 x2, .int .u16 x3, .int .u32 x4, .int .u32 0] 25)).cell? ⟨w.heap.size, 4, none⟩ = some (.int .u32 x4) := (blk_cell dblk 4).trans rfl
  have H2 := Lib.hid (And.intro hb2 (And.intro t2 (And.intro dblk pblk)))
  clear hb2 t2 dblk pblk
  go_wp2_with fail
  clear d0 d1 d2 d3 d4
  refine (sealed_any _).mono ?_
  rintro e w3 ⟨rfl, hb3⟩
  have T3 := Lib.hid (bl_seq H2.out.2.1 hb3)
  have P3 := Lib.hid (blk_below H2.out.2.2.2 hb3)
  have dd := blk_below H2.out.2.2.1 hb3
  have aa := blk_below H2.out.1 hb3
  have d0 : w3.cell? ⟨w.heap.size, 0, none⟩ = some (.int .u32 x0) := (blk_cell dd 0).trans rfl
  have d1 : w3.cell? ⟨w.heap.size, 1, none⟩ = some (.int .u32 x1) := (blk_cell dd 1).trans rfl
  have d2 : w3.cell? ⟨w.heap.size, 2, none⟩ = some (.int .i64 x2) := (blk_cell dd 2).trans rfl
  have d3 : w3.cell? ⟨w.heap.size, 3, none⟩ = some (.int .i64 x3) := (blk_cell dd 3).trans rfl
  have d4 : w3.cell? ⟨w.heap.size, 4, none⟩ = some (.int .u32 x4) := (blk_cell dd 4).trans rfl
  have a0 : w3.cell? ⟨w2.heap.size, 0, none⟩ = some (.int .u8 4) := (blk_cell aa 0).trans rfl
  have a1 : w3.cell? ⟨w2.heap.size, 1, none⟩ = some (.int .u32 x0) := (blk_cell aa 1).trans rfl
  have a2 : w3.cell? ⟨w2.heap.size, 2, none⟩ = some (.int .u32 x1) := (blk_cell aa 2).trans rfl
  have a3 : w3.cell? ⟨w2.heap.size, 3, none⟩ = some (.int .u16 x2) := (blk_cell aa 3).trans rfl
  have a4 : w3.cell? ⟨w2.heap.size, 4, none⟩ = some (.int .u16 x3) := (blk_cell aa 4).trans rfl
  have a5 : w3.cell? ⟨w2.heap.size, 5, none⟩ = some (.int .u32 x4) := (blk_cell aa 5).trans rfl
  have a6 : w3.cell? ⟨w2.heap.size, 6, none⟩ = some (.int .u32 0) := (blk_cell aa 6).trans rfl
  have p0 : w3.cell? ⟨w.heap.size + 1, 0, none⟩ = some (.int .u32 y0) := (blk_cell P3.out 0).trans rfl
  have p1 : w3.cell? ⟨w.heap.size + 1, 1, none⟩ = some (.int .u32 y1) := (blk_cell P3.out 1).trans rfl
  have p2 : w3.cell? ⟨w.heap.size + 1, 2, none⟩ = some (.int .i64 y2) := (blk_cell P3.out 2).trans rfl
  have p3 : w3.cell? ⟨w.heap.size + 1, 3, none⟩ = some (.int .i64 y3) := (blk_cell P3.out 3).trans rfl
  clear hb3 H2 dd aa
  go_wp2_with fail
  clear d0 d1 d2 d3 d4 a0 a1 a2 a3 a4 a5 a6 p0 p1 p2 p3
  refine (said_Parity y0 y1 y2 y3 _).mono ?_
  rintro e w4 ⟨hb4_, he4⟩
  have T4 := Lib.hid (bl_seq T3.out hb4_)
  have P4 := Lib.hid (blk_below P3.out hb4_)
  clear hb4_
  by_cases y2a : y2 < 0
  · have HN : fitsB y2 y3 = false := by simp [fitsB]; omega
    rw [saidH_no HN, HN, show (hdC hd0 : Array Value) = #[.int .u8 0, .int .u32 0, .int .u32 0, .int .u16 0, .int .u16 0, .int .u32 0, .int .u32 0] from rfl] at he4
    subst he4
    clear HN
    have hb4 : (w4.alloc (.cells #[.int .u8 0, .int .u32 0, .int .u32 0, .int .u16 0, .int .u16 0, .int .u32 0, .int .u32 0] 25)).heap[w4.heap.size]? = some (.cells #[.int .u8 0, .int .u32 0, .int .u32 0, .int .u16 0, .int .u16 0, .int .u32 0, .int .u32 0] 25 (0, 0)) := heap_alloc_new _ _
    have t4 : Below w.heap.size w (w4.alloc (.cells #[.int .u8 0, .int .u32 0, .int .u32 0, .int .u16 0, .int .u16 0, .int .u32 0, .int .u32 0] 25)) := bl_alloc T4.out _
    have pp := blk_alloc P4.out (.cells #[.int .u8 0, .int .u32 0, .int .u32 0, .int .u16 0, .int .u16 0, .int .u32 0, .int .u32 0] 25)
    have b0 : (w4.alloc (.cells #[.int .u8 0, .int .u32 0, .int .u32 0, .int .u16 0, .int .u16 0, .int .u32 0, .int .u32 0] 25)).cell? ⟨w4.heap.size, 0, none⟩ = some (.int .u8 0) := (blk_cell hb4 0).trans rfl
    have b1 : (w4.alloc (.cells #[.int .u8 0, .int .u32 0, .int .u32 0, .int .u16 0, .int .u16 0, .int .u32 0, .int .u32 0] 25)).cell? ⟨w4.heap.size, 1, none⟩ = some (.int .u32 0) := (blk_cell hb4 1).trans rfl
    have b2 : (w4.alloc (.cells #[.int .u8 0, .int .u32 0, .int .u32 0, .int .u16 0, .int .u16 0, .int .u32 0, .int .u32 0] 25)).cell? ⟨w4.heap.size, 2, none⟩ = some (.int .u32 0) := (blk_cell hb4 2).trans rfl
    have b3 : (w4.alloc (.cells #[.int .u8 0, .int .u32 0, .int .u32 0, .int .u16 0, .int .u16 0, .int .u32 0, .int .u32 0] 25)).cell? ⟨w4.heap.size, 3, none⟩ = some (.int .u16 0) := (blk_cell hb4 3).trans rfl
    have b4 : (w4.alloc (.cells #[.int .u8 0, .int .u32 0, .int .u32 0, .int .u16 0, .int .u16 0, .int .u32 0, .int .u32 0] 25)).cell? ⟨w4.heap.size, 4, none⟩ = some (.int .u16 0) := (blk_cell hb4 4).trans rfl
    have b5 : (w4.alloc (.cells #[.int .u8 0, .int .u32 0, .int .u32 0, .int .u16 0, .int .u16 0, .int .u32 0, .int .u32 0] 25)).cell? ⟨w4.heap.size, 5, none⟩ = some (.int .u32 0) := (blk_cell hb4 5).trans rfl
    have b6 : (w4.alloc (.cells #[.int .u8 0, .int .u32 0, .int .u32 0, .int .u16 0, .int .u16 0, .int .u32 0, .int .u32 0] 25)).cell? ⟨w4.heap.size, 6, none⟩ = some (.int .u32 0) := (blk_cell hb4 6).trans rfl
    have p0 : (w4.alloc (.cells #[.int .u8 0, .int .u32 0, .int .u32 0, .int .u16 0, .int .u16 0, .int .u32 0, .int .u32 0] 25)).cell? ⟨w.heap.size + 1, 0, none⟩ = some (.int .u32 y0) := (blk_cell pp 0).trans rfl
    have p1 : (w4.alloc (.cells #[.int .u8 0, .int .u32 0, .int .u32 0, .int .u16 0, .int .u16 0, .int .u32 0, .int .u32 0] 25)).cell? ⟨w.heap.size + 1, 1, none⟩ = some (.int .u32 y1) := (blk_cell pp 1).trans rfl
    have p2 : (w4.alloc (.cells #[.int .u8 0, .int .u32 0, .int .u32 0, .int .u16 0, .int .u16 0, .int .u32 0, .int .u32 0] 25)).cell? ⟨w.heap.size + 1, 2, none⟩ = some (.int .i64 y2) := (blk_cell pp 2).trans rfl
    have p3 : (w4.alloc (.cells #[.int .u8 0, .int .u32 0, .int .u32 0, .int .u16 0, .int .u16 0, .int .u32 0, .int .u32 0] 25)).cell? ⟨w.heap.size + 1, 3, none⟩ = some (.int .i64 y3) := (blk_cell pp 3).trans rfl
    have T5 := Lib.hid t4
    clear hb4 t4 pp
    go_wp2_with fail
    refine (said_int q _).mono ?_
    rintro e w6 ⟨hb6, rfl⟩
    have T6 := Lib.hid (bl_seq T5.out hb6)
    clear hb6
    go_wp2_with fail
    go_ret
    exact ⟨rfl, bl_alloc T6.out _⟩
  by_cases y2b : 65535 < y2
  · have HN : fitsB y2 y3 = false := by simp [fitsB]; omega
    rw [saidH_no HN, HN, show (hdC hd0 : Array Value) = #[.int .u8 0, .int .u32 0, .int .u32 0, .int .u16 0, .int .u16 0, .int .u32 0, .int .u32 0] from rfl] at he4
    subst he4
    clear HN
    have hb4 : (w4.alloc (.cells #[.int .u8 0, .int .u32 0, .int .u32 0, .int .u16 0, .int .u16 0, .int .u32 0, .int .u32 0] 25)).heap[w4.heap.size]? = some (.cells #[.int .u8 0, .int .u32 0, .int .u32 0, .int .u16 0, .int .u16 0, .int .u32 0, .int .u32 0] 25 (0, 0)) := heap_alloc_new _ _
    have t4 : Below w.heap.size w (w4.alloc (.cells #[.int .u8 0, .int .u32 0, .int .u32 0, .int .u16 0, .int .u16 0, .int .u32 0, .int .u32 0] 25)) := bl_alloc T4.out _
    have pp := blk_alloc P4.out (.cells #[.int .u8 0, .int .u32 0, .int .u32 0, .int .u16 0, .int .u16 0, .int .u32 0, .int .u32 0] 25)
    have b0 : (w4.alloc (.cells #[.int .u8 0, .int .u32 0, .int .u32 0, .int .u16 0, .int .u16 0, .int .u32 0, .int .u32 0] 25)).cell? ⟨w4.heap.size, 0, none⟩ = some (.int .u8 0) := (blk_cell hb4 0).trans rfl
    have b1 : (w4.alloc (.cells #[.int .u8 0, .int .u32 0, .int .u32 0, .int .u16 0, .int .u16 0, .int .u32 0, .int .u32 0] 25)).cell? ⟨w4.heap.size, 1, none⟩ = some (.int .u32 0) := (blk_cell hb4 1).trans rfl
    have b2 : (w4.alloc (.cells #[.int .u8 0, .int .u32 0, .int .u32 0, .int .u16 0, .int .u16 0, .int .u32 0, .int .u32 0] 25)).cell? ⟨w4.heap.size, 2, none⟩ = some (.int .u32 0) := (blk_cell hb4 2).trans rfl
    have b3 : (w4.alloc (.cells #[.int .u8 0, .int .u32 0, .int .u32 0, .int .u16 0, .int .u16 0, .int .u32 0, .int .u32 0] 25)).cell? ⟨w4.heap.size, 3, none⟩ = some (.int .u16 0) := (blk_cell hb4 3).trans rfl
    have b4 : (w4.alloc (.cells #[.int .u8 0, .int .u32 0, .int .u32 0, .int .u16 0, .int .u16 0, .int .u32 0, .int .u32 0] 25)).cell? ⟨w4.heap.size, 4, none⟩ = some (.int .u16 0) := (blk_cell hb4 4).trans rfl
    have b5 : (w4.alloc (.cells #[.int .u8 0, .int .u32 0, .int .u32 0, .int .u16 0, .int .u16 0, .int .u32 0, .int .u32 0] 25)).cell? ⟨w4.heap.size, 5, none⟩ = some (.int .u32 0) := (blk_cell hb4 5).trans rfl
    have b6 : (w4.alloc (.cells #[.int .u8 0, .int .u32 0, .int .u32 0, .int .u16 0, .int .u16 0, .int .u32 0, .int .u32 0] 25)).cell? ⟨w4.heap.size, 6, none⟩ = some (.int .u32 0) := (blk_cell hb4 6).trans rfl
    have p0 : (w4.alloc (.cells #[.int .u8 0, .int .u32 0, .int .u32 0, .int .u16 0, .int .u16 0, .int .u32 0, .int .u32 0] 25)).cell? ⟨w.heap.size + 1, 0, none⟩ = some (.int .u32 y0) := (blk_cell pp 0).trans rfl
    have p1 : (w4.alloc (.cells #[.int .u8 0, .int .u32 0, .int .u32 0, .int .u16 0, .int .u16 0, .int .u32 0, .int .u32 0] 25)).cell? ⟨w.heap.size + 1, 1, none⟩ = some (.int .u32 y1) := (blk_cell pp 1).trans rfl
    have p2 : (w4.alloc (.cells #[.int .u8 0, .int .u32 0, .int .u32 0, .int .u16 0, .int .u16 0, .int .u32 0, .int .u32 0] 25)).cell? ⟨w.heap.size + 1, 2, none⟩ = some (.int .i64 y2) := (blk_cell pp 2).trans rfl
    have p3 : (w4.alloc (.cells #[.int .u8 0, .int .u32 0, .int .u32 0, .int .u16 0, .int .u16 0, .int .u32 0, .int .u32 0] 25)).cell? ⟨w.heap.size + 1, 3, none⟩ = some (.int .i64 y3) := (blk_cell pp 3).trans rfl
    have T5 := Lib.hid t4
    clear hb4 t4 pp
    go_wp2_with fail
    refine (said_int q _).mono ?_
    rintro e w6 ⟨hb6, rfl⟩
    have T6 := Lib.hid (bl_seq T5.out hb6)
    clear hb6
    go_wp2_with fail
    go_ret
    exact ⟨rfl, bl_alloc T6.out _⟩
  by_cases y3a : y3 < 0
  · have HN : fitsB y2 y3 = false := by simp [fitsB]; omega
    rw [saidH_no HN, HN, show (hdC hd0 : Array Value) = #[.int .u8 0, .int .u32 0, .int .u32 0, .int .u16 0, .int .u16 0, .int .u32 0, .int .u32 0] from rfl] at he4
    subst he4
    clear HN
    have hb4 : (w4.alloc (.cells #[.int .u8 0, .int .u32 0, .int .u32 0, .int .u16 0, .int .u16 0, .int .u32 0, .int .u32 0] 25)).heap[w4.heap.size]? = some (.cells #[.int .u8 0, .int .u32 0, .int .u32 0, .int .u16 0, .int .u16 0, .int .u32 0, .int .u32 0] 25 (0, 0)) := heap_alloc_new _ _
    have t4 : Below w.heap.size w (w4.alloc (.cells #[.int .u8 0, .int .u32 0, .int .u32 0, .int .u16 0, .int .u16 0, .int .u32 0, .int .u32 0] 25)) := bl_alloc T4.out _
    have pp := blk_alloc P4.out (.cells #[.int .u8 0, .int .u32 0, .int .u32 0, .int .u16 0, .int .u16 0, .int .u32 0, .int .u32 0] 25)
    have b0 : (w4.alloc (.cells #[.int .u8 0, .int .u32 0, .int .u32 0, .int .u16 0, .int .u16 0, .int .u32 0, .int .u32 0] 25)).cell? ⟨w4.heap.size, 0, none⟩ = some (.int .u8 0) := (blk_cell hb4 0).trans rfl
    have b1 : (w4.alloc (.cells #[.int .u8 0, .int .u32 0, .int .u32 0, .int .u16 0, .int .u16 0, .int .u32 0, .int .u32 0] 25)).cell? ⟨w4.heap.size, 1, none⟩ = some (.int .u32 0) := (blk_cell hb4 1).trans rfl
    have b2 : (w4.alloc (.cells #[.int .u8 0, .int .u32 0, .int .u32 0, .int .u16 0, .int .u16 0, .int .u32 0, .int .u32 0] 25)).cell? ⟨w4.heap.size, 2, none⟩ = some (.int .u32 0) := (blk_cell hb4 2).trans rfl
    have b3 : (w4.alloc (.cells #[.int .u8 0, .int .u32 0, .int .u32 0, .int .u16 0, .int .u16 0, .int .u32 0, .int .u32 0] 25)).cell? ⟨w4.heap.size, 3, none⟩ = some (.int .u16 0) := (blk_cell hb4 3).trans rfl
    have b4 : (w4.alloc (.cells #[.int .u8 0, .int .u32 0, .int .u32 0, .int .u16 0, .int .u16 0, .int .u32 0, .int .u32 0] 25)).cell? ⟨w4.heap.size, 4, none⟩ = some (.int .u16 0) := (blk_cell hb4 4).trans rfl
    have b5 : (w4.alloc (.cells #[.int .u8 0, .int .u32 0, .int .u32 0, .int .u16 0, .int .u16 0, .int .u32 0, .int .u32 0] 25)).cell? ⟨w4.heap.size, 5, none⟩ = some (.int .u32 0) := (blk_cell hb4 5).trans rfl
    have b6 : (w4.alloc (.cells #[.int .u8 0, .int .u32 0, .int .u32 0, .int .u16 0, .int .u16 0, .int .u32 0, .int .u32 0] 25)).cell? ⟨w4.heap.size, 6, none⟩ = some (.int .u32 0) := (blk_cell hb4 6).trans rfl
    have p0 : (w4.alloc (.cells #[.int .u8 0, .int .u32 0, .int .u32 0, .int .u16 0, .int .u16 0, .int .u32 0, .int .u32 0] 25)).cell? ⟨w.heap.size + 1, 0, none⟩ = some (.int .u32 y0) := (blk_cell pp 0).trans rfl
    have p1 : (w4.alloc (.cells #[.int .u8 0, .int .u32 0, .int .u32 0, .int .u16 0, .int .u16 0, .int .u32 0, .int .u32 0] 25)).cell? ⟨w.heap.size + 1, 1, none⟩ = some (.int .u32 y1) := (blk_cell pp 1).trans rfl
    have p2 : (w4.alloc (.cells #[.int .u8 0, .int .u32 0, .int .u32 0, .int .u16 0, .int .u16 0, .int .u32 0, .int .u32 0] 25)).cell? ⟨w.heap.size + 1, 2, none⟩ = some (.int .i64 y2) := (blk_cell pp 2).trans rfl
    have p3 : (w4.alloc (.cells #[.int .u8 0, .int .u32 0, .int .u32 0, .int .u16 0, .int .u16 0, .int .u32 0, .int .u32 0] 25)).cell? ⟨w.heap.size + 1, 3, none⟩ = some (.int .i64 y3) := (blk_cell pp 3).trans rfl
    have T5 := Lib.hid t4
    clear hb4 t4 pp
    go_wp2_with fail
    refine (said_int q _).mono ?_
    rintro e w6 ⟨hb6, rfl⟩
    have T6 := Lib.hid (bl_seq T5.out hb6)
    clear hb6
    go_wp2_with fail
    go_ret
    exact ⟨rfl, bl_alloc T6.out _⟩
  by_cases y3b : 65535 < y3
  · have HN : fitsB y2 y3 = false := by simp [fitsB]; omega
    rw [saidH_no HN, HN, show (hdC hd0 : Array Value) = #[.int .u8 0, .int .u32 0, .int .u32 0, .int .u16 0, .int .u16 0, .int .u32 0, .int .u32 0] from rfl] at he4
    subst he4
    clear HN
    have hb4 : (w4.alloc (.cells #[.int .u8 0, .int .u32 0, .int .u32 0, .int .u16 0, .int .u16 0, .int .u32 0, .int .u32 0] 25)).heap[w4.heap.size]? = some (.cells #[.int .u8 0, .int .u32 0, .int .u32 0, .int .u16 0, .int .u16 0, .int .u32 0, .int .u32 0] 25 (0, 0)) := heap_alloc_new _ _
    have t4 : Below w.heap.size w (w4.alloc (.cells #[.int .u8 0, .int .u32 0, .int .u32 0, .int .u16 0, .int .u16 0, .int .u32 0, .int .u32 0] 25)) := bl_alloc T4.out _
    have pp := blk_alloc P4.out (.cells #[.int .u8 0, .int .u32 0, .int .u32 0, .int .u16 0, .int .u16 0, .int .u32 0, .int .u32 0] 25)
    have b0 : (w4.alloc (.cells #[.int .u8 0, .int .u32 0, .int .u32 0, .int .u16 0, .int .u16 0, .int .u32 0, .int .u32 0] 25)).cell? ⟨w4.heap.size, 0, none⟩ = some (.int .u8 0) := (blk_cell hb4 0).trans rfl
    have b1 : (w4.alloc (.cells #[.int .u8 0, .int .u32 0, .int .u32 0, .int .u16 0, .int .u16 0, .int .u32 0, .int .u32 0] 25)).cell? ⟨w4.heap.size, 1, none⟩ = some (.int .u32 0) := (blk_cell hb4 1).trans rfl
    have b2 : (w4.alloc (.cells #[.int .u8 0, .int .u32 0, .int .u32 0, .int .u16 0, .int .u16 0, .int .u32 0, .int .u32 0] 25)).cell? ⟨w4.heap.size, 2, none⟩ = some (.int .u32 0) := (blk_cell hb4 2).trans rfl
    have b3 : (w4.alloc (.cells #[.int .u8 0, .int .u32 0, .int .u32 0, .int .u16 0, .int .u16 0, .int .u32 0, .int .u32 0] 25)).cell? ⟨w4.heap.size, 3, none⟩ = some (.int .u16 0) := (blk_cell hb4 3).trans rfl
    have b4 : (w4.alloc (.cells #[.int .u8 0, .int .u32 0, .int .u32 0, .int .u16 0, .int .u16 0, .int .u32 0, .int .u32 0] 25)).cell? ⟨w4.heap.size, 4, none⟩ = some (.int .u16 0) := (blk_cell hb4 4).trans rfl
    have b5 : (w4.alloc (.cells #[.int .u8 0, .int .u32 0, .int .u32 0, .int .u16 0, .int .u16 0, .int .u32 0, .int .u32 0] 25)).cell? ⟨w4.heap.size, 5, none⟩ = some (.int .u32 0) := (blk_cell hb4 5).trans rfl
    have b6 : (w4.alloc (.cells #[.int .u8 0, .int .u32 0, .int .u32 0, .int .u16 0, .int .u16 0, .int .u32 0, .int .u32 0] 25)).cell? ⟨w4.heap.size, 6, none⟩ = some (.int .u32 0) := (blk_cell hb4 6).trans rfl
    have p0 : (w4.alloc (.cells #[.int .u8 0, .int .u32 0, .int .u32 0, .int .u16 0, .int .u16 0, .int .u32 0, .int .u32 0] 25)).cell? ⟨w.heap.size + 1, 0, none⟩ = some (.int .u32 y0) := (blk_cell pp 0).trans rfl
    have p1 : (w4.alloc (.cells #[.int .u8 0, .int .u32 0, .int .u32 0, .int .u16 0, .int .u16 0, .int .u32 0, .int .u32 0] 25)).cell? ⟨w.heap.size + 1, 1, none⟩ = some (.int .u32 y1) := (blk_cell pp 1).trans rfl
    have p2 : (w4.alloc (.cells #[.int .u8 0, .int .u32 0, .int .u32 0, .int .u16 0, .int .u16 0, .int .u32 0, .int .u32 0] 25)).cell? ⟨w.heap.size + 1, 2, none⟩ = some (.int .i64 y2) := (blk_cell pp 2).trans rfl
    have p3 : (w4.alloc (.cells #[.int .u8 0, .int .u32 0, .int .u32 0, .int .u16 0, .int .u16 0, .int .u32 0, .int .u32 0] 25)).cell? ⟨w.heap.size + 1, 3, none⟩ = some (.int .i64 y3) := (blk_cell pp 3).trans rfl
    have T5 := Lib.hid t4
    clear hb4 t4 pp
    go_wp2_with fail
    refine (said_int q _).mono ?_
    rintro e w6 ⟨hb6, rfl⟩
    have T6 := Lib.hid (bl_seq T5.out hb6)
    clear hb6
    go_wp2_with fail
    go_ret
    exact ⟨rfl, bl_alloc T6.out _⟩
  have HN : fitsB y2 y3 = true := by simp [fitsB]; omega
  rw [saidH_yes HN, HN] at he4
  subst he4
  clear HN
  have wi2 := i64w (i := y2) (by omega) (by omega)
  have wi3 := i64w (i := y3) (by omega) (by omega)
  have hb4 : (w4.alloc (.cells #[.int .u8 5, .int .u32 y0, .int .u32 y1, .int .u16 y2, .int .u16 y3, .int .u32 0, .int .u32 0] 25)).heap[w4.heap.size]? = some (.cells #[.int .u8 5, .int .u32 y0, .int .u32 y1, .int .u16 y2, .int .u16 y3, .int .u32 0, .int .u32 0] 25 (0, 0)) := heap_alloc_new _ _
  have t4 : Below w.heap.size w (w4.alloc (.cells #[.int .u8 5, .int .u32 y0, .int .u32 y1, .int .u16 y2, .int .u16 y3, .int .u32 0, .int .u32 0] 25)) := bl_alloc T4.out _
  have pp := blk_alloc P4.out (.cells #[.int .u8 5, .int .u32 y0, .int .u32 y1, .int .u16 y2, .int .u16 y3, .int .u32 0, .int .u32 0] 25)
  have b0 : (w4.alloc (.cells #[.int .u8 5, .int .u32 y0, .int .u32 y1, .int .u16 y2, .int .u16 y3, .int .u32 0, .int .u32 0] 25)).cell? ⟨w4.heap.size, 0, none⟩ = some (.int .u8 5) := (blk_cell hb4 0).trans rfl
  have b1 : (w4.alloc (.cells #[.int .u8 5, .int .u32 y0, .int .u32 y1, .int .u16 y2, .int .u16 y3, .int .u32 0, .int .u32 0] 25)).cell? ⟨w4.heap.size, 1, none⟩ = some (.int .u32 y0) := (blk_cell hb4 1).trans rfl
  have b2 : (w4.alloc (.cells #[.int .u8 5, .int .u32 y0, .int .u32 y1, .int .u16 y2, .int .u16 y3, .int .u32 0, .int .u32 0] 25)).cell? ⟨w4.heap.size, 2, none⟩ = some (.int .u32 y1) := (blk_cell hb4 2).trans rfl
  have b3 : (w4.alloc (.cells #[.int .u8 5, .int .u32 y0, .int .u32 y1, .int .u16 y2, .int .u16 y3, .int .u32 0, .int .u32 0] 25)).cell? ⟨w4.heap.size, 3, none⟩ = some (.int .u16 y2) := (blk_cell hb4 3).trans rfl
  have b4 : (w4.alloc (.cells #[.int .u8 5, .int .u32 y0, .int .u32 y1, .int .u16 y2, .int .u16 y3, .int .u32 0, .int .u32 0] 25)).cell? ⟨w4.heap.size, 4, none⟩ = some (.int .u16 y3) := (blk_cell hb4 4).trans rfl
  have b5 : (w4.alloc (.cells #[.int .u8 5, .int .u32 y0, .int .u32 y1, .int .u16 y2, .int .u16 y3, .int .u32 0, .int .u32 0] 25)).cell? ⟨w4.heap.size, 5, none⟩ = some (.int .u32 0) := (blk_cell hb4 5).trans rfl
  have b6 : (w4.alloc (.cells #[.int .u8 5, .int .u32 y0, .int .u32 y1, .int .u16 y2, .int .u16 y3, .int .u32 0, .int .u32 0] 25)).cell? ⟨w4.heap.size, 6, none⟩ = some (.int .u32 0) := (blk_cell hb4 6).trans rfl
  have p0 : (w4.alloc (.cells #[.int .u8 5, .int .u32 y0, .int .u32 y1, .int .u16 y2, .int .u16 y3, .int .u32 0, .int .u32 0] 25)).cell? ⟨w.heap.size + 1, 0, none⟩ = some (.int .u32 y0) := (blk_cell pp 0).trans rfl
  have p1 : (w4.alloc (.cells #[.int .u8 5, .int .u32 y0, .int .u32 y1, .int .u16 y2, .int .u16 y3, .int .u32 0, .int .u32 0] 25)).cell? ⟨w.heap.size + 1, 1, none⟩ = some (.int .u32 y1) := (blk_cell pp 1).trans rfl
  have p2 : (w4.alloc (.cells #[.int .u8 5, .int .u32 y0, .int .u32 y1, .int .u16 y2, .int .u16 y3, .int .u32 0, .int .u32 0] 25)).cell? ⟨w.heap.size + 1, 2, none⟩ = some (.int .i64 y2) := (blk_cell pp 2).trans rfl
  have p3 : (w4.alloc (.cells #[.int .u8 5, .int .u32 y0, .int .u32 y1, .int .u16 y2, .int .u16 y3, .int .u32 0, .int .u32 0] 25)).cell? ⟨w.heap.size + 1, 3, none⟩ = some (.int .i64 y3) := (blk_cell pp 3).trans rfl
  have T5 := Lib.hid t4
  clear hb4 t4 pp
  go_wp2_with fail
  refine (said_int q _).mono ?_
  rintro e w6 ⟨hb6, rfl⟩
  have T6 := Lib.hid (bl_seq T5.out hb6)
  clear hb6
  go_wp2_with fail
  go_ret
  exact ⟨rfl, bl_alloc T6.out _⟩
end Go.Proofs.Ytkmfdnoklabndaa
