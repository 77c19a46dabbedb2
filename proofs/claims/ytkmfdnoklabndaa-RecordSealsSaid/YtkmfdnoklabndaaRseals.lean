import Derived.Test.YtkmfdnoklabndaaRref
/-! The law RecordSeals: its walk. -/
set_option linter.unusedVariables false
set_option linter.unusedSimpArgs false
namespace Go.Proofs.Ytkmfdnoklabndaa
open Go.RowKit Go.Proofs.YtkmfdnoklabndaaW.PrintWords Go.Proofs.YtkmfdnoklabndaaW.PrintLast
set_option maxHeartbeats 4000000 in
set_option maxRecDepth 100000 in
theorem rseals_walk (h : Hd) (A B : Option Addr) (c d n m : Nat) (xs ys : List Int) (w : World) (ho : h.ok) (hr : ReadsInt w .u8 A n xs) (hc : n ≤ c) (bx : Byt xs) (hs : ReadsInt w .u8 B m ys) (hd : m ≤ d) (by_ : Byt ys) :
    Calls Try.prog 3 #[.agg (hdC h), .slice A n c, .slice B m d] w fun e w' => e = .returned (.bool true) ∧ Below w.heap.size w w' := by
  have HR := Lib.hid hr
  have HS := Lib.hid hs
  have HO := Lib.hid ho
  have HX := Lib.hid (And.intro bx by_)
  have hm1 := hr.2.1
  have hm2 := hs.2.1
  clear hr hs ho bx by_
  have hb0_ : (w.alloc (.cells (hdC h) 25)).heap[w.heap.size]? = some (.cells (hdC h) 25 (0, 0)) := heap_alloc_new w _
  have B0 := Lib.hid hb0_
  have T0 := Lib.hid (show Below w.heap.size w (w.alloc (.cells (hdC h) 25)) from bl_alloc (Below.refl _ _) _)
  clear hb0_
  by_cases hlt : 600 < (n : Int) ∨ 100 < (m : Int)
  · go_enter Try.func3, Try.ntmps3
    by_cases h6 : 600 < (n : Int)
    · go_wp2_with fail
      refine (sealed_any _).mono ?_
      rintro e w1 ⟨rfl, hb1⟩
      have T1 := Lib.hid (bl_seq T0.out hb1)
      clear hb1
      go_wp2_with fail
      go_ret
      exact ⟨rfl, T1.out⟩
    · have h1 : 100 < (m : Int) := by omega
      go_wp2_with fail
      refine (sealed_any _).mono ?_
      rintro e w1 ⟨rfl, hb1⟩
      have T1 := Lib.hid (bl_seq T0.out hb1)
      clear hb1
      go_wp2_with fail
      go_ret
      exact ⟨rfl, T1.out⟩
  have hn6 : ¬ 600 < (n : Int) := by omega
  have hm1_ : ¬ 100 < (m : Int) := by omega
  clear hlt
  go_enter Try.func3, Try.ntmps3
  go_wp2_with fail
  refine (Seal_any h A B c d n m xs ys _ HO.out (HR.out.below T0.out) hc HX.out.1 (by omega) (HS.out.below T0.out) hd HX.out.2).mono ?_
  rintro e w1 ⟨v1, rfl, hn1⟩
  obtain ⟨A1, c1, rfl, hc1⟩ := hn1.shape 64 (sealL_length _ _ _)
  have N1 := Lib.hid (hn1.read (sealL_length _ _ _)).1
  have T1 := Lib.hid (bl_seq T0.out hn1.bel)
  have B1 := Lib.hid (blk_below B0.out hn1.bel)
  clear hn1
  go_wp2_with fail
  refine (open_any A1 A c1 n c 64 (sealL h xs ys) xs w1 N1.out (sealL_byt _ _ HX.out.2) hc1 (HR.out.below T1.out) HX.out.1 hc).mono ?_
  rintro e w2 ⟨hb2, he⟩
  have N2 := Lib.hid (N1.out.below hb2)
  have T2 := Lib.hid (bl_seq T1.out hb2)
  have B2 := Lib.hid (blk_below B1.out hb2)
  clear hb2
  have hob := seal_open (h := h) xs ys HO.out
  by_cases hk : 1 ≤ h.k ∧ h.k ≤ 6
  · obtain ⟨hk1, hk6⟩ := hk
    have hkb : openB xs (sealL h xs ys) = true := by rw [hob, kindB]; simp [hk1, hk6]
    have hop : openR xs (sealL h xs ys) = h := by rw [openR_yes hkb, seal_head _ _ HO.out]
    rw [hkb, hop] at he
    subst he
    clear hob hkb hop
    have EE := Lib.hid (eqHd h h)
    have hb3 : (w2.alloc (.cells #[.int .u8 h.k, .int .u32 h.e, .int .u32 h.b, .int .u16 h.i, .int .u16 h.c, .int .u32 h.l, .int .u32 h.m] 25)).heap[w2.heap.size]? = some (.cells #[.int .u8 h.k, .int .u32 h.e, .int .u32 h.b, .int .u16 h.i, .int .u16 h.c, .int .u32 h.l, .int .u32 h.m] 25 (0, 0)) := heap_alloc_new _ _
    have t3 : Below w.heap.size w (w2.alloc (.cells #[.int .u8 h.k, .int .u32 h.e, .int .u32 h.b, .int .u16 h.i, .int .u16 h.c, .int .u32 h.l, .int .u32 h.m] 25)) := bl_alloc T2.out _
    have b3 := blk_alloc B2.out (.cells #[.int .u8 h.k, .int .u32 h.e, .int .u32 h.b, .int .u16 h.i, .int .u16 h.c, .int .u32 h.l, .int .u32 h.m] 25)
    have n3 := N2.out.below (bl_alloc (Below.refl _ _) (.cells #[.int .u8 h.k, .int .u32 h.e, .int .u32 h.b, .int .u16 h.i, .int .u16 h.c, .int .u32 h.l, .int .u32 h.m] 25))
    have z0 : (w2.alloc (.cells #[.int .u8 h.k, .int .u32 h.e, .int .u32 h.b, .int .u16 h.i, .int .u16 h.c, .int .u32 h.l, .int .u32 h.m] 25)).cell? ⟨w.heap.size, 0, none⟩ = some (.int .u8 h.k) := (blk_cell b3 0).trans rfl
    have z1 : (w2.alloc (.cells #[.int .u8 h.k, .int .u32 h.e, .int .u32 h.b, .int .u16 h.i, .int .u16 h.c, .int .u32 h.l, .int .u32 h.m] 25)).cell? ⟨w.heap.size, 1, none⟩ = some (.int .u32 h.e) := (blk_cell b3 1).trans rfl
    have z2 : (w2.alloc (.cells #[.int .u8 h.k, .int .u32 h.e, .int .u32 h.b, .int .u16 h.i, .int .u16 h.c, .int .u32 h.l, .int .u32 h.m] 25)).cell? ⟨w.heap.size, 2, none⟩ = some (.int .u32 h.b) := (blk_cell b3 2).trans rfl
    have z3 : (w2.alloc (.cells #[.int .u8 h.k, .int .u32 h.e, .int .u32 h.b, .int .u16 h.i, .int .u16 h.c, .int .u32 h.l, .int .u32 h.m] 25)).cell? ⟨w.heap.size, 3, none⟩ = some (.int .u16 h.i) := (blk_cell b3 3).trans rfl
    have z4 : (w2.alloc (.cells #[.int .u8 h.k, .int .u32 h.e, .int .u32 h.b, .int .u16 h.i, .int .u16 h.c, .int .u32 h.l, .int .u32 h.m] 25)).cell? ⟨w.heap.size, 4, none⟩ = some (.int .u16 h.c) := (blk_cell b3 4).trans rfl
    have z5 : (w2.alloc (.cells #[.int .u8 h.k, .int .u32 h.e, .int .u32 h.b, .int .u16 h.i, .int .u16 h.c, .int .u32 h.l, .int .u32 h.m] 25)).cell? ⟨w.heap.size, 5, none⟩ = some (.int .u32 h.l) := (blk_cell b3 5).trans rfl
    have z6 : (w2.alloc (.cells #[.int .u8 h.k, .int .u32 h.e, .int .u32 h.b, .int .u16 h.i, .int .u16 h.c, .int .u32 h.l, .int .u32 h.m] 25)).cell? ⟨w.heap.size, 6, none⟩ = some (.int .u32 h.m) := (blk_cell b3 6).trans rfl
    have H3 := Lib.hid (And.intro hb3 (And.intro t3 (And.intro b3 n3)))
    clear hb3 t3 b3 n3
    go_wp2_with fail
    clear z0 z1 z2 z3 z4 z5 z6
    refine (sealed_any _).mono ?_
    rintro e w4 ⟨rfl, hb4⟩
    have T4 := Lib.hid (bl_seq H3.out.2.1 hb4)
    have B4 := Lib.hid (blk_below H3.out.2.2.1 hb4)
    have X4 := Lib.hid (blk_below H3.out.1 hb4)
    have N4 := Lib.hid (H3.out.2.2.2.below hb4)
    clear hb4 H3
    have z0 : w4.cell? ⟨w.heap.size, 0, none⟩ = some (.int .u8 h.k) := (blk_cell B4.out 0).trans rfl
    have z1 : w4.cell? ⟨w.heap.size, 1, none⟩ = some (.int .u32 h.e) := (blk_cell B4.out 1).trans rfl
    have z2 : w4.cell? ⟨w.heap.size, 2, none⟩ = some (.int .u32 h.b) := (blk_cell B4.out 2).trans rfl
    have z3 : w4.cell? ⟨w.heap.size, 3, none⟩ = some (.int .u16 h.i) := (blk_cell B4.out 3).trans rfl
    have z4 : w4.cell? ⟨w.heap.size, 4, none⟩ = some (.int .u16 h.c) := (blk_cell B4.out 4).trans rfl
    have z5 : w4.cell? ⟨w.heap.size, 5, none⟩ = some (.int .u32 h.l) := (blk_cell B4.out 5).trans rfl
    have z6 : w4.cell? ⟨w.heap.size, 6, none⟩ = some (.int .u32 h.m) := (blk_cell B4.out 6).trans rfl
    go_wp2_with fail
    clear z0 z1 z2 z3 z4 z5 z6
    refine (of05 h _ HO.out).mono ?_
    rintro e w5 ⟨rfl, hb5⟩
    have T5 := Lib.hid (bl_seq T4.out hb5)
    have B5 := Lib.hid (blk_below B4.out hb5)
    have X5 := Lib.hid (blk_below X4.out hb5)
    have N5 := Lib.hid (N4.out.below hb5)
    clear hb5 T4 B4 X4 N4
    go_wp2_with fail
    refine (rSeal05 h A B c d n m xs ys w5 HO.out (HR.out.below T5.out) hc HX.out.1 (by omega) (HS.out.below T5.out) hd HX.out.2).mono ?_
    rintro e w6 ⟨v6, rfl, hn6_⟩
    obtain ⟨A6, c6, rfl, hc6⟩ := hn6_.shape 64 (sealL_length _ _ _)
    have M6 := Lib.hid (hn6_.read (sealL_length _ _ _)).1
    have T6 := Lib.hid (bl_seq T5.out hn6_.bel)
    have B6 := Lib.hid (blk_below B5.out hn6_.bel)
    have X6 := Lib.hid (blk_below X5.out hn6_.bel)
    have N6 := Lib.hid (N5.out.below hn6_.bel)
    clear hn6_ T5 B5 X5 N5
    go_wp2_with fail
    refine (rSame_any (sealL h xs ys) (sealL h xs ys) A1 A6 64 64 c1 c6 w6 N6.out M6.out (sealL_byt _ _ HX.out.2) (sealL_byt _ _ HX.out.2)).mono ?_
    rintro e w7 ⟨rfl, hd7⟩
    have T7 := Lib.hid (bl_seq T6.out hd7.below)
    have b7 := blk_below B6.out hd7.below
    have x7 := blk_below X6.out hd7.below
    have z0 : w7.cell? ⟨w.heap.size, 0, none⟩ = some (.int .u8 h.k) := (blk_cell b7 0).trans rfl
    have z1 : w7.cell? ⟨w.heap.size, 1, none⟩ = some (.int .u32 h.e) := (blk_cell b7 1).trans rfl
    have z2 : w7.cell? ⟨w.heap.size, 2, none⟩ = some (.int .u32 h.b) := (blk_cell b7 2).trans rfl
    have z3 : w7.cell? ⟨w.heap.size, 3, none⟩ = some (.int .u16 h.i) := (blk_cell b7 3).trans rfl
    have z4 : w7.cell? ⟨w.heap.size, 4, none⟩ = some (.int .u16 h.c) := (blk_cell b7 4).trans rfl
    have z5 : w7.cell? ⟨w.heap.size, 5, none⟩ = some (.int .u32 h.l) := (blk_cell b7 5).trans rfl
    have z6 : w7.cell? ⟨w.heap.size, 6, none⟩ = some (.int .u32 h.m) := (blk_cell b7 6).trans rfl
    have x0 : w7.cell? ⟨w2.heap.size, 0, none⟩ = some (.int .u8 h.k) := (blk_cell x7 0).trans rfl
    have x1 : w7.cell? ⟨w2.heap.size, 1, none⟩ = some (.int .u32 h.e) := (blk_cell x7 1).trans rfl
    have x2 : w7.cell? ⟨w2.heap.size, 2, none⟩ = some (.int .u32 h.b) := (blk_cell x7 2).trans rfl
    have x3 : w7.cell? ⟨w2.heap.size, 3, none⟩ = some (.int .u16 h.i) := (blk_cell x7 3).trans rfl
    have x4 : w7.cell? ⟨w2.heap.size, 4, none⟩ = some (.int .u16 h.c) := (blk_cell x7 4).trans rfl
    have x5 : w7.cell? ⟨w2.heap.size, 5, none⟩ = some (.int .u32 h.l) := (blk_cell x7 5).trans rfl
    have x6 : w7.cell? ⟨w2.heap.size, 6, none⟩ = some (.int .u32 h.m) := (blk_cell x7 6).trans rfl
    have bs : decide (sealL h xs ys = sealL h xs ys) = true := by simp
    clear hd7 b7 x7
    have eqh := EE.out
    rw [hdEq_self] at eqh
    simp only [hdC] at eqh
    go_wp2_with fail
    go_ret
    exact ⟨rfl, T7.out⟩
  · have hkb : openB xs (sealL h xs ys) = false := by rw [hob, kindB]; simp; omega
    have hop : openR xs (sealL h xs ys) = hd0 := openR_no hkb
    rw [hkb, hop, show (hdC hd0 : Array Value) = #[.int .u8 0, .int .u32 0, .int .u32 0, .int .u16 0, .int .u16 0, .int .u32 0, .int .u32 0] from rfl] at he
    subst he
    clear hob hkb hop
    by_cases hk1 : 1 ≤ h.k
    · have hk6 : ¬ h.k ≤ 6 := by omega
      clear hk
      have hb3 : (w2.alloc (.cells #[.int .u8 0, .int .u32 0, .int .u32 0, .int .u16 0, .int .u16 0, .int .u32 0, .int .u32 0] 25)).heap[w2.heap.size]? = some (.cells #[.int .u8 0, .int .u32 0, .int .u32 0, .int .u16 0, .int .u16 0, .int .u32 0, .int .u32 0] 25 (0, 0)) := heap_alloc_new _ _
      have t3 : Below w.heap.size w (w2.alloc (.cells #[.int .u8 0, .int .u32 0, .int .u32 0, .int .u16 0, .int .u16 0, .int .u32 0, .int .u32 0] 25)) := bl_alloc T2.out _
      have b3 := blk_alloc B2.out (.cells #[.int .u8 0, .int .u32 0, .int .u32 0, .int .u16 0, .int .u16 0, .int .u32 0, .int .u32 0] 25)
      have n3 := N2.out.below (bl_alloc (Below.refl _ _) (.cells #[.int .u8 0, .int .u32 0, .int .u32 0, .int .u16 0, .int .u16 0, .int .u32 0, .int .u32 0] 25))
      have z0 : (w2.alloc (.cells #[.int .u8 0, .int .u32 0, .int .u32 0, .int .u16 0, .int .u16 0, .int .u32 0, .int .u32 0] 25)).cell? ⟨w.heap.size, 0, none⟩ = some (.int .u8 h.k) := (blk_cell b3 0).trans rfl
      have z1 : (w2.alloc (.cells #[.int .u8 0, .int .u32 0, .int .u32 0, .int .u16 0, .int .u16 0, .int .u32 0, .int .u32 0] 25)).cell? ⟨w.heap.size, 1, none⟩ = some (.int .u32 h.e) := (blk_cell b3 1).trans rfl
      have z2 : (w2.alloc (.cells #[.int .u8 0, .int .u32 0, .int .u32 0, .int .u16 0, .int .u16 0, .int .u32 0, .int .u32 0] 25)).cell? ⟨w.heap.size, 2, none⟩ = some (.int .u32 h.b) := (blk_cell b3 2).trans rfl
      have z3 : (w2.alloc (.cells #[.int .u8 0, .int .u32 0, .int .u32 0, .int .u16 0, .int .u16 0, .int .u32 0, .int .u32 0] 25)).cell? ⟨w.heap.size, 3, none⟩ = some (.int .u16 h.i) := (blk_cell b3 3).trans rfl
      have z4 : (w2.alloc (.cells #[.int .u8 0, .int .u32 0, .int .u32 0, .int .u16 0, .int .u16 0, .int .u32 0, .int .u32 0] 25)).cell? ⟨w.heap.size, 4, none⟩ = some (.int .u16 h.c) := (blk_cell b3 4).trans rfl
      have z5 : (w2.alloc (.cells #[.int .u8 0, .int .u32 0, .int .u32 0, .int .u16 0, .int .u16 0, .int .u32 0, .int .u32 0] 25)).cell? ⟨w.heap.size, 5, none⟩ = some (.int .u32 h.l) := (blk_cell b3 5).trans rfl
      have z6 : (w2.alloc (.cells #[.int .u8 0, .int .u32 0, .int .u32 0, .int .u16 0, .int .u16 0, .int .u32 0, .int .u32 0] 25)).cell? ⟨w.heap.size, 6, none⟩ = some (.int .u32 h.m) := (blk_cell b3 6).trans rfl
      have H3 := Lib.hid (And.intro hb3 (And.intro t3 (And.intro b3 n3)))
      clear hb3 t3 b3 n3
      go_wp2_with fail
      clear z0 z1 z2 z3 z4 z5 z6
      refine (sealed_any _).mono ?_
      rintro e w4 ⟨rfl, hb4⟩
      have T4 := Lib.hid (bl_seq H3.out.2.1 hb4)
      have B4 := Lib.hid (blk_below H3.out.2.2.1 hb4)
      have X4 := Lib.hid (blk_below H3.out.1 hb4)
      have N4 := Lib.hid (H3.out.2.2.2.below hb4)
      clear hb4 H3
      have z0 : w4.cell? ⟨w.heap.size, 0, none⟩ = some (.int .u8 h.k) := (blk_cell B4.out 0).trans rfl
      have z1 : w4.cell? ⟨w.heap.size, 1, none⟩ = some (.int .u32 h.e) := (blk_cell B4.out 1).trans rfl
      have z2 : w4.cell? ⟨w.heap.size, 2, none⟩ = some (.int .u32 h.b) := (blk_cell B4.out 2).trans rfl
      have z3 : w4.cell? ⟨w.heap.size, 3, none⟩ = some (.int .u16 h.i) := (blk_cell B4.out 3).trans rfl
      have z4 : w4.cell? ⟨w.heap.size, 4, none⟩ = some (.int .u16 h.c) := (blk_cell B4.out 4).trans rfl
      have z5 : w4.cell? ⟨w.heap.size, 5, none⟩ = some (.int .u32 h.l) := (blk_cell B4.out 5).trans rfl
      have z6 : w4.cell? ⟨w.heap.size, 6, none⟩ = some (.int .u32 h.m) := (blk_cell B4.out 6).trans rfl
      go_wp2_with fail
      clear z0 z1 z2 z3 z4 z5 z6
      refine (of05 h _ HO.out).mono ?_
      rintro e w5 ⟨rfl, hb5⟩
      have T5 := Lib.hid (bl_seq T4.out hb5)
      have B5 := Lib.hid (blk_below B4.out hb5)
      have X5 := Lib.hid (blk_below X4.out hb5)
      have N5 := Lib.hid (N4.out.below hb5)
      clear hb5 T4 B4 X4 N4
      go_wp2_with fail
      refine (rSeal05 h A B c d n m xs ys w5 HO.out (HR.out.below T5.out) hc HX.out.1 (by omega) (HS.out.below T5.out) hd HX.out.2).mono ?_
      rintro e w6 ⟨v6, rfl, hn6_⟩
      obtain ⟨A6, c6, rfl, hc6⟩ := hn6_.shape 64 (sealL_length _ _ _)
      have M6 := Lib.hid (hn6_.read (sealL_length _ _ _)).1
      have T6 := Lib.hid (bl_seq T5.out hn6_.bel)
      have B6 := Lib.hid (blk_below B5.out hn6_.bel)
      have X6 := Lib.hid (blk_below X5.out hn6_.bel)
      have N6 := Lib.hid (N5.out.below hn6_.bel)
      clear hn6_ T5 B5 X5 N5
      go_wp2_with fail
      refine (rSame_any (sealL h xs ys) (sealL h xs ys) A1 A6 64 64 c1 c6 w6 N6.out M6.out (sealL_byt _ _ HX.out.2) (sealL_byt _ _ HX.out.2)).mono ?_
      rintro e w7 ⟨rfl, hd7⟩
      have T7 := Lib.hid (bl_seq T6.out hd7.below)
      have b7 := blk_below B6.out hd7.below
      have x7 := blk_below X6.out hd7.below
      have z0 : w7.cell? ⟨w.heap.size, 0, none⟩ = some (.int .u8 h.k) := (blk_cell b7 0).trans rfl
      have z1 : w7.cell? ⟨w.heap.size, 1, none⟩ = some (.int .u32 h.e) := (blk_cell b7 1).trans rfl
      have z2 : w7.cell? ⟨w.heap.size, 2, none⟩ = some (.int .u32 h.b) := (blk_cell b7 2).trans rfl
      have z3 : w7.cell? ⟨w.heap.size, 3, none⟩ = some (.int .u16 h.i) := (blk_cell b7 3).trans rfl
      have z4 : w7.cell? ⟨w.heap.size, 4, none⟩ = some (.int .u16 h.c) := (blk_cell b7 4).trans rfl
      have z5 : w7.cell? ⟨w.heap.size, 5, none⟩ = some (.int .u32 h.l) := (blk_cell b7 5).trans rfl
      have z6 : w7.cell? ⟨w.heap.size, 6, none⟩ = some (.int .u32 h.m) := (blk_cell b7 6).trans rfl
      have x0 : w7.cell? ⟨w2.heap.size, 0, none⟩ = some (.int .u8 0) := (blk_cell x7 0).trans rfl
      have x1 : w7.cell? ⟨w2.heap.size, 1, none⟩ = some (.int .u32 0) := (blk_cell x7 1).trans rfl
      have x2 : w7.cell? ⟨w2.heap.size, 2, none⟩ = some (.int .u32 0) := (blk_cell x7 2).trans rfl
      have x3 : w7.cell? ⟨w2.heap.size, 3, none⟩ = some (.int .u16 0) := (blk_cell x7 3).trans rfl
      have x4 : w7.cell? ⟨w2.heap.size, 4, none⟩ = some (.int .u16 0) := (blk_cell x7 4).trans rfl
      have x5 : w7.cell? ⟨w2.heap.size, 5, none⟩ = some (.int .u32 0) := (blk_cell x7 5).trans rfl
      have x6 : w7.cell? ⟨w2.heap.size, 6, none⟩ = some (.int .u32 0) := (blk_cell x7 6).trans rfl
      have bs : decide (sealL h xs ys = sealL h xs ys) = true := by simp
      clear hd7 b7 x7
      have eqz := eqHd hd0 hd0
      rw [hdEq_self] at eqz
      simp only [hdC, hd0] at eqz
      go_wp2_with fail
      go_ret
      exact ⟨rfl, T7.out⟩
    · clear hk
      have hb3 : (w2.alloc (.cells #[.int .u8 0, .int .u32 0, .int .u32 0, .int .u16 0, .int .u16 0, .int .u32 0, .int .u32 0] 25)).heap[w2.heap.size]? = some (.cells #[.int .u8 0, .int .u32 0, .int .u32 0, .int .u16 0, .int .u16 0, .int .u32 0, .int .u32 0] 25 (0, 0)) := heap_alloc_new _ _
      have t3 : Below w.heap.size w (w2.alloc (.cells #[.int .u8 0, .int .u32 0, .int .u32 0, .int .u16 0, .int .u16 0, .int .u32 0, .int .u32 0] 25)) := bl_alloc T2.out _
      have b3 := blk_alloc B2.out (.cells #[.int .u8 0, .int .u32 0, .int .u32 0, .int .u16 0, .int .u16 0, .int .u32 0, .int .u32 0] 25)
      have n3 := N2.out.below (bl_alloc (Below.refl _ _) (.cells #[.int .u8 0, .int .u32 0, .int .u32 0, .int .u16 0, .int .u16 0, .int .u32 0, .int .u32 0] 25))
      have z0 : (w2.alloc (.cells #[.int .u8 0, .int .u32 0, .int .u32 0, .int .u16 0, .int .u16 0, .int .u32 0, .int .u32 0] 25)).cell? ⟨w.heap.size, 0, none⟩ = some (.int .u8 h.k) := (blk_cell b3 0).trans rfl
      have z1 : (w2.alloc (.cells #[.int .u8 0, .int .u32 0, .int .u32 0, .int .u16 0, .int .u16 0, .int .u32 0, .int .u32 0] 25)).cell? ⟨w.heap.size, 1, none⟩ = some (.int .u32 h.e) := (blk_cell b3 1).trans rfl
      have z2 : (w2.alloc (.cells #[.int .u8 0, .int .u32 0, .int .u32 0, .int .u16 0, .int .u16 0, .int .u32 0, .int .u32 0] 25)).cell? ⟨w.heap.size, 2, none⟩ = some (.int .u32 h.b) := (blk_cell b3 2).trans rfl
      have z3 : (w2.alloc (.cells #[.int .u8 0, .int .u32 0, .int .u32 0, .int .u16 0, .int .u16 0, .int .u32 0, .int .u32 0] 25)).cell? ⟨w.heap.size, 3, none⟩ = some (.int .u16 h.i) := (blk_cell b3 3).trans rfl
      have z4 : (w2.alloc (.cells #[.int .u8 0, .int .u32 0, .int .u32 0, .int .u16 0, .int .u16 0, .int .u32 0, .int .u32 0] 25)).cell? ⟨w.heap.size, 4, none⟩ = some (.int .u16 h.c) := (blk_cell b3 4).trans rfl
      have z5 : (w2.alloc (.cells #[.int .u8 0, .int .u32 0, .int .u32 0, .int .u16 0, .int .u16 0, .int .u32 0, .int .u32 0] 25)).cell? ⟨w.heap.size, 5, none⟩ = some (.int .u32 h.l) := (blk_cell b3 5).trans rfl
      have z6 : (w2.alloc (.cells #[.int .u8 0, .int .u32 0, .int .u32 0, .int .u16 0, .int .u16 0, .int .u32 0, .int .u32 0] 25)).cell? ⟨w.heap.size, 6, none⟩ = some (.int .u32 h.m) := (blk_cell b3 6).trans rfl
      have H3 := Lib.hid (And.intro hb3 (And.intro t3 (And.intro b3 n3)))
      clear hb3 t3 b3 n3
      go_wp2_with fail
      clear z0 z1 z2 z3 z4 z5 z6
      refine (sealed_any _).mono ?_
      rintro e w4 ⟨rfl, hb4⟩
      have T4 := Lib.hid (bl_seq H3.out.2.1 hb4)
      have B4 := Lib.hid (blk_below H3.out.2.2.1 hb4)
      have X4 := Lib.hid (blk_below H3.out.1 hb4)
      have N4 := Lib.hid (H3.out.2.2.2.below hb4)
      clear hb4 H3
      have z0 : w4.cell? ⟨w.heap.size, 0, none⟩ = some (.int .u8 h.k) := (blk_cell B4.out 0).trans rfl
      have z1 : w4.cell? ⟨w.heap.size, 1, none⟩ = some (.int .u32 h.e) := (blk_cell B4.out 1).trans rfl
      have z2 : w4.cell? ⟨w.heap.size, 2, none⟩ = some (.int .u32 h.b) := (blk_cell B4.out 2).trans rfl
      have z3 : w4.cell? ⟨w.heap.size, 3, none⟩ = some (.int .u16 h.i) := (blk_cell B4.out 3).trans rfl
      have z4 : w4.cell? ⟨w.heap.size, 4, none⟩ = some (.int .u16 h.c) := (blk_cell B4.out 4).trans rfl
      have z5 : w4.cell? ⟨w.heap.size, 5, none⟩ = some (.int .u32 h.l) := (blk_cell B4.out 5).trans rfl
      have z6 : w4.cell? ⟨w.heap.size, 6, none⟩ = some (.int .u32 h.m) := (blk_cell B4.out 6).trans rfl
      go_wp2_with fail
      clear z0 z1 z2 z3 z4 z5 z6
      refine (of05 h _ HO.out).mono ?_
      rintro e w5 ⟨rfl, hb5⟩
      have T5 := Lib.hid (bl_seq T4.out hb5)
      have B5 := Lib.hid (blk_below B4.out hb5)
      have X5 := Lib.hid (blk_below X4.out hb5)
      have N5 := Lib.hid (N4.out.below hb5)
      clear hb5 T4 B4 X4 N4
      go_wp2_with fail
      refine (rSeal05 h A B c d n m xs ys w5 HO.out (HR.out.below T5.out) hc HX.out.1 (by omega) (HS.out.below T5.out) hd HX.out.2).mono ?_
      rintro e w6 ⟨v6, rfl, hn6_⟩
      obtain ⟨A6, c6, rfl, hc6⟩ := hn6_.shape 64 (sealL_length _ _ _)
      have M6 := Lib.hid (hn6_.read (sealL_length _ _ _)).1
      have T6 := Lib.hid (bl_seq T5.out hn6_.bel)
      have B6 := Lib.hid (blk_below B5.out hn6_.bel)
      have X6 := Lib.hid (blk_below X5.out hn6_.bel)
      have N6 := Lib.hid (N5.out.below hn6_.bel)
      clear hn6_ T5 B5 X5 N5
      go_wp2_with fail
      refine (rSame_any (sealL h xs ys) (sealL h xs ys) A1 A6 64 64 c1 c6 w6 N6.out M6.out (sealL_byt _ _ HX.out.2) (sealL_byt _ _ HX.out.2)).mono ?_
      rintro e w7 ⟨rfl, hd7⟩
      have T7 := Lib.hid (bl_seq T6.out hd7.below)
      have b7 := blk_below B6.out hd7.below
      have x7 := blk_below X6.out hd7.below
      have z0 : w7.cell? ⟨w.heap.size, 0, none⟩ = some (.int .u8 h.k) := (blk_cell b7 0).trans rfl
      have z1 : w7.cell? ⟨w.heap.size, 1, none⟩ = some (.int .u32 h.e) := (blk_cell b7 1).trans rfl
      have z2 : w7.cell? ⟨w.heap.size, 2, none⟩ = some (.int .u32 h.b) := (blk_cell b7 2).trans rfl
      have z3 : w7.cell? ⟨w.heap.size, 3, none⟩ = some (.int .u16 h.i) := (blk_cell b7 3).trans rfl
      have z4 : w7.cell? ⟨w.heap.size, 4, none⟩ = some (.int .u16 h.c) := (blk_cell b7 4).trans rfl
      have z5 : w7.cell? ⟨w.heap.size, 5, none⟩ = some (.int .u32 h.l) := (blk_cell b7 5).trans rfl
      have z6 : w7.cell? ⟨w.heap.size, 6, none⟩ = some (.int .u32 h.m) := (blk_cell b7 6).trans rfl
      have x0 : w7.cell? ⟨w2.heap.size, 0, none⟩ = some (.int .u8 0) := (blk_cell x7 0).trans rfl
      have x1 : w7.cell? ⟨w2.heap.size, 1, none⟩ = some (.int .u32 0) := (blk_cell x7 1).trans rfl
      have x2 : w7.cell? ⟨w2.heap.size, 2, none⟩ = some (.int .u32 0) := (blk_cell x7 2).trans rfl
      have x3 : w7.cell? ⟨w2.heap.size, 3, none⟩ = some (.int .u16 0) := (blk_cell x7 3).trans rfl
      have x4 : w7.cell? ⟨w2.heap.size, 4, none⟩ = some (.int .u16 0) := (blk_cell x7 4).trans rfl
      have x5 : w7.cell? ⟨w2.heap.size, 5, none⟩ = some (.int .u32 0) := (blk_cell x7 5).trans rfl
      have x6 : w7.cell? ⟨w2.heap.size, 6, none⟩ = some (.int .u32 0) := (blk_cell x7 6).trans rfl
      have bs : decide (sealL h xs ys = sealL h xs ys) = true := by simp
      clear hd7 b7 x7
      have eqz := eqHd hd0 hd0
      rw [hdEq_self] at eqz
      simp only [hdC, hd0] at eqz
      go_wp2_with fail
      go_ret
      exact ⟨rfl, T7.out⟩
end Go.Proofs.Ytkmfdnoklabndaa
