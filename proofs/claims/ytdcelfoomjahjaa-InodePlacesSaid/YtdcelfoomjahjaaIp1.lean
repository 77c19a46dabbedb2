import Derived.Test.YtdcelfoomjahjaaIpn
/-! The law InodePlaces: its walk, a part. Printed by gen_places.py. -/
set_option linter.unusedVariables false
set_option linter.unusedSimpArgs false
namespace Go.Proofs.Ytdcelfoomjahjaa
open Go.RowKit Go.Proofs.YtdcelfoomjahjaaW.PrintWords
set_option maxHeartbeats 16000000 in
set_option maxRecDepth 100000 in
theorem iplaces_hi (ok' : Bool) (a0 a1 a2 a3 B J x1 x2 x3 x4 q p i p' i' X Y D D' I I' C C' : Int) (w : World) (hB : (IntKind.u64.wrap a0).tmod 5000 = B) (B0 : 0 ≤ B) (B1 : B < 5000) (hJ : (IntKind.u64.wrap a1).tmod 13 = J) (J0 : 0 ≤ J) (J1 : J < 13) (a20 : 0 ≤ a2) (a21 : a2 < 4294967296) (a30 : 0 ≤ a3) (a31 : a3 < 4294967296)
    (hq1 : (256 + 64 * J).tdiv 64 = q) (hq2 : (256 + 64 * J) / 64 = q) (hq3 : ¬ q = 0) (q4 : 4 ≤ q) (q16 : q ≤ 16) (hc : Hid (LayC (40 + B) (256 + 64 * J) x1 x2 x3 x4 (256 + 64 * J) 0)) (x20 : 0 ≤ x2) (x21 : x2 ≤ 1048576)
    (hX : a2.tmod (40 + B) = X) (hX2 : a2 % (40 + B) = X) (X0 : 0 ≤ X) (X1 : X < 4294967296) (hY : a3.tmod (40 + B) = Y) (hY2 : a3 % (40 + B) = Y) (Y0 : 0 ≤ Y) (Y1 : Y < 4294967296)
    (hg : Hid (BitC x1 x2 x3 x4 (256 + 64 * J) X (x2 + D) I C)) (hg' : Hid (BitC x1 x2 x3 x4 (256 + 64 * J) Y (x2 + D') I' C'))
    (hD1 : X.tdiv (8 * (256 + 64 * J)) = D) (hD2 : X / (8 * (256 + 64 * J)) = D) (D0 : 0 ≤ D) (D1 : D ≤ 4294967296) (E0 : 0 ≤ D') (E1 : D' ≤ 4294967296) (hI1 : (X / 8).tmod (256 + 64 * J) = I) (hI2 : X / 8 % (256 + 64 * J) = I) (hC1 : X.tmod 8 = C) (hC2 : X % 8 = C) (C0 : 0 ≤ C) (C1 : C < 8) (hF : ¬ x3 ≤ x2 + D) (hF2 : x2 + D < x3)
    (hD : Hid (X = Y ∨ (X ≠ Y ∧ D ≠ D') ∨ (X ≠ Y ∧ D = D' ∧ I ≠ I') ∨ (X ≠ Y ∧ D = D' ∧ I = I' ∧ C ≠ C')))
    (hd : Hid (AtC x1 x2 x3 x4 (256 + 64 * J) a2 0 0 false)) (hd' : Hid (AtC x1 x2 x3 x4 (256 + 64 * J) a3 p' i' ok')) (r1 : ¬ a2 < 1) (r2 : x1 < a2) :
    Calls Try.prog 6 #[.agg #[.int .i64 a0, .int .i64 a1, .int .u32 a2, .int .u32 a3]] w fun e w' => e = .returned (.bool true) ∧ Below w.heap.size w w' := by
  go_enter Try.func6, Try.ntmps6
  go_wp2_with fail
  go_quiet (fail)
  go_wp2_with fail
  refine (hc.out _).mono ?_
  rintro e w1 ⟨rfl, hb1⟩
  have HX1 : Hid ((w1.alloc (.cells #[.int .i64 x1, .int .i64 x2, .int .i64 x3, .int .i64 x4, .int .i64 (256 + 64 * J)] 23)).heap[w1.heap.size]? = some (.cells #[.int .i64 x1, .int .i64 x2, .int .i64 x3, .int .i64 x4, .int .i64 (256 + 64 * J)] 23 (0, 0))) := Lib.hid (heap_alloc_new _ _)
  have HB1 : Hid (Below w.heap.size w (w1.alloc (.cells #[.int .i64 x1, .int .i64 x2, .int .i64 x3, .int .i64 x4, .int .i64 (256 + 64 * J)] 23))) := Lib.hid (bl_alloc (bl_seq (bl_drewN (bl_alloc (Below.refl _ _) _) _) hb1) _)
  clear hb1
  go_wp2_with fail
  refine (laid_any _).mono ?_
  rintro e w2 ⟨rfl, hb2⟩
  have HX2 := Lib.hid ((hb2.block _ (blk_lt HX1.out)).trans HX1.out)
  have z0 := (blk_cell HX2.out 0).trans rfl
  have z1 := (blk_cell HX2.out 1).trans rfl
  have z2 := (blk_cell HX2.out 2).trans rfl
  have z3 := (blk_cell HX2.out 3).trans rfl
  have z4 := (blk_cell HX2.out 4).trans rfl
  have HB2 : Hid (Below w.heap.size w w2) := Lib.hid (bl_seq HB1.out hb2)
  clear hb2 HX1 HB1
  go_wp2_with fail
  refine (hd.out _).mono ?_
  rintro e w3 ⟨rfl, hb3⟩
  have HX3 := Lib.hid ((hb3.block _ (blk_lt HX2.out)).trans HX2.out)
  clear z0 z1 z2 z3 z4
  have z0 := (blk_cell HX3.out 0).trans rfl
  have z1 := (blk_cell HX3.out 1).trans rfl
  have z2 := (blk_cell HX3.out 2).trans rfl
  have z3 := (blk_cell HX3.out 3).trans rfl
  have z4 := (blk_cell HX3.out 4).trans rfl
  have HB3 : Hid (Below w.heap.size w w3) := Lib.hid (bl_seq HB2.out hb3)
  clear hb3 HX2 HB2
  go_wp2_with fail
  refine (hd'.out _).mono ?_
  rintro e w4 ⟨rfl, hb4⟩
  have HX4 := Lib.hid ((hb4.block _ (blk_lt HX3.out)).trans HX3.out)
  clear z0 z1 z2 z3 z4
  have z0 := (blk_cell HX4.out 0).trans rfl
  have z1 := (blk_cell HX4.out 1).trans rfl
  have z2 := (blk_cell HX4.out 2).trans rfl
  have z3 := (blk_cell HX4.out 3).trans rfl
  have z4 := (blk_cell HX4.out 4).trans rfl
  have HB4 : Hid (Below w.heap.size w w4) := Lib.hid (bl_seq HB3.out hb4)
  clear hb4 HX3 HB3
  go_wp2_with fail
  go_quiet (fail)
  have HX4b : Hid ((w4.drewN nq).heap[w1.heap.size]? = _) := Lib.hid HX4.out
  have HB4b : Hid (Below w.heap.size w (w4.drewN nq)) := Lib.hid (bl_drewN HB4.out nq)
  clear HX4 HB4
  rename (Hid (Below w.heap.size w (w4.drewN nq))) => HB4
  rename (Hid ((w4.drewN nq).heap[w1.heap.size]? = _)) => HX4
  go_wp2_with fail
  refine (hg.out _).mono ?_
  rintro e w5 ⟨rfl, hb5⟩
  have HX5 := Lib.hid ((hb5.block _ (blk_lt HX4.out)).trans HX4.out)
  clear z0 z1 z2 z3 z4
  have z0 := (blk_cell HX5.out 0).trans rfl
  have z1 := (blk_cell HX5.out 1).trans rfl
  have z2 := (blk_cell HX5.out 2).trans rfl
  have z3 := (blk_cell HX5.out 3).trans rfl
  have z4 := (blk_cell HX5.out 4).trans rfl
  have HB5 : Hid (Below w.heap.size w w5) := Lib.hid (bl_seq HB4.out hb5)
  clear hb5 HX4 HB4
  go_wp2_with fail
  refine (hg'.out _).mono ?_
  rintro e w6 ⟨rfl, hb6⟩
  have HX6 := Lib.hid ((hb6.block _ (blk_lt HX5.out)).trans HX5.out)
  clear z0 z1 z2 z3 z4
  have z0 := (blk_cell HX6.out 0).trans rfl
  have z1 := (blk_cell HX6.out 1).trans rfl
  have z2 := (blk_cell HX6.out 2).trans rfl
  have z3 := (blk_cell HX6.out 3).trans rfl
  have z4 := (blk_cell HX6.out 4).trans rfl
  have HB6 : Hid (Below w.heap.size w w6) := Lib.hid (bl_seq HB5.out hb6)
  clear hb6 HX5 HB5
  rcases hD.out with u_ | ⟨u_, u2_⟩ | ⟨u_, u2_, u3_⟩ | ⟨u_, u2_, u3_, u4_⟩
  · subst u_
    go_wp2_with fail
    have d1 : (X == X) = true := by simp
    go_quiet (fail)
    go_wp2_with fail
    go_ret
    exact ⟨by first | rfl | simp, bl_drewN HB6.out _⟩
  · go_wp2_with fail
    have d1 : (X == Y) = false := by simpa using u_
    have d2 : (D != D') = true := by simpa using u2_
    have d2b : (x2 + D != x2 + D') = true := by simp only [bne_iff_ne, ne_eq]; omega
    go_quiet (fail)
    go_wp2_with fail
    go_ret
    exact ⟨by first | rfl | simp, bl_drewN HB6.out _⟩
  · subst u2_
    go_wp2_with fail
    have d1 : (X == Y) = false := by simpa using u_
    have d3 : (I != I') = true := by simpa using u3_
    go_quiet (fail)
    go_wp2_with fail
    go_ret
    exact ⟨by first | rfl | simp, bl_drewN HB6.out _⟩
  · subst u2_ u3_
    go_wp2_with fail
    have d1 : (X == Y) = false := by simpa using u_
    have d4 : (C != C') = true := by simpa using u4_
    go_quiet (fail)
    go_wp2_with fail
    go_ret
    exact ⟨by first | rfl | simp, bl_drewN HB6.out _⟩
end Go.Proofs.Ytdcelfoomjahjaa
