import Derived.Test.YtdcelfoomjahjaaIdecw
/-! The law InodeDecodes: its walk, what is none. -/
set_option linter.unusedVariables false
set_option linter.unusedSimpArgs false
namespace Go.Proofs.Ytdcelfoomjahjaa
open Go.RowKit Go.Proofs.YtdcelfoomjahjaaW.PrintWords Go.Proofs.YtdcelfoomjahjaaW.PrintLast Go.Proofs.Ytdcelfoomjahjaa.PInodeDecodes
attribute [local go_sem ↓] Go.wp_at_zero Go.wp_at_succ
set_option maxHeartbeats 16000000 in
set_option maxRecDepth 100000 in
theorem idec_no (xs ts us : List Int) (A At Cc : Option Addr) (c ct cc : Nat) (k l s : Int) (d : Nat → Int) (na nb : Int) (w : World) (k0 : 0 ≤ k) (k1 : k < 256) (l0 : 0 ≤ l) (l1 : l < 65536) (s0 : 0 ≤ s) (s1 : s < 4294967296) (hd : ∀ j, 0 ≤ d j ∧ d j < 4294967296) (a0 : 0 ≤ na) (a1 : na < 4294967296) (b0 : 0 ≤ nb) (b1 : nb < 4294967296) (hx : ReadsInt w .u8 A xs.length xs) (hxb : Byt xs) (hxc : xs.length ≤ c) (fA : ∀ a, A = some a → a.block < w.heap.size) (ht : ReadsInt w .i64 At ts.length ts) (hu : ReadsInt w .u8 Cc us.length us) (hub : Byt us)
    (hxl : xs.length ≤ 200) (htl : ts.length ≤ 6) (hul : ts.length ≤ us.length) (rt : ∀ x ∈ ts, -9223372036854775808 ≤ x ∧ x ≤ 9223372036854775807) (hcase : okB xs = false) :
    Calls Try.prog 8 #[.agg #[.slice A xs.length c, .int .u8 k, .int .u16 l, .int .u32 s, .int .u32 (d 0), .int .u32 (d 1), .int .u32 (d 2), .int .u32 (d 3), .int .u32 (d 4), .int .u32 (d 5), .int .u32 (d 6), .int .u32 (d 7), .int .u32 na, .int .u32 nb, .slice At ts.length ct, .slice Cc us.length cc]] w fun e w' => e = .returned (.bool true) ∧ Below w.heap.size w w' := by
  have HD := Lib.hid hd
  have HX := Lib.hid (And.intro hx (And.intro hxb (And.intro fA (And.intro ht (And.intro hu (And.intro hub rt))))))
  have hun := hu.2.1
  have g1 : ¬ (200 : Int) < xs.length := by omega
  have g2 : ¬ (6 : Int) < ts.length := by omega
  have g3 : ¬ (us.length : Int) < ts.length := by omega
  have g4 : decide (us.length < ts.length) = false := by simpa using hul
  clear hd hx hxb fA ht hu hub rt
  go_enter Try.func8, Try.ntmps8
  go_wp2_with fail
  have hb0 : (w.alloc (.cells #[.slice A xs.length c, .int .u8 k, .int .u16 l, .int .u32 s, .int .u32 (d 0), .int .u32 (d 1), .int .u32 (d 2), .int .u32 (d 3), .int .u32 (d 4), .int .u32 (d 5), .int .u32 (d 6), .int .u32 (d 7), .int .u32 na, .int .u32 nb, .slice At ts.length ct, .slice Cc us.length cc] 62)).heap[w.heap.size]? = some (.cells #[.slice A xs.length c, .int .u8 k, .int .u16 l, .int .u32 s, .int .u32 (d 0), .int .u32 (d 1), .int .u32 (d 2), .int .u32 (d 3), .int .u32 (d 4), .int .u32 (d 5), .int .u32 (d 6), .int .u32 (d 7), .int .u32 na, .int .u32 nb, .slice At ts.length ct, .slice Cc us.length cc] 62 (0, 0)) := heap_alloc_new w _
  have t0 : Below w.heap.size w (w.alloc (.cells #[.slice A xs.length c, .int .u8 k, .int .u16 l, .int .u32 s, .int .u32 (d 0), .int .u32 (d 1), .int .u32 (d 2), .int .u32 (d 3), .int .u32 (d 4), .int .u32 (d 5), .int .u32 (d 6), .int .u32 (d 7), .int .u32 na, .int .u32 nb, .slice At ts.length ct, .slice Cc us.length cc] 62)) := bl_alloc (Below.refl _ _) _
  have hs0 : (w.alloc (.cells #[.slice A xs.length c, .int .u8 k, .int .u16 l, .int .u32 s, .int .u32 (d 0), .int .u32 (d 1), .int .u32 (d 2), .int .u32 (d 3), .int .u32 (d 4), .int .u32 (d 5), .int .u32 (d 6), .int .u32 (d 7), .int .u32 na, .int .u32 nb, .slice At ts.length ct, .slice Cc us.length cc] 62)).heap.size = w.heap.size + 1 := by simp
  obtain ⟨W, hW⟩ : ∃ W, w.alloc (.cells #[.slice A xs.length c, .int .u8 k, .int .u16 l, .int .u32 s, .int .u32 (d 0), .int .u32 (d 1), .int .u32 (d 2), .int .u32 (d 3), .int .u32 (d 4), .int .u32 (d 5), .int .u32 (d 6), .int .u32 (d 7), .int .u32 na, .int .u32 nb, .slice At ts.length ct, .slice Cc us.length cc] 62) = W := ⟨_, rfl⟩
  rw [hW] at hb0 t0 hs0 ⊢
  have B0 := Lib.hid (And.intro t0 hs0)
  have z0 : W.cell? ⟨w.heap.size, 0, none⟩ = some (.slice A xs.length c) := (blk_cell hb0 0).trans rfl
  have z1 : W.cell? ⟨w.heap.size, 1, none⟩ = some (.int .u8 k) := (blk_cell hb0 1).trans rfl
  have z2 : W.cell? ⟨w.heap.size, 2, none⟩ = some (.int .u16 l) := (blk_cell hb0 2).trans rfl
  have z3 : W.cell? ⟨w.heap.size, 3, none⟩ = some (.int .u32 s) := (blk_cell hb0 3).trans rfl
  have z4 : W.cell? ⟨w.heap.size, 4, none⟩ = some (.int .u32 (d 0)) := (blk_cell hb0 4).trans rfl
  have z5 : W.cell? ⟨w.heap.size, 5, none⟩ = some (.int .u32 (d 1)) := (blk_cell hb0 5).trans rfl
  have z6 : W.cell? ⟨w.heap.size, 6, none⟩ = some (.int .u32 (d 2)) := (blk_cell hb0 6).trans rfl
  have z7 : W.cell? ⟨w.heap.size, 7, none⟩ = some (.int .u32 (d 3)) := (blk_cell hb0 7).trans rfl
  have z8 : W.cell? ⟨w.heap.size, 8, none⟩ = some (.int .u32 (d 4)) := (blk_cell hb0 8).trans rfl
  have z9 : W.cell? ⟨w.heap.size, 9, none⟩ = some (.int .u32 (d 5)) := (blk_cell hb0 9).trans rfl
  have z10 : W.cell? ⟨w.heap.size, 10, none⟩ = some (.int .u32 (d 6)) := (blk_cell hb0 10).trans rfl
  have z11 : W.cell? ⟨w.heap.size, 11, none⟩ = some (.int .u32 (d 7)) := (blk_cell hb0 11).trans rfl
  have z12 : W.cell? ⟨w.heap.size, 12, none⟩ = some (.int .u32 na) := (blk_cell hb0 12).trans rfl
  have z13 : W.cell? ⟨w.heap.size, 13, none⟩ = some (.int .u32 nb) := (blk_cell hb0 13).trans rfl
  have z14 : W.cell? ⟨w.heap.size, 14, none⟩ = some (.slice At ts.length ct) := (blk_cell hb0 14).trans rfl
  have z15 : W.cell? ⟨w.heap.size, 15, none⟩ = some (.slice Cc us.length cc) := (blk_cell hb0 15).trans rfl
  clear hW hb0 t0 hs0
  go_region_held3 (fun w' => w'.cell? ⟨w.heap.size, 0, none⟩ = some (.slice A xs.length c) ∧ w'.cell? ⟨w.heap.size, 1, none⟩ = some (.int .u8 k) ∧ w'.cell? ⟨w.heap.size, 2, none⟩ = some (.int .u16 l) ∧ w'.cell? ⟨w.heap.size, 3, none⟩ = some (.int .u32 s) ∧ w'.cell? ⟨w.heap.size, 4, none⟩ = some (.int .u32 (d 0)) ∧ w'.cell? ⟨w.heap.size, 5, none⟩ = some (.int .u32 (d 1)) ∧ w'.cell? ⟨w.heap.size, 6, none⟩ = some (.int .u32 (d 2)) ∧ w'.cell? ⟨w.heap.size, 7, none⟩ = some (.int .u32 (d 3)) ∧ w'.cell? ⟨w.heap.size, 8, none⟩ = some (.int .u32 (d 4)) ∧ w'.cell? ⟨w.heap.size, 9, none⟩ = some (.int .u32 (d 5)) ∧ w'.cell? ⟨w.heap.size, 10, none⟩ = some (.int .u32 (d 6)) ∧ w'.cell? ⟨w.heap.size, 11, none⟩ = some (.int .u32 (d 7)) ∧ w'.cell? ⟨w.heap.size, 12, none⟩ = some (.int .u32 na) ∧ w'.cell? ⟨w.heap.size, 13, none⟩ = some (.int .u32 nb) ∧ w'.cell? ⟨w.heap.size, 14, none⟩ = some (.slice At ts.length ct) ∧ w'.cell? ⟨w.heap.size, 15, none⟩ = some (.slice Cc us.length cc)) (go_keep) (fail)
  go_wp2_with fail
  clear z0 z1 z2 z3 z4 z5 z6 z7 z8 z9 z10 z11 z12 z13 z14 z15
  have hbn : ((W.alloc (.cells #[.int .u8 k, .int .u16 l, .int .u32 s, .int .u32 (d 0), .int .u32 (d 1), .int .u32 (d 2), .int .u32 (d 3), .int .u32 (d 4), .int .u32 (d 5), .int .u32 (d 6), .int .u32 (d 7), .int .u32 na, .int .u32 nb] 48)).drew).heap[W.heap.size]? = some (.cells #[.int .u8 k, .int .u16 l, .int .u32 s, .int .u32 (d 0), .int .u32 (d 1), .int .u32 (d 2), .int .u32 (d 3), .int .u32 (d 4), .int .u32 (d 5), .int .u32 (d 6), .int .u32 (d 7), .int .u32 na, .int .u32 nb] 48 (0, 0)) := heap_alloc_new W _
  have T0 : Hid (Below w.heap.size w ((W.alloc (.cells #[.int .u8 k, .int .u16 l, .int .u32 s, .int .u32 (d 0), .int .u32 (d 1), .int .u32 (d 2), .int .u32 (d 3), .int .u32 (d 4), .int .u32 (d 5), .int .u32 (d 6), .int .u32 (d 7), .int .u32 na, .int .u32 nb] 48)).drew)) := Lib.hid (bl_drew (bl_alloc B0.out.1 _))
  refine (laid_any _).mono ?_
  rintro e w1 ⟨rfl, hb1⟩
  have Bn1 := Lib.hid (blk_below hbn hb1)
  have T1 := Lib.hid (bl_seq T0.out hb1)
  clear hbn hb1 T0 g1 g2 g3 g4
  have g1 : decide ((200 : Int) < xs.length) = false := by simp; omega
  have g2 : decide ((6 : Int) < ts.length) = false := by simp; omega
  have g3 : decide (us.length < ts.length) = false := by simp; omega
  go_wp2_with fail
  refine (decode_r A c xs w1 (HX.out.1.below T1.out) HX.out.2.1 hxc (fun q hq => by have h1 := HX.out.2.2.1 q hq; have h2 := T1.out.size; omega)).mono ?_
  rintro e w2 ⟨hb2, k2, l2, s2, d2, a2, b2, q2, he, hR, hB⟩
  have Bn2 := Lib.hid (blk_below Bn1.out hb2)
  have T2 := Lib.hid (bl_seq T1.out hb2)
  have IB2 := Lib.hid (show ((0 ≤ k2 ∧ k2 < 256) ∧ (0 ≤ l2 ∧ l2 < 65536) ∧ (0 ≤ s2 ∧ s2 < 4294967296) ∧ (∀ j, 0 ≤ d2 j ∧ d2 j < 4294967296) ∧ (0 ≤ a2 ∧ a2 < 4294967296) ∧ (0 ≤ b2 ∧ b2 < 4294967296)) from hB)
  simp only [decA] at he
  subst he
  clear hb2 hB g1 g2 g3
  have bx : (w2.alloc (.cells #[.int .u8 k2, .int .u16 l2, .int .u32 s2, .int .u32 (d2 0), .int .u32 (d2 1), .int .u32 (d2 2), .int .u32 (d2 3), .int .u32 (d2 4), .int .u32 (d2 5), .int .u32 (d2 6), .int .u32 (d2 7), .int .u32 a2, .int .u32 b2] 48)).heap[w2.heap.size]? = some (.cells #[.int .u8 k2, .int .u16 l2, .int .u32 s2, .int .u32 (d2 0), .int .u32 (d2 1), .int .u32 (d2 2), .int .u32 (d2 3), .int .u32 (d2 4), .int .u32 (d2 5), .int .u32 (d2 6), .int .u32 (d2 7), .int .u32 a2, .int .u32 b2] 48 (0, 0)) := heap_alloc_new w2 _
  have tx : Below w2.heap.size w2 (w2.alloc (.cells #[.int .u8 k2, .int .u16 l2, .int .u32 s2, .int .u32 (d2 0), .int .u32 (d2 1), .int .u32 (d2 2), .int .u32 (d2 3), .int .u32 (d2 4), .int .u32 (d2 5), .int .u32 (d2 6), .int .u32 (d2 7), .int .u32 a2, .int .u32 b2] 48)) := bl_alloc (Below.refl _ _) _
  have BX := Lib.hid (And.intro bx tx)
  clear bx tx
  have hR := hR.resolve_left (fun h_ => by rw [h_.1] at hcase; cases hcase)
  obtain ⟨hok, rfl, rfl, rfl, rfl, rfl, rfl, rfl, hdec⟩ := hR
  clear hcase
  have HDEC := Lib.hid hdec
  clear hok hdec
  have hneq := neIno 0 0 0 dirN 0 0 0 0 0 dirN 0 0
  rw [inoEq_self] at hneq
  simp only [decA] at hneq
  have HNE := Lib.hid hneq
  clear hneq
  go_wp2_with fail
  refine (dec17_no xs A xs.length c _ rfl ((HX.out.1.below T2.out).below BX.out.2) hxc HX.out.2.1 HDEC.out).mono ?_
  rintro e w3 ⟨B3, m3, q3, rfl, hb3⟩
  have bx3 := blk_below BX.out.1 hb3
  have t3 : Below w2.heap.size w2 w3 := bl_seq BX.out.2 hb3
  have hx23 : Hid (w2.heap.size < w3.heap.size) := Lib.hid (by have h1 := hb3.size; simp at h1; omega)
  have bw : (w3.alloc (.cells #[.int .i64 0, .int .i64 0, .int .i64 0, .slice B3 m3 q3] 55)).heap[w3.heap.size]? = some (.cells #[.int .i64 0, .int .i64 0, .int .i64 0, .slice B3 m3 q3] 55 (0, 0)) := heap_alloc_new w3 _
  have bx4 := blk_alloc bx3 (.cells #[.int .i64 0, .int .i64 0, .int .i64 0, .slice B3 m3 q3] 55)
  have t4 : Below w2.heap.size w2 (w3.alloc (.cells #[.int .i64 0, .int .i64 0, .int .i64 0, .slice B3 m3 q3] 55)) := bl_alloc t3 _
  clear hb3 bx3 t3
  go_wp2_with fail
  obtain ⟨V, hV⟩ : ∃ V, w3.alloc (.cells #[.int .i64 0, .int .i64 0, .int .i64 0, .slice B3 m3 q3] 55) = V := ⟨_, rfl⟩
  rw [hV] at bw bx4 t4 ⊢
  clear hV BX
  have BB := Lib.hid t4
  have BX := Lib.hid bx4
  have BW := Lib.hid bw
  clear bx4 bw t4
  generalize V = w0 at BB BX BW ⊢
  refine start_ (n := 25) (S := fun w' => True) (ds := []) #[false, false, false, false, false, false, false, false, false, false, false, false, false, false, false, false, false, false, false, false, false, false, false, false, false] (by kernel_rfl) rfl rfl trivial (fun hHeld => ?_)
  refine with_tabW IdcR.tab6 IdcR.bits6 (fun HT_ HW_ => ?_)
  have BB := Lib.hid (bl_drew BB.out)
  have BX := Lib.hid (show w0.drew.heap[w2.heap.size]? = _ from BX.out)
  have BW := Lib.hid (show w0.drew.heap[w3.heap.size]? = _ from BW.out)
  generalize w0.drew = wq at BB BX BW hHeld ⊢
  refine pure_ (i := 0) (N := some 51) (v := ?_) (a' := ?_) #[true, false, false, false, false, false, false, false, false, false, false, false, false, false, false, false, false, false, false, false, false, false, false, false, false] rfl rfl (any_of HT_.out (by kernel_rfl)) (fun _ _ _ h => h) (Or.inl ⟨by rfl, ?_⟩) ?_ ?_
  rotate_left
  · intro w'
    go_simp
    with_reducible rfl
  rotate_left
  · simp only [Act.put, List.setIfInBounds_toArray, List.set_cons_zero, List.set_cons_succ, i64_w, i32_w]
    rfl
  refine pure_ (i := 1) (N := some 52) (v := ?_) (a' := ?_) #[true, true, false, false, false, false, false, false, false, false, false, false, false, false, false, false, false, false, false, false, false, false, false, false, false] rfl rfl (any_of HT_.out (by kernel_rfl)) (fun _ _ _ h => h) (Or.inl ⟨by rfl, ?_⟩) ?_ ?_
  rotate_left
  · intro w'
    go_simp
    with_reducible rfl
  rotate_left
  · simp only [Act.put, List.setIfInBounds_toArray, List.set_cons_zero, List.set_cons_succ, i64_w, i32_w]
    rfl
  refine pure_ (i := 2) (N := some 53) (v := ?_) (a' := ?_) #[true, true, true, false, false, false, false, false, false, false, false, false, false, false, false, false, false, false, false, false, false, false, false, false, false] rfl rfl (any_of HT_.out (by kernel_rfl)) (fun _ _ _ h => h) (Or.inl ⟨by rfl, ?_⟩) ?_ ?_
  rotate_left
  · intro w'
    go_simp
    with_reducible rfl
  rotate_left
  · simp only [Act.put, List.setIfInBounds_toArray, List.set_cons_zero, List.set_cons_succ, i64_w, i32_w]
    rfl
  refine pure_ (i := 3) (N := some 54) (v := ?_) (a' := ?_) #[true, true, true, true, false, false, false, false, false, false, false, false, false, false, false, false, false, false, false, false, false, false, false, false, false] rfl rfl (any_of HT_.out (by kernel_rfl)) (fun _ _ _ h => h) (Or.inl ⟨by rfl, ?_⟩) ?_ ?_
  rotate_left
  · intro w'
    go_simp
    with_reducible rfl
  rotate_left
  · simp only [Act.put, List.setIfInBounds_toArray, List.set_cons_zero, List.set_cons_succ, i64_w, i32_w]
    rfl
  refine pure_ (i := 4) (N := some 55) (v := ?_) (a' := ?_) #[true, true, true, true, true, false, false, false, false, false, false, false, false, false, false, false, false, false, false, false, false, false, false, false, false] rfl rfl (any_of HT_.out (by kernel_rfl)) (fun _ _ _ h => h) (Or.inl ⟨by rfl, ?_⟩) ?_ ?_
  rotate_left
  · intro w'
    go_simp
    with_reducible rfl
  rotate_left
  · simp only [Act.put, List.setIfInBounds_toArray, List.set_cons_zero, List.set_cons_succ, i64_w, i32_w]
    rfl
  refine pure_ (i := 5) (N := some 56) (v := ?_) (a' := ?_) #[true, true, true, true, true, true, false, false, false, false, false, false, false, false, false, false, false, false, false, false, false, false, false, false, false] rfl rfl (any_of HT_.out (by kernel_rfl)) (fun _ _ _ h => h) (Or.inl ⟨by rfl, ?_⟩) ?_ ?_
  rotate_left
  · intro w'
    go_simp
    with_reducible rfl
  rotate_left
  · simp only [Act.put, List.setIfInBounds_toArray, List.set_cons_zero, List.set_cons_succ, i64_w, i32_w]
    rfl
  refine pure_ (i := 6) (N := some 57) (v := ?_) (a' := ?_) #[true, true, true, true, true, true, true, false, false, false, false, false, false, false, false, false, false, false, false, false, false, false, false, false, false] rfl rfl (any_of HT_.out (by kernel_rfl)) (fun _ _ _ h => h) (Or.inl ⟨by rfl, ?_⟩) ?_ ?_
  rotate_left
  · intro w'
    go_simp
    with_reducible rfl
  rotate_left
  · simp only [Act.put, List.setIfInBounds_toArray, List.set_cons_zero, List.set_cons_succ, i64_w, i32_w]
    rfl
  refine inv_at [7, 8, 9, 10, 11, 12, 13, 14, 15, 16, 17, 18, 19, 20, 21, 22, 23, 24] (fun a0_ b a w' => a = putSel a0_ b [(7, 58, undef), (8, 59, undef), (9, 60, undef), (10, 61, undef), (11, 62, undef), (12, 63, undef), (13, 64, undef), (14, 65, .bool false), (15, 66, .bool false), (16, 67, .bool false), (17, 68, .int .i64 62), (18, 69, .bool true), (19, 70, .bool true), (20, 71, .agg #[.int .u8 0, .int .u16 0, .int .u32 0, .int .u32 (dirN 0), .int .u32 (dirN 1), .int .u32 (dirN 2), .int .u32 (dirN 3), .int .u32 (dirN 4), .int .u32 (dirN 5), .int .u32 (dirN 6), .int .u32 (dirN 7), .int .u32 0, .int .u32 0]), (21, 72, .agg #[.int .u8 0, .int .u16 0, .int .u32 0, .int .u32 0, .int .u32 0, .int .u32 0, .int .u32 0, .int .u32 0, .int .u32 0, .int .u32 0, .int .u32 0, .int .u32 0, .int .u32 0]), (22, 73, .bool false), (23, 74, .bool false), (24, 75, .bool false)] ∧ (Below w2.heap.size w2 w') ∧ (w'.heap[w2.heap.size]? = some (.cells #[.int .u8 0, .int .u16 0, .int .u32 0, .int .u32 (dirN 0), .int .u32 (dirN 1), .int .u32 (dirN 2), .int .u32 (dirN 3), .int .u32 (dirN 4), .int .u32 (dirN 5), .int .u32 (dirN 6), .int .u32 (dirN 7), .int .u32 0, .int .u32 0] 48 (0, 0))) ∧ (w'.heap[w3.heap.size]? = some (.cells #[.int .i64 0, .int .i64 0, .int .i64 0, .slice B3 m3 q3] 55 (0, 0)))) HT_.out HW_.out (by kernel_rfl) (by kernel_rfl) ?_ ?_ ?_
  · exact ⟨by simp only [putSel, Bool.false_eq_true, if_false], BB.out, BX.out, BW.out⟩
  · skip
    clear BB BW BX
    refine steps_cons ?_ ?_
    · rintro b a w' ⟨ha, Q_BB, Q_BX, Q_BW⟩ hb_ hon hoff
      refine ⟨_, rfl, fun K hK => ?_⟩
      have e57 : a.tmps[57]? = some (.bool false) := by rw [ha]; exact (putSel_off rfl).trans rfl
      replace ha := Aside0.mk ha
      have BB := Aside0.mk Q_BB
      have BX := Aside0.mk Q_BX
      have BW := Aside0.mk Q_BW
      refine off_ (wanted_off rfl rfl rfl (e57.trans (by first | rfl | (simp [*]; done)))) ?_
      refine hK.out _ _ ⟨(by rw [ha.out]; exact putSel_upk 0 hb_ rfl rfl rfl), Q_BB, Q_BX, Q_BW⟩
    refine steps_cons ?_ ?_
    · rintro b a w' ⟨ha, Q_BB, Q_BX, Q_BW⟩ hb_ hon hoff
      refine ⟨_, rfl, fun K hK => ?_⟩
      have e57 : a.tmps[57]? = some (.bool false) := by rw [ha]; exact (putSel_off rfl).trans rfl
      replace ha := Aside0.mk ha
      have BB := Aside0.mk Q_BB
      have BX := Aside0.mk Q_BX
      have BW := Aside0.mk Q_BW
      refine off_ (wanted_off rfl rfl rfl (e57.trans (by first | rfl | (simp [*]; done)))) ?_
      refine hK.out _ _ ⟨(by rw [ha.out]; exact putSel_upk 1 hb_ rfl rfl rfl), Q_BB, Q_BX, Q_BW⟩
    refine steps_cons ?_ ?_
    · rintro b a w' ⟨ha, Q_BB, Q_BX, Q_BW⟩ hb_ hon hoff
      refine ⟨_, rfl, fun K hK => ?_⟩
      have e57 : a.tmps[57]? = some (.bool false) := by rw [ha]; exact (putSel_off rfl).trans rfl
      replace ha := Aside0.mk ha
      have BB := Aside0.mk Q_BB
      have BX := Aside0.mk Q_BX
      have BW := Aside0.mk Q_BW
      refine off_ (wanted_off rfl rfl rfl (e57.trans (by first | rfl | (simp [*]; done)))) ?_
      refine hK.out _ _ ⟨(by rw [ha.out]; exact putSel_upk 2 hb_ rfl rfl rfl), Q_BB, Q_BX, Q_BW⟩
    refine steps_cons ?_ ?_
    · rintro b a w' ⟨ha, Q_BB, Q_BX, Q_BW⟩ hb_ hon hoff
      refine ⟨_, rfl, fun K hK => ?_⟩
      have e57 : a.tmps[57]? = some (.bool false) := by rw [ha]; exact (putSel_off rfl).trans rfl
      replace ha := Aside0.mk ha
      have BB := Aside0.mk Q_BB
      have BX := Aside0.mk Q_BX
      have BW := Aside0.mk Q_BW
      refine off_ (wanted_off rfl rfl rfl (e57.trans (by first | rfl | (simp [*]; done)))) ?_
      refine hK.out _ _ ⟨(by rw [ha.out]; exact putSel_upk 3 hb_ rfl rfl rfl), Q_BB, Q_BX, Q_BW⟩
    refine steps_cons ?_ ?_
    · rintro b a w' ⟨ha, Q_BB, Q_BX, Q_BW⟩ hb_ hon hoff
      refine ⟨_, rfl, fun K hK => ?_⟩
      have e57 : a.tmps[57]? = some (.bool false) := by rw [ha]; exact (putSel_off rfl).trans rfl
      replace ha := Aside0.mk ha
      have BB := Aside0.mk Q_BB
      have BX := Aside0.mk Q_BX
      have BW := Aside0.mk Q_BW
      refine off_ (wanted_off rfl rfl rfl (e57.trans (by first | rfl | (simp [*]; done)))) ?_
      refine hK.out _ _ ⟨(by rw [ha.out]; exact putSel_upk 4 hb_ rfl rfl rfl), Q_BB, Q_BX, Q_BW⟩
    refine steps_cons ?_ ?_
    · rintro b a w' ⟨ha, Q_BB, Q_BX, Q_BW⟩ hb_ hon hoff
      refine ⟨_, rfl, fun K hK => ?_⟩
      have e57 : a.tmps[57]? = some (.bool false) := by rw [ha]; exact (putSel_off rfl).trans rfl
      replace ha := Aside0.mk ha
      have BB := Aside0.mk Q_BB
      have BX := Aside0.mk Q_BX
      have BW := Aside0.mk Q_BW
      refine off_ (wanted_off rfl rfl rfl (e57.trans (by first | rfl | (simp [*]; done)))) ?_
      refine hK.out _ _ ⟨(by rw [ha.out]; exact putSel_upk 5 hb_ rfl rfl rfl), Q_BB, Q_BX, Q_BW⟩
    refine steps_cons ?_ ?_
    · rintro b a w' ⟨ha, Q_BB, Q_BX, Q_BW⟩ hb_ hon hoff
      refine ⟨_, rfl, fun K hK => ?_⟩
      have e57 : a.tmps[57]? = some (.bool false) := by rw [ha]; exact (putSel_off rfl).trans rfl
      replace ha := Aside0.mk ha
      have BB := Aside0.mk Q_BB
      have BX := Aside0.mk Q_BX
      have BW := Aside0.mk Q_BW
      refine off_ (wanted_off rfl rfl rfl (e57.trans (by first | rfl | (simp [*]; done)))) ?_
      refine hK.out _ _ ⟨(by rw [ha.out]; exact putSel_upk 6 hb_ rfl rfl rfl), Q_BB, Q_BX, Q_BW⟩
    refine steps_cons ?_ ?_
    · rintro b a w' ⟨ha, Q_BB, Q_BX, Q_BW⟩ hb_ hon hoff
      refine ⟨_, rfl, fun K hK => ?_⟩
      have e57 : a.tmps[57]? = some (.bool false) := by rw [ha]; exact (putSel_off rfl).trans rfl
      have e64 : a.tmps[64]? = some (undef) := by rw [ha]; exact putSel_on (e := (13, 64, undef)) 6 rfl rfl (hon 13 (by kernel_rfl)) rfl
      have e54 : a.tmps[54]? = some (.bool false) := by rw [ha]; exact (putSel_off rfl).trans rfl
      replace ha := Aside0.mk ha
      have BB := Aside0.mk Q_BB
      have BX := Aside0.mk Q_BX
      have BW := Aside0.mk Q_BW
      refine value_ (w1 := w') (v := .bool false) (wanted_on rfl rfl rfl (e54.trans (by first | rfl | (simp [*]; done)))) rfl ?_ ?_
      · go_simp
        (try simp only [i64_w])
        try rfl
      refine hK.out _ _ ⟨(by rw [ha.out]; exact putSel_upk 7 hb_ rfl rfl rfl), Q_BB, Q_BX, Q_BW⟩
    refine steps_cons ?_ ?_
    · rintro b a w' ⟨ha, Q_BB, Q_BX, Q_BW⟩ hb_ hon hoff
      refine ⟨_, rfl, fun K hK => ?_⟩
      have e54 : a.tmps[54]? = some (.bool false) := by rw [ha]; exact (putSel_off rfl).trans rfl
      have e65 : a.tmps[65]? = some (.bool false) := by rw [ha]; exact putSel_on (e := (14, 65, .bool false)) 7 rfl rfl (hon 14 (by kernel_rfl)) rfl
      replace ha := Aside0.mk ha
      have BB := Aside0.mk Q_BB
      have BX := Aside0.mk Q_BX
      have BW := Aside0.mk Q_BW
      refine value_ (w1 := w') (v := .bool false) (by rfl) rfl ?_ ?_
      · go_simp
        (try simp only [i64_w])
        try rfl
      refine hK.out _ _ ⟨(by rw [ha.out]; exact putSel_upk 8 hb_ rfl rfl rfl), Q_BB, Q_BX, Q_BW⟩
    refine steps_cons ?_ ?_
    · rintro b a w' ⟨ha, Q_BB, Q_BX, Q_BW⟩ hb_ hon hoff
      refine ⟨_, rfl, fun K hK => ?_⟩
      have e66 : a.tmps[66]? = some (.bool false) := by rw [ha]; exact putSel_on (e := (15, 66, .bool false)) 8 rfl rfl (hon 15 (by kernel_rfl)) rfl
      replace ha := Aside0.mk ha
      have BB := Aside0.mk Q_BB
      have BX := Aside0.mk Q_BX
      have BW := Aside0.mk Q_BW
      refine value_ (w1 := w') (v := .bool false) (by rfl) rfl ?_ ?_
      · go_simp
        (try simp only [i64_w])
        try rfl
      refine hK.out _ _ ⟨(by rw [ha.out]; exact putSel_upk 9 hb_ rfl rfl rfl), Q_BB, Q_BX, Q_BW⟩
    refine steps_cons ?_ ?_
    · rintro b a w' ⟨ha, Q_BB, Q_BX, Q_BW⟩ hb_ hon hoff
      refine ⟨_, rfl, fun K hK => ?_⟩
      have e10 : a.tmps[10]? = some (.int .i64 62) := by rw [ha]; exact (putSel_off rfl).trans rfl
      have e67 : a.tmps[67]? = some (.bool false) := by rw [ha]; exact putSel_on (e := (16, 67, .bool false)) 9 rfl rfl (hon 16 (by kernel_rfl)) rfl
      replace ha := Aside0.mk ha
      have BB := Aside0.mk Q_BB
      have BX := Aside0.mk Q_BX
      have BW := Aside0.mk Q_BW
      refine value_ (w1 := w') (v := .int .i64 62) (wanted_on rfl rfl rfl (e67.trans (by first | rfl | (simp [*]; done)))) rfl ?_ ?_
      · go_simp
        (try simp only [i64_w])
        try rfl
      refine hK.out _ _ ⟨(by rw [ha.out]; exact putSel_upk 10 hb_ rfl rfl rfl), Q_BB, Q_BX, Q_BW⟩
    refine steps_cons ?_ ?_
    · rintro b a w' ⟨ha, Q_BB, Q_BX, Q_BW⟩ hb_ hon hoff
      refine ⟨_, rfl, fun K hK => ?_⟩
      have e68 : a.tmps[68]? = some (.int .i64 62) := by rw [ha]; exact putSel_on (e := (17, 68, .int .i64 62)) 10 rfl rfl (hon 17 (by kernel_rfl)) rfl
      have e67 : a.tmps[67]? = some (.bool false) := by rw [ha]; exact putSel_on (e := (16, 67, .bool false)) 9 rfl rfl (hon 16 (by kernel_rfl)) rfl
      replace ha := Aside0.mk ha
      have BB := Aside0.mk Q_BB
      have BX := Aside0.mk Q_BX
      have BW := Aside0.mk Q_BW
      refine value_ (w1 := w') (v := .bool true) (wanted_on rfl rfl rfl (e67.trans (by first | rfl | (simp [*]; done)))) rfl ?_ ?_
      · go_simp
        (try simp only [i64_w])
        try rfl
      refine hK.out _ _ ⟨(by rw [ha.out]; exact putSel_upk 11 hb_ rfl rfl rfl), Q_BB, Q_BX, Q_BW⟩
    refine steps_cons ?_ ?_
    · rintro b a w' ⟨ha, Q_BB, Q_BX, Q_BW⟩ hb_ hon hoff
      refine ⟨_, rfl, fun K hK => ?_⟩
      have e69 : a.tmps[69]? = some (.bool true) := by rw [ha]; exact putSel_on (e := (18, 69, .bool true)) 11 rfl rfl (hon 18 (by kernel_rfl)) rfl
      have e67 : a.tmps[67]? = some (.bool false) := by rw [ha]; exact putSel_on (e := (16, 67, .bool false)) 9 rfl rfl (hon 16 (by kernel_rfl)) rfl
      replace ha := Aside0.mk ha
      have BB := Aside0.mk Q_BB
      have BX := Aside0.mk Q_BX
      have BW := Aside0.mk Q_BW
      refine value_ (w1 := w') (v := .bool true) (wanted_on rfl rfl rfl (e67.trans (by first | rfl | (simp [*]; done)))) rfl ?_ ?_
      · go_simp
        (try simp only [i64_w])
        try rfl
      refine hK.out _ _ ⟨(by rw [ha.out]; exact putSel_upk 12 hb_ rfl rfl rfl), Q_BB, Q_BX, Q_BW⟩
    refine steps_cons ?_ ?_
    · rintro b a w' ⟨ha, Q_BB, Q_BX, Q_BW⟩ hb_ hon hoff
      refine ⟨_, rfl, fun K hK => ?_⟩
      have e7 : a.tmps[7]? = some (.pointer (some ⟨w2.heap.size, 0, none⟩)) := by rw [ha]; exact (putSel_off rfl).trans rfl
      have e70 : a.tmps[70]? = some (.bool true) := by rw [ha]; exact putSel_on (e := (19, 70, .bool true)) 12 rfl rfl (hon 19 (by kernel_rfl)) rfl
      replace ha := Aside0.mk ha
      have BB := Aside0.mk Q_BB
      have BX := Aside0.mk Q_BX
      have BW := Aside0.mk Q_BW
      have hc0_ : w'.cell? ⟨w2.heap.size, 0, none⟩ = some (.int .u8 0) := (blk_cell BX.out 0).trans rfl
      have hc1_ : w'.cell? ⟨w2.heap.size, 1, none⟩ = some (.int .u16 0) := (blk_cell BX.out 1).trans rfl
      have hc2_ : w'.cell? ⟨w2.heap.size, 2, none⟩ = some (.int .u32 0) := (blk_cell BX.out 2).trans rfl
      have hc3_ : w'.cell? ⟨w2.heap.size, 3, none⟩ = some (.int .u32 (dirN 0)) := (blk_cell BX.out 3).trans rfl
      have hc4_ : w'.cell? ⟨w2.heap.size, 4, none⟩ = some (.int .u32 (dirN 1)) := (blk_cell BX.out 4).trans rfl
      have hc5_ : w'.cell? ⟨w2.heap.size, 5, none⟩ = some (.int .u32 (dirN 2)) := (blk_cell BX.out 5).trans rfl
      have hc6_ : w'.cell? ⟨w2.heap.size, 6, none⟩ = some (.int .u32 (dirN 3)) := (blk_cell BX.out 6).trans rfl
      have hc7_ : w'.cell? ⟨w2.heap.size, 7, none⟩ = some (.int .u32 (dirN 4)) := (blk_cell BX.out 7).trans rfl
      have hc8_ : w'.cell? ⟨w2.heap.size, 8, none⟩ = some (.int .u32 (dirN 5)) := (blk_cell BX.out 8).trans rfl
      have hc9_ : w'.cell? ⟨w2.heap.size, 9, none⟩ = some (.int .u32 (dirN 6)) := (blk_cell BX.out 9).trans rfl
      have hc10_ : w'.cell? ⟨w2.heap.size, 10, none⟩ = some (.int .u32 (dirN 7)) := (blk_cell BX.out 10).trans rfl
      have hc11_ : w'.cell? ⟨w2.heap.size, 11, none⟩ = some (.int .u32 0) := (blk_cell BX.out 11).trans rfl
      have hc12_ : w'.cell? ⟨w2.heap.size, 12, none⟩ = some (.int .u32 0) := (blk_cell BX.out 12).trans rfl
      refine value_ (w1 := w') (v := .agg #[.int .u8 0, .int .u16 0, .int .u32 0, .int .u32 (dirN 0), .int .u32 (dirN 1), .int .u32 (dirN 2), .int .u32 (dirN 3), .int .u32 (dirN 4), .int .u32 (dirN 5), .int .u32 (dirN 6), .int .u32 (dirN 7), .int .u32 0, .int .u32 0]) (wanted_on rfl rfl rfl (e70.trans (by first | rfl | (simp [*]; done)))) rfl ?_ ?_
      · go_simp
        (try simp only [i64_w])
        try rfl
      refine hK.out _ _ ⟨(by rw [ha.out]; exact putSel_upk 13 hb_ rfl rfl rfl), Q_BB, Q_BX, Q_BW⟩
    refine steps_cons ?_ ?_
    · rintro b a w' ⟨ha, Q_BB, Q_BX, Q_BW⟩ hb_ hon hoff
      refine ⟨_, rfl, fun K hK => ?_⟩
      have e70 : a.tmps[70]? = some (.bool true) := by rw [ha]; exact putSel_on (e := (19, 70, .bool true)) 12 rfl rfl (hon 19 (by kernel_rfl)) rfl
      replace ha := Aside0.mk ha
      have BB := Aside0.mk Q_BB
      have BX := Aside0.mk Q_BX
      have BW := Aside0.mk Q_BW
      refine value_ (w1 := w') (v := .agg #[.int .u8 0, .int .u16 0, .int .u32 0, .int .u32 0, .int .u32 0, .int .u32 0, .int .u32 0, .int .u32 0, .int .u32 0, .int .u32 0, .int .u32 0, .int .u32 0, .int .u32 0]) (wanted_on rfl rfl rfl (e70.trans (by first | rfl | (simp [*]; done)))) rfl ?_ ?_
      · go_simp
        (try simp only [i64_w])
        try rfl
      refine hK.out _ _ ⟨(by rw [ha.out]; exact putSel_upk 14 hb_ rfl rfl rfl), Q_BB, Q_BX, Q_BW⟩
    refine steps_cons ?_ ?_
    · rintro b a w' ⟨ha, Q_BB, Q_BX, Q_BW⟩ hb_ hon hoff
      refine ⟨_, rfl, fun K hK => ?_⟩
      have e71 : a.tmps[71]? = some (.agg #[.int .u8 0, .int .u16 0, .int .u32 0, .int .u32 (dirN 0), .int .u32 (dirN 1), .int .u32 (dirN 2), .int .u32 (dirN 3), .int .u32 (dirN 4), .int .u32 (dirN 5), .int .u32 (dirN 6), .int .u32 (dirN 7), .int .u32 0, .int .u32 0]) := by rw [ha]; exact putSel_on (e := (20, 71, .agg #[.int .u8 0, .int .u16 0, .int .u32 0, .int .u32 (dirN 0), .int .u32 (dirN 1), .int .u32 (dirN 2), .int .u32 (dirN 3), .int .u32 (dirN 4), .int .u32 (dirN 5), .int .u32 (dirN 6), .int .u32 (dirN 7), .int .u32 0, .int .u32 0])) 13 rfl rfl (hon 20 (by kernel_rfl)) rfl
      have e72 : a.tmps[72]? = some (.agg #[.int .u8 0, .int .u16 0, .int .u32 0, .int .u32 0, .int .u32 0, .int .u32 0, .int .u32 0, .int .u32 0, .int .u32 0, .int .u32 0, .int .u32 0, .int .u32 0, .int .u32 0]) := by rw [ha]; exact putSel_on (e := (21, 72, .agg #[.int .u8 0, .int .u16 0, .int .u32 0, .int .u32 0, .int .u32 0, .int .u32 0, .int .u32 0, .int .u32 0, .int .u32 0, .int .u32 0, .int .u32 0, .int .u32 0, .int .u32 0])) 14 rfl rfl (hon 21 (by kernel_rfl)) rfl
      have e70 : a.tmps[70]? = some (.bool true) := by rw [ha]; exact putSel_on (e := (19, 70, .bool true)) 12 rfl rfl (hon 19 (by kernel_rfl)) rfl
      replace ha := Aside0.mk ha
      have BB := Aside0.mk Q_BB
      have BX := Aside0.mk Q_BX
      have BW := Aside0.mk Q_BW
      refine value_ (w1 := w') (v := .bool false) (wanted_on rfl rfl rfl (e70.trans (by first | rfl | (simp [*]; done)))) rfl ?_ ?_
      · have hneq := fun w_ => HNE.out w_
        first | exact HNE.out w' | (simp only [go_sem, hneq]; done) | (go_simp; exact HNE.out w') | (go_simp; rw [eq8z]; rfl)
      refine hK.out _ _ ⟨(by rw [ha.out]; exact putSel_upk 15 hb_ rfl rfl rfl), Q_BB, Q_BX, Q_BW⟩
    refine steps_cons ?_ ?_
    · rintro b a w' ⟨ha, Q_BB, Q_BX, Q_BW⟩ hb_ hon hoff
      refine ⟨_, rfl, fun K hK => ?_⟩
      have e70 : a.tmps[70]? = some (.bool true) := by rw [ha]; exact putSel_on (e := (19, 70, .bool true)) 12 rfl rfl (hon 19 (by kernel_rfl)) rfl
      have e73 : a.tmps[73]? = some (.bool false) := by rw [ha]; exact putSel_on (e := (22, 73, .bool false)) 15 rfl rfl (hon 22 (by kernel_rfl)) rfl
      have e67 : a.tmps[67]? = some (.bool false) := by rw [ha]; exact putSel_on (e := (16, 67, .bool false)) 9 rfl rfl (hon 16 (by kernel_rfl)) rfl
      replace ha := Aside0.mk ha
      have BB := Aside0.mk Q_BB
      have BX := Aside0.mk Q_BX
      have BW := Aside0.mk Q_BW
      refine value_ (w1 := w') (v := .bool false) (wanted_on rfl rfl rfl (e67.trans (by first | rfl | (simp [*]; done)))) rfl ?_ ?_
      · go_simp
        (try simp only [i64_w])
        try rfl
      refine hK.out _ _ ⟨(by rw [ha.out]; exact putSel_upk 16 hb_ rfl rfl rfl), Q_BB, Q_BX, Q_BW⟩
    refine steps_cons ?_ ?_
    · rintro b a w' ⟨ha, Q_BB, Q_BX, Q_BW⟩ hb_ hon hoff
      refine ⟨_, rfl, fun K hK => ?_⟩
      have e67 : a.tmps[67]? = some (.bool false) := by rw [ha]; exact putSel_on (e := (16, 67, .bool false)) 9 rfl rfl (hon 16 (by kernel_rfl)) rfl
      have e74 : a.tmps[74]? = some (.bool false) := by rw [ha]; exact putSel_on (e := (23, 74, .bool false)) 16 rfl rfl (hon 23 (by kernel_rfl)) rfl
      replace ha := Aside0.mk ha
      have BB := Aside0.mk Q_BB
      have BX := Aside0.mk Q_BX
      have BW := Aside0.mk Q_BW
      refine value_ (w1 := w') (v := .bool false) (by rfl) rfl ?_ ?_
      · go_simp
        (try simp only [i64_w])
        try rfl
      refine hK.out _ _ ⟨(by rw [ha.out]; exact putSel_upk 17 hb_ rfl rfl rfl), Q_BB, Q_BX, Q_BW⟩
    exact steps_nil
  · rintro b a w' hall ⟨ha, Q_BB, Q_BX, Q_BW⟩
    clear BB BW BX
    have hb7_ := hall 7 (by kernel_rfl)
    have hb8_ := hall 8 (by kernel_rfl)
    have hb9_ := hall 9 (by kernel_rfl)
    have hb10_ := hall 10 (by kernel_rfl)
    have hb11_ := hall 11 (by kernel_rfl)
    have hb12_ := hall 12 (by kernel_rfl)
    have hb13_ := hall 13 (by kernel_rfl)
    have hb14_ := hall 14 (by kernel_rfl)
    have hb15_ := hall 15 (by kernel_rfl)
    have hb16_ := hall 16 (by kernel_rfl)
    have hb17_ := hall 17 (by kernel_rfl)
    have hb18_ := hall 18 (by kernel_rfl)
    have hb19_ := hall 19 (by kernel_rfl)
    have hb20_ := hall 20 (by kernel_rfl)
    have hb21_ := hall 21 (by kernel_rfl)
    have hb22_ := hall 22 (by kernel_rfl)
    have hb23_ := hall 23 (by kernel_rfl)
    have hb24_ := hall 24 (by kernel_rfl)
    subst ha
    simp only [putSel, hb7_, hb8_, hb9_, hb10_, hb11_, hb12_, hb13_, hb14_, hb15_, hb16_, hb17_, hb18_, hb19_, hb20_, hb21_, hb22_, hb23_, hb24_, if_true, Act.put, List.setIfInBounds_toArray, List.set_cons_zero, List.set_cons_succ]
    have BB := Aside0.mk Q_BB
    clear Q_BB
    have BX := Aside0.mk Q_BX
    clear Q_BX
    have BW := Aside0.mk Q_BW
    clear Q_BW
    clear hall hb7_ hb8_ hb9_ hb10_ hb11_ hb12_ hb13_ hb14_ hb15_ hb16_ hb17_ hb18_ hb19_ hb20_ hb21_ hb22_ hb23_ hb24_
    have TB := Lib.hid BB.out
    have BX6 := Lib.hid BX.out
    have BW6 := Lib.hid BW.out
    clear BB BX BW
    have Bn6 := Lib.hid (blk_below Bn2.out TB.out)
    have T6 := Lib.hid (bl_seq T2.out TB.out)
    have n0 : w'.cell? ⟨W.heap.size, 0, none⟩ = some (.int .u8 k) := (blk_cell Bn6.out 0).trans rfl
    have n1 : w'.cell? ⟨W.heap.size, 1, none⟩ = some (.int .u16 l) := (blk_cell Bn6.out 1).trans rfl
    have n2 : w'.cell? ⟨W.heap.size, 2, none⟩ = some (.int .u32 s) := (blk_cell Bn6.out 2).trans rfl
    have n3 : w'.cell? ⟨W.heap.size, 3, none⟩ = some (.int .u32 (d 0)) := (blk_cell Bn6.out 3).trans rfl
    have n4 : w'.cell? ⟨W.heap.size, 4, none⟩ = some (.int .u32 (d 1)) := (blk_cell Bn6.out 4).trans rfl
    have n5 : w'.cell? ⟨W.heap.size, 5, none⟩ = some (.int .u32 (d 2)) := (blk_cell Bn6.out 5).trans rfl
    have n6 : w'.cell? ⟨W.heap.size, 6, none⟩ = some (.int .u32 (d 3)) := (blk_cell Bn6.out 6).trans rfl
    have n7 : w'.cell? ⟨W.heap.size, 7, none⟩ = some (.int .u32 (d 4)) := (blk_cell Bn6.out 7).trans rfl
    have n8 : w'.cell? ⟨W.heap.size, 8, none⟩ = some (.int .u32 (d 5)) := (blk_cell Bn6.out 8).trans rfl
    have n9 : w'.cell? ⟨W.heap.size, 9, none⟩ = some (.int .u32 (d 6)) := (blk_cell Bn6.out 9).trans rfl
    have n10 : w'.cell? ⟨W.heap.size, 10, none⟩ = some (.int .u32 (d 7)) := (blk_cell Bn6.out 10).trans rfl
    have n11 : w'.cell? ⟨W.heap.size, 11, none⟩ = some (.int .u32 na) := (blk_cell Bn6.out 11).trans rfl
    have n12 : w'.cell? ⟨W.heap.size, 12, none⟩ = some (.int .u32 nb) := (blk_cell Bn6.out 12).trans rfl
    go_wp2_with fail
    refine (of_enc k l s d na nb w' k0 k1 l0 l1 s0 s1 HD.out a0 a1 b0 b1).mono ?_
    rintro e w11 ⟨A9, c9, rfl, hc9, hr9, hb9⟩
    have R9 := Lib.hid (And.intro hr9 hb9)
    clear hr9 hb9 n0 n1 n2 n3 n4 n5 n6 n7 n8 n9 n10 n11 n12
    go_wp2_with fail
    refine (rEncode17 k l s (ats d na nb) A9 c9 w11 R9.out.1 hc9 (ats_bound HD.out a0 a1 b0 b1) l0 l1 s0 s1).mono ?_
    rintro e w12 ⟨v12, rfl, hn12⟩
    obtain ⟨A12, c12, rfl, hc12⟩ := hn12.slice
    rw [encL_len k l s _ (ats_get d na nb)] at hc12 ⊢
    have T12 := Lib.hid (bl_seq (bl_seq T6.out R9.out.2) hn12.bel)
    have TB12 := Lib.hid (bl_seq (bl_seq TB.out R9.out.2) hn12.bel)
    have BX12 := Lib.hid (blk_below (blk_below BX6.out R9.out.2) hn12.bel)
    have BW12 := Lib.hid (blk_below (blk_below BW6.out R9.out.2) hn12.bel)
    have HL0 : Hid (LpR w3 w12 A12 c12 (encL k l s (ats d na nb))) := Lib.hid ⟨encL_len k l s _ (ats_get d na nb), encL_byt _ _ _ _, hc12, by have h_ := hn12.reads; rw [encL_len k l s _ (ats_get d na nb)] at h_; exact h_, fun q hq => ⟨by have h1 := hn12.far (k := q.block) (by rw [hq]; rfl); have h2 := R9.out.2.size; have h3 := blk_lt BW6.out; omega, (hn12.1.lt q.block (by rw [hq]; rfl)).2⟩⟩
    clear hn12
    go_wp2_with fail
    go_loopw [11, 12] (fun v i wr => ∃ (j : Nat) (A' : Option Addr) (c' : Nat) (L : List Int), j ≤ ts.length ∧ i = .int .i64 (j : Int) ∧ v = .slice A' 64 c' ∧ Hid (LpR w3 wr A' c' L) ∧ Hid (Below w12.heap.size w12 wr)) (fun _ i _ => ts.length - (intOf i).toNat)
    case atStart => exact ⟨0, A12, c12, _, Nat.zero_le _, rfl, rfl, HL0, Lib.hid (Below.refl _ _)⟩
    case round =>
      obtain ⟨j, A', c', L, hj, rfl, rfl, HL, HW⟩ := hrel
      clear HL0
      by_cases hlt : j < ts.length
      · have rt12 := (HX.out.2.2.2.1.below T12.out).below HW.out
        have ru12 := (HX.out.2.2.2.2.1.below T12.out).below HW.out
        obtain ⟨at_, het, hct⟩ := rt12.at_ (j : Int) (by omega) (by omega)
        obtain ⟨au, heu, hcu⟩ := ru12.at_ (j : Int) (by omega) (by omega)
        rw [Int.toNat_natCast, rd_getD] at hct hcu
        have hjt : j < ts.length := hlt
        have hju : j < us.length := by omega
        have bt := HX.out.2.2.2.2.2.2 (ts.getD j 0) (by rw [List.getD_eq_getElem?_getD, List.getElem?_eq_getElem hjt]; exact List.getElem_mem hjt)
        have bu := HX.out.2.2.2.2.2.1 (us.getD j 0) (by rw [List.getD_eq_getElem?_getD, List.getElem?_eq_getElem hju]; exact List.getElem_mem hju)
        obtain ⟨t, htt⟩ : ∃ t, ts.getD j 0 = t := ⟨_, rfl⟩
        obtain ⟨u, huu⟩ : ∃ u, us.getD j 0 = u := ⟨_, rfl⟩
        rw [htt] at hct bt
        rw [huu] at hcu bu
        clear htt huu rt12 ru12
        obtain ⟨p, hp1, hp2, hp3⟩ := rem64 t
        obtain ⟨y, hy1, hy2⟩ : ∃ y, IntKind.u64.wrap t = y ∧ y.tmod 64 = p := ⟨_, rfl, hp1⟩
        have hpw : IntKind.i64.wrap p = p := by rw [IntKind.wrap_i64]; omega
        obtain ⟨p0, rfl⟩ := Int.eq_ofNat_of_zero_le hp2
        obtain rfl := het
        obtain rfl := heu
        have i0 : (0 : Int) ≤ (j : Int) := by omega
        have i1 : (j : Int) < (ts.length : Int) := by omega
        have i2 : (j : Int) < (us.length : Int) := by omega
        clear hp1 bt
        go_wp2
        go_region_held3 (fun w' => w'.cell? (at_.add j) = some (.int .i64 t) ∧ w'.cell? (au.add j) = some (.int .u8 u)) (go_keep)
          (first | (go_at_call 21; (with_reducible refine (with64 L u A' c' _ p0 wr _ HL.out (by have h1 := blk_lt BW12.out; have h2 := HW.out.size; omega) bu (by omega) (by rfl)).mono ?_); rintro e w13 ⟨A13, c13, rfl, hl13, hb13⟩; have L13 := Lib.hid (And.intro hl13 hb13); have hq1 := pw_cell_below hb13 hct; have hq2 := pw_cell_below hb13 hcu; clear hl13 hb13) | fail)
        go_wp2
        go_roundw
        case rel => exact ⟨j + 1, A13, c13, _, by omega, by go_num, rfl, Lib.hid L13.out.1, Lib.hid (HW.out.trans (L13.out.2.mono HW.out.size))⟩
        case measure => simp [intOf]; omega
      · obtain rfl : j = ts.length := by omega
        have BX13 := Lib.hid (blk_below BX12.out HW.out)
        have BW13 := Lib.hid (blk_below BW12.out HW.out)
        have T13 := Lib.hid (bl_seq T12.out HW.out)
        go_wp2_with fail
        have hdr := decode_r A' c' L wr (by rw [HL.out.1]; exact HL.out.2.2.2.1) HL.out.2.1 (by rw [HL.out.1]; exact HL.out.2.2.1) (fun q hq => (HL.out.2.2.2.2 q hq).2)
        rw [HL.out.1] at hdr
        refine hdr.mono ?_
        clear hdr
        rintro e w14 ⟨hb14, k4, l4, s4, d4, a4, b4, q4, he, hR4, hB4⟩
        have T14 := Lib.hid (bl_seq T13.out hb14)
        have BX14 := Lib.hid (blk_below BX13.out hb14)
        have BW14 := Lib.hid (blk_below BW13.out hb14)
        have RL14 := Lib.hid (HL.out.2.2.2.1.below hb14)
        have IB4 := Lib.hid (show ((0 ≤ k4 ∧ k4 < 256) ∧ (0 ≤ l4 ∧ l4 < 65536) ∧ (0 ≤ s4 ∧ s4 < 4294967296) ∧ (∀ j, 0 ≤ d4 j ∧ d4 j < 4294967296) ∧ (0 ≤ a4 ∧ a4 < 4294967296) ∧ (0 ≤ b4 ∧ b4 < 4294967296)) from hB4)
        have HR4 := Lib.hid hR4
        simp only [decA] at he
        subst he
        clear hb14 hB4 hR4
        have x0 : w14.cell? ⟨w2.heap.size, 0, none⟩ = some (.int .u8 0) := (blk_cell BX14.out 0).trans rfl
        have x1 : w14.cell? ⟨w2.heap.size, 1, none⟩ = some (.int .u16 0) := (blk_cell BX14.out 1).trans rfl
        have x2 : w14.cell? ⟨w2.heap.size, 2, none⟩ = some (.int .u32 0) := (blk_cell BX14.out 2).trans rfl
        have x3 : w14.cell? ⟨w2.heap.size, 3, none⟩ = some (.int .u32 (dirN 0)) := (blk_cell BX14.out 3).trans rfl
        have x4 : w14.cell? ⟨w2.heap.size, 4, none⟩ = some (.int .u32 (dirN 1)) := (blk_cell BX14.out 4).trans rfl
        have x5 : w14.cell? ⟨w2.heap.size, 5, none⟩ = some (.int .u32 (dirN 2)) := (blk_cell BX14.out 5).trans rfl
        have x6 : w14.cell? ⟨w2.heap.size, 6, none⟩ = some (.int .u32 (dirN 3)) := (blk_cell BX14.out 6).trans rfl
        have x7 : w14.cell? ⟨w2.heap.size, 7, none⟩ = some (.int .u32 (dirN 4)) := (blk_cell BX14.out 7).trans rfl
        have x8 : w14.cell? ⟨w2.heap.size, 8, none⟩ = some (.int .u32 (dirN 5)) := (blk_cell BX14.out 8).trans rfl
        have x9 : w14.cell? ⟨w2.heap.size, 9, none⟩ = some (.int .u32 (dirN 6)) := (blk_cell BX14.out 9).trans rfl
        have x10 : w14.cell? ⟨w2.heap.size, 10, none⟩ = some (.int .u32 (dirN 7)) := (blk_cell BX14.out 10).trans rfl
        have x11 : w14.cell? ⟨w2.heap.size, 11, none⟩ = some (.int .u32 0) := (blk_cell BX14.out 11).trans rfl
        have x12 : w14.cell? ⟨w2.heap.size, 12, none⟩ = some (.int .u32 0) := (blk_cell BX14.out 12).trans rfl
        have fx0 := blk_frozen BX14.out 0
        have fx1 := blk_frozen BX14.out 1
        have fx2 := blk_frozen BX14.out 2
        have fx3 := blk_frozen BX14.out 3
        have fx4 := blk_frozen BX14.out 4
        have fx5 := blk_frozen BX14.out 5
        have fx6 := blk_frozen BX14.out 6
        have fx7 := blk_frozen BX14.out 7
        have fx8 := blk_frozen BX14.out 8
        have fx9 := blk_frozen BX14.out 9
        have fx10 := blk_frozen BX14.out 10
        have fx11 := blk_frozen BX14.out 11
        have fx12 := blk_frozen BX14.out 12
        go_wp2_with fail
        have hf := put13 BX14.out (.int .u8 k4) (.int .u16 l4) (.int .u32 s4) (.int .u32 (d4 0)) (.int .u32 (d4 1)) (.int .u32 (d4 2)) (.int .u32 (d4 3)) (.int .u32 (d4 4)) (.int .u32 (d4 5)) (.int .u32 (d4 6)) (.int .u32 (d4 7)) (.int .u32 a4) (.int .u32 b4)
        have hM := mods13 (S := fun i => i = w2.heap.size) (Mods.refl _ w14) rfl (.int .u8 k4) (.int .u16 l4) (.int .u32 s4) (.int .u32 (d4 0)) (.int .u32 (d4 1)) (.int .u32 (d4 2)) (.int .u32 (d4 3)) (.int .u32 (d4 4)) (.int .u32 (d4 5)) (.int .u32 (d4 6)) (.int .u32 (d4 7)) (.int .u32 a4) (.int .u32 b4)
        obtain ⟨w15, hw15⟩ : ∃ w15, (((((((((((((w14.setCell ⟨w2.heap.size, 0, none⟩ (.int .u8 k4)).setCell ⟨w2.heap.size, 1, none⟩ (.int .u16 l4)).setCell ⟨w2.heap.size, 2, none⟩ (.int .u32 s4)).setCell ⟨w2.heap.size, 3, none⟩ (.int .u32 (d4 0))).setCell ⟨w2.heap.size, 4, none⟩ (.int .u32 (d4 1))).setCell ⟨w2.heap.size, 5, none⟩ (.int .u32 (d4 2))).setCell ⟨w2.heap.size, 6, none⟩ (.int .u32 (d4 3))).setCell ⟨w2.heap.size, 7, none⟩ (.int .u32 (d4 4))).setCell ⟨w2.heap.size, 8, none⟩ (.int .u32 (d4 5))).setCell ⟨w2.heap.size, 9, none⟩ (.int .u32 (d4 6))).setCell ⟨w2.heap.size, 10, none⟩ (.int .u32 (d4 7))).setCell ⟨w2.heap.size, 11, none⟩ (.int .u32 a4)).setCell ⟨w2.heap.size, 12, none⟩ (.int .u32 b4)) = w15 := ⟨_, rfl⟩
        rw [hw15] at hf hM ⊢
        have BX15 := Lib.hid hf
        have hne : ¬ w3.heap.size = w2.heap.size := by have h1 := blk_lt BX12.out; have h2 := hx23.out; omega
        have BW15 := Lib.hid (hM.blk BW14.out hne)
        have RL15 := Lib.hid (hM.reads RL14.out (fun q hq e => by have h1 := (HL.out.2.2.2.2 q hq).1; have h2 := hx23.out; omega))
        have T15 : Hid (Below w.heap.size w w15) := Lib.hid (T14.out.trans (hM.below (B := w.heap.size) (by have h_ := T14.out.size; omega) (by rintro i rfl; have h_ := T2.out.size; omega)))
        clear hf hM hw15 x0 x1 x2 x3 x4 x5 x6 x7 x8 x9 x10 x11 x12 fx0 fx1 fx2 fx3 fx4 fx5 fx6 fx7 fx8 fx9 fx10 fx11 fx12
        rcases HR4.out with ⟨hok4, rfl, henc4, hdec4⟩ | ⟨hok4, rfl, rfl, rfl, rfl, rfl, rfl, rfl, hdec4⟩
        · have HQ4 := Lib.hid henc4
          clear hok4 henc4
          refine (dec17_ok L k4 l4 s4 (ats d4 a4 b4) (ats_get d4 a4 b4) A' 64 c' w15 HL.out.1 RL15.out HL.out.2.2.1 HL.out.2.1 hdec4).mono ?_
          rintro e w16 ⟨A16, c16, rfl, hc16, hr16, hb16⟩
          have T16 := Lib.hid (bl_seq T15.out hb16)
          have BX16 := Lib.hid (blk_below BX15.out hb16)
          have BW16 := Lib.hid (blk_below BW15.out hb16)
          have RL16 := Lib.hid (RL15.out.below hb16)
          clear hr16 hb16 hdec4
          have y0 : w16.cell? ⟨w3.heap.size, 0, none⟩ = some (.int .i64 0) := (blk_cell BW16.out 0).trans rfl
          have y1 : w16.cell? ⟨w3.heap.size, 1, none⟩ = some (.int .i64 0) := (blk_cell BW16.out 1).trans rfl
          have y2 : w16.cell? ⟨w3.heap.size, 2, none⟩ = some (.int .i64 0) := (blk_cell BW16.out 2).trans rfl
          have y3 : w16.cell? ⟨w3.heap.size, 3, none⟩ = some (.slice B3 m3 q3) := (blk_cell BW16.out 3).trans rfl
          have fy0 := blk_frozen BW16.out 0
          have fy1 := blk_frozen BW16.out 1
          have fy2 := blk_frozen BW16.out 2
          have fy3 := blk_frozen BW16.out 3
          have x0 : w16.cell? ⟨w2.heap.size, 0, none⟩ = some (.int .u8 k4) := (blk_cell BX16.out 0).trans rfl
          have x1 : w16.cell? ⟨w2.heap.size, 1, none⟩ = some (.int .u16 l4) := (blk_cell BX16.out 1).trans rfl
          have x2 : w16.cell? ⟨w2.heap.size, 2, none⟩ = some (.int .u32 s4) := (blk_cell BX16.out 2).trans rfl
          have x3 : w16.cell? ⟨w2.heap.size, 3, none⟩ = some (.int .u32 (d4 0)) := (blk_cell BX16.out 3).trans rfl
          have x4 : w16.cell? ⟨w2.heap.size, 4, none⟩ = some (.int .u32 (d4 1)) := (blk_cell BX16.out 4).trans rfl
          have x5 : w16.cell? ⟨w2.heap.size, 5, none⟩ = some (.int .u32 (d4 2)) := (blk_cell BX16.out 5).trans rfl
          have x6 : w16.cell? ⟨w2.heap.size, 6, none⟩ = some (.int .u32 (d4 3)) := (blk_cell BX16.out 6).trans rfl
          have x7 : w16.cell? ⟨w2.heap.size, 7, none⟩ = some (.int .u32 (d4 4)) := (blk_cell BX16.out 7).trans rfl
          have x8 : w16.cell? ⟨w2.heap.size, 8, none⟩ = some (.int .u32 (d4 5)) := (blk_cell BX16.out 8).trans rfl
          have x9 : w16.cell? ⟨w2.heap.size, 9, none⟩ = some (.int .u32 (d4 6)) := (blk_cell BX16.out 9).trans rfl
          have x10 : w16.cell? ⟨w2.heap.size, 10, none⟩ = some (.int .u32 (d4 7)) := (blk_cell BX16.out 10).trans rfl
          have x11 : w16.cell? ⟨w2.heap.size, 11, none⟩ = some (.int .u32 a4) := (blk_cell BX16.out 11).trans rfl
          have x12 : w16.cell? ⟨w2.heap.size, 12, none⟩ = some (.int .u32 b4) := (blk_cell BX16.out 12).trans rfl
          have hne' : ¬ w2.heap.size = w3.heap.size := Ne.symm hne
          go_wp2_with fail
          have hf := put4 BW16.out (.int .i64 k4) (.int .i64 l4) (.int .i64 s4) (.slice A16 10 c16)
          have hM := mods4 (S := fun i => i = w3.heap.size) (Mods.refl _ w16) rfl (.int .i64 k4) (.int .i64 l4) (.int .i64 s4) (.slice A16 10 c16)
          obtain ⟨w17, hw17⟩ : ∃ w17, ((((w16.setCell ⟨w3.heap.size, 0, none⟩ (.int .i64 k4)).setCell ⟨w3.heap.size, 1, none⟩ (.int .i64 l4)).setCell ⟨w3.heap.size, 2, none⟩ (.int .i64 s4)).setCell ⟨w3.heap.size, 3, none⟩ (.slice A16 10 c16)) = w17 := ⟨_, rfl⟩
          rw [hw17] at hf hM ⊢
          have BW17 := Lib.hid hf
          have BX17 := Lib.hid (hM.blk BX16.out (Ne.symm hne))
          have RL17 := Lib.hid (hM.reads RL16.out (fun q hq e => by have h1 := (HL.out.2.2.2.2 q hq).1; omega))
          have T17 : Hid (Below w.heap.size w w17) := Lib.hid (T16.out.trans (hM.below (B := w.heap.size) (by have h_ := T16.out.size; omega) (by rintro i rfl; have h_ := T2.out.size; have h2 := hx23.out; omega)))
          clear hf hM hw17 y0 y1 y2 y3 fy0 fy1 fy2 fy3
          refine (of_enc k4 l4 s4 d4 a4 b4 w17 IB4.out.1.1 IB4.out.1.2 IB4.out.2.1.1 IB4.out.2.1.2 IB4.out.2.2.1.1 IB4.out.2.2.1.2 IB4.out.2.2.2.1 IB4.out.2.2.2.2.1.1 IB4.out.2.2.2.2.1.2 IB4.out.2.2.2.2.2.1 IB4.out.2.2.2.2.2.2).mono ?_
          rintro e w18 ⟨A18, c18, rfl, hc18, hr18, hb18⟩
          have R18 := Lib.hid (And.intro hr18 hb18)
          clear hr18 hb18 x0 x1 x2 x3 x4 x5 x6 x7 x8 x9 x10 x11 x12
          go_wp2_with fail
          refine (rEncode17 k4 l4 s4 (ats d4 a4 b4) A18 c18 w18 R18.out.1 hc18 (ats_bound IB4.out.2.2.2.1 IB4.out.2.2.2.2.1.1 IB4.out.2.2.2.2.1.2 IB4.out.2.2.2.2.2.1 IB4.out.2.2.2.2.2.2) IB4.out.2.1.1 IB4.out.2.1.2 IB4.out.2.2.1.1 IB4.out.2.2.1.2).mono ?_
          rintro e w19 ⟨v19, rfl, hn19⟩
          rw [HQ4.out] at hn19
          obtain ⟨A19, c19, rfl, _⟩ := hn19.slice
          have r19 := hn19.reads
          rw [HL.out.1] at r19 ⊢
          have N19 := Lib.hid (And.intro r19 hn19.bel)
          clear hn19 r19
          go_wp2_with fail
          refine (same_self L A19 A' 64 64 c19 c' w19 N19.out.1 ((RL17.out.below R18.out.2).below N19.out.2) HL.out.2.1).mono ?_
          rintro e w20 ⟨rfl, hd20⟩
          have BX20 := Lib.hid (blk_below (blk_below (blk_below BX17.out R18.out.2) N19.out.2) hd20.below)
          have BW20 := Lib.hid (blk_below (blk_below (blk_below BW17.out R18.out.2) N19.out.2) hd20.below)
          have T20 := Lib.hid (bl_seq (bl_seq (bl_seq T17.out R18.out.2) N19.out.2) hd20.below)
          clear hd20
          have x0 : w20.cell? ⟨w2.heap.size, 0, none⟩ = some (.int .u8 k4) := (blk_cell BX20.out 0).trans rfl
          have x1 : w20.cell? ⟨w2.heap.size, 1, none⟩ = some (.int .u16 l4) := (blk_cell BX20.out 1).trans rfl
          have x2 : w20.cell? ⟨w2.heap.size, 2, none⟩ = some (.int .u32 s4) := (blk_cell BX20.out 2).trans rfl
          have x3 : w20.cell? ⟨w2.heap.size, 3, none⟩ = some (.int .u32 (d4 0)) := (blk_cell BX20.out 3).trans rfl
          have x4 : w20.cell? ⟨w2.heap.size, 4, none⟩ = some (.int .u32 (d4 1)) := (blk_cell BX20.out 4).trans rfl
          have x5 : w20.cell? ⟨w2.heap.size, 5, none⟩ = some (.int .u32 (d4 2)) := (blk_cell BX20.out 5).trans rfl
          have x6 : w20.cell? ⟨w2.heap.size, 6, none⟩ = some (.int .u32 (d4 3)) := (blk_cell BX20.out 6).trans rfl
          have x7 : w20.cell? ⟨w2.heap.size, 7, none⟩ = some (.int .u32 (d4 4)) := (blk_cell BX20.out 7).trans rfl
          have x8 : w20.cell? ⟨w2.heap.size, 8, none⟩ = some (.int .u32 (d4 5)) := (blk_cell BX20.out 8).trans rfl
          have x9 : w20.cell? ⟨w2.heap.size, 9, none⟩ = some (.int .u32 (d4 6)) := (blk_cell BX20.out 9).trans rfl
          have x10 : w20.cell? ⟨w2.heap.size, 10, none⟩ = some (.int .u32 (d4 7)) := (blk_cell BX20.out 10).trans rfl
          have x11 : w20.cell? ⟨w2.heap.size, 11, none⟩ = some (.int .u32 a4) := (blk_cell BX20.out 11).trans rfl
          have x12 : w20.cell? ⟨w2.heap.size, 12, none⟩ = some (.int .u32 b4) := (blk_cell BX20.out 12).trans rfl
          have y0 : w20.cell? ⟨w3.heap.size, 0, none⟩ = some (.int .i64 k4) := (blk_cell BW20.out 0).trans rfl
          have y1 : w20.cell? ⟨w3.heap.size, 1, none⟩ = some (.int .i64 l4) := (blk_cell BW20.out 1).trans rfl
          have y2 : w20.cell? ⟨w3.heap.size, 2, none⟩ = some (.int .i64 s4) := (blk_cell BW20.out 2).trans rfl
          have y3 : w20.cell? ⟨w3.heap.size, 3, none⟩ = some (.slice A16 10 c16) := (blk_cell BW20.out 3).trans rfl
          have hkw : IntKind.i64.wrap k4 = k4 := by have h_ := IB4.out.1; rw [IntKind.wrap_i64]; omega
          have hk0 := IB4.out.1.1
          have hk1 := IB4.out.1.2
          go_wp2_with fail
          go_ret
          exact ⟨by simp, T20.out⟩
        · clear hok4
          refine (dec17_no L A' 64 c' w15 HL.out.1 RL15.out HL.out.2.2.1 HL.out.2.1 hdec4).mono ?_
          rintro e w16 ⟨B16, m16, q16, rfl, hb16⟩
          have T16 := Lib.hid (bl_seq T15.out hb16)
          have BW16 := Lib.hid (blk_below BW15.out hb16)
          clear hb16 hdec4
          have y0 : w16.cell? ⟨w3.heap.size, 0, none⟩ = some (.int .i64 0) := (blk_cell BW16.out 0).trans rfl
          have y1 : w16.cell? ⟨w3.heap.size, 1, none⟩ = some (.int .i64 0) := (blk_cell BW16.out 1).trans rfl
          have y2 : w16.cell? ⟨w3.heap.size, 2, none⟩ = some (.int .i64 0) := (blk_cell BW16.out 2).trans rfl
          have y3 : w16.cell? ⟨w3.heap.size, 3, none⟩ = some (.slice B3 m3 q3) := (blk_cell BW16.out 3).trans rfl
          have fy0 := blk_frozen BW16.out 0
          have fy1 := blk_frozen BW16.out 1
          have fy2 := blk_frozen BW16.out 2
          have fy3 := blk_frozen BW16.out 3
          go_wp2_with fail
          have hM := mods4 (S := fun i => i = w3.heap.size) (Mods.refl _ w16) rfl (.int .i64 0) (.int .i64 0) (.int .i64 0) (.slice B16 m16 q16)
          have T17 := T16.out.trans (hM.below (B := w.heap.size) (by have h_ := T16.out.size; omega) (by rintro i rfl; have h_ := T2.out.size; have h2 := hx23.out; omega))
          go_ret
          exact ⟨by simp, T17⟩
end Go.Proofs.Ytdcelfoomjahjaa
