import Derived.Test.YtkmfdnoklabndaaRref
import Derived.Test.YtkmfdnoklabndaaChain
import Derived.Test.YtkmfdnoklabndaaRcom
/-! The law RecordTurns: its walk. -/
set_option linter.unusedVariables false
set_option linter.unusedSimpArgs false
namespace Go.Proofs.Ytkmfdnoklabndaa
open Go.RowKit Go.Proofs.YtkmfdnoklabndaaW.PrintWords Go.Proofs.YtkmfdnoklabndaaW.PrintLast
def RtuR.T1 : Bool × List (List Nat × List Nat) := (true, [([], []), ([0], [0]), ([], []), ([2], [2]), ([], []), ([4], [4]), ([], []), ([6], [6]), ([], []), ([8, 1, 0, 1, 8], [1, 8]), ([3, 9, 0, 1, 2, 3, 8, 9], [3]), ([5, 10, 0, 1, 2, 3, 4, 5, 8, 9, 10], [5]), ([7, 11, 0, 1, 2, 3, 4, 5, 6, 7, 8, 9, 10, 11], [7])])
def RtuR.B1 : List Nat := [0, 1, 0, 4, 0, 16, 0, 64, 0, 259, 783, 1855, 4095]
theorem RtuR.tab1 : rtab .any (opsOf Try.f5 1) = RtuR.T1 := by kernel_rfl
theorem RtuR.bits1 : waitsOk RtuR.T1.2 RtuR.B1 = true := by kernel_rfl
set_option maxHeartbeats 4000000 in
set_option maxRecDepth 100000 in
theorem rturns_walk (h : Hd) (A : Option Addr) (c n : Nat) (xs : List Int) (q z : Int) (w : World) (ho : h.ok) (hr : ReadsInt w .u8 A n xs) (hc : n ≤ c) (bx : Byt xs) (z0 : 0 ≤ z) (z1 : z < 4294967296) :
    Calls Try.prog 5 #[.agg #[.int .u8 h.k, .int .u32 h.e, .int .u32 h.b, .int .u16 h.i, .int .u16 h.c, .int .u32 h.l, .int .u32 h.m, .slice A n c, .int .i64 q, .int .u32 z]] w fun e w' => e = .returned (.bool true) ∧ Below w.heap.size w w' := by
  have HR := Lib.hid hr
  have HO := Lib.hid ho
  have HX := Lib.hid bx
  have hm1 := hr.2.1
  have hxl := hr.1
  have GX : Hid ((w.alloc (.cells #[.int .u8 h.k, .int .u32 h.e, .int .u32 h.b, .int .u16 h.i, .int .u16 h.c, .int .u32 h.l, .int .u32 h.m, .slice A n c, .int .i64 q, .int .u32 z] 45)).heap[w.heap.size]? = some (.cells #[.int .u8 h.k, .int .u32 h.e, .int .u32 h.b, .int .u16 h.i, .int .u16 h.c, .int .u32 h.l, .int .u32 h.m, .slice A n c, .int .i64 q, .int .u32 z] 45 (0, 0))) := Lib.hid (heap_alloc_new w _)
  have BB : Hid (Below w.heap.size w (w.alloc (.cells #[.int .u8 h.k, .int .u32 h.e, .int .u32 h.b, .int .u16 h.i, .int .u16 h.c, .int .u32 h.l, .int .u32 h.m, .slice A n c, .int .i64 q, .int .u32 z] 45))) := Lib.hid (bl_alloc (Below.refl _ _) _)
  have SZ : Hid ((w.alloc (.cells #[.int .u8 h.k, .int .u32 h.e, .int .u32 h.b, .int .u16 h.i, .int .u16 h.c, .int .u32 h.l, .int .u32 h.m, .slice A n c, .int .i64 q, .int .u32 z] 45)).heap.size = w.heap.size + 1) := Lib.hid (by simp)
  clear hr ho bx
  go_enter Try.func5, Try.ntmps5
  go_wp2_with fail
  obtain ⟨w0, hw0⟩ : ∃ w0, (w.alloc (.cells #[.int .u8 h.k, .int .u32 h.e, .int .u32 h.b, .int .u16 h.i, .int .u16 h.c, .int .u32 h.l, .int .u32 h.m, .slice A n c, .int .i64 q, .int .u32 z] 45)) = w0 := ⟨_, rfl⟩
  rw [hw0] at GX BB SZ ⊢
  clear hw0
  refine start_ (n := 13) (S := fun w' => True) (ds := []) #[false, false, false, false, false, false, false, false, false, false, false, false, false] (by kernel_rfl) rfl rfl trivial (fun hHeld => ?_)
  refine with_tabW RtuR.tab1 RtuR.bits1 (fun HT_ HW_ => ?_)
  have BB := Lib.hid (bl_drew BB.out)
  have GX := Lib.hid (show w0.drew.heap[w.heap.size]? = _ from GX.out)
  have SZ := Lib.hid (show w0.drew.heap.size = w.heap.size + 1 from SZ.out)
  generalize w0.drew = wz at BB GX SZ hHeld ⊢
  refine pure_ (i := 0) (N := some 13) (v := ?_) (a' := ?_) #[true, false, false, false, false, false, false, false, false, false, false, false, false] rfl rfl (any_of HT_.out (by kernel_rfl)) (fun _ _ _ h => h) (Or.inl ⟨by rfl, ?_⟩) ?_ ?_
  rotate_left
  · intro w'
    go_simp
    with_reducible rfl
  rotate_left
  · simp only [Act.put, List.setIfInBounds_toArray, List.set_cons_zero, List.set_cons_succ, i64_w, i32_w]
    rfl
  refine pure_ (i := 2) (N := some 15) (v := ?_) (a' := ?_) #[true, false, true, false, false, false, false, false, false, false, false, false, false] rfl rfl (any_of HT_.out (by kernel_rfl)) (fun _ _ _ h => h) (Or.inl ⟨by rfl, ?_⟩) ?_ ?_
  rotate_left
  · intro w'
    go_simp
    with_reducible rfl
  rotate_left
  · simp only [Act.put, List.setIfInBounds_toArray, List.set_cons_zero, List.set_cons_succ, i64_w, i32_w]
    rfl
  refine pure_ (i := 4) (N := some 17) (v := ?_) (a' := ?_) #[true, false, true, false, true, false, false, false, false, false, false, false, false] rfl rfl (any_of HT_.out (by kernel_rfl)) (fun _ _ _ h => h) (Or.inl ⟨by rfl, ?_⟩) ?_ ?_
  rotate_left
  · intro w'
    go_simp
    with_reducible rfl
  rotate_left
  · simp only [Act.put, List.setIfInBounds_toArray, List.set_cons_zero, List.set_cons_succ, i64_w, i32_w]
    rfl
  refine pure_ (i := 6) (N := some 19) (v := ?_) (a' := ?_) #[true, false, true, false, true, false, true, false, false, false, false, false, false] rfl rfl (any_of HT_.out (by kernel_rfl)) (fun _ _ _ h => h) (Or.inl ⟨by rfl, ?_⟩) ?_ ?_
  rotate_left
  · intro w'
    go_simp
    with_reducible rfl
  rotate_left
  · simp only [Act.put, List.setIfInBounds_toArray, List.set_cons_zero, List.set_cons_succ, i64_w, i32_w]
    rfl
  refine inv_at [1, 3, 5, 7, 8, 9, 10, 11, 12] (fun a0_ b a w' => a = putSel a0_ b [(1, 14, .agg #[.int .u8 h.k, .int .u32 h.e, .int .u32 h.b, .int .u16 h.i, .int .u16 h.c, .int .u32 h.l, .int .u32 h.m]), (3, 16, .slice A n c), (5, 18, .int .i64 q), (7, 20, .int .u32 z), (8, 3, .pointer (some ⟨w.heap.size + 1, 0, none⟩)), (10, 4, .slice A n c), (11, 5, .int .i64 q), (12, 6, .int .u32 z)] ∧ (Below w.heap.size w w') ∧ (w'.heap[w.heap.size]? = some (.cells #[.int .u8 h.k, .int .u32 h.e, .int .u32 h.b, .int .u16 h.i, .int .u16 h.c, .int .u32 h.l, .int .u32 h.m, .slice A n c, .int .i64 q, .int .u32 z] 45 (0, 0))) ∧ (b 8 = false → w'.heap.size = w.heap.size + 1) ∧ (b 8 = true → b 9 = false → w'.heap[w.heap.size + 1]? = some (.cells #[.int .u8 0, .int .u32 0, .int .u32 0, .int .u16 0, .int .u16 0, .int .u32 0, .int .u32 0] 25 (0, 0))) ∧ (b 9 = true → w'.heap[w.heap.size + 1]? = some (.cells #[.int .u8 h.k, .int .u32 h.e, .int .u32 h.b, .int .u16 h.i, .int .u16 h.c, .int .u32 h.l, .int .u32 h.m] 25 (0, 0)))) HT_.out HW_.out (by kernel_rfl) (by kernel_rfl) ?_ ?_ ?_
  · exact ⟨by simp only [putSel, Bool.false_eq_true, if_false], BB.out, GX.out, fun _ => SZ.out, fun h_ => absurd h_ (by decide), fun h_ => absurd h_ (by decide)⟩
  · skip
    clear BB GX SZ
    refine steps_cons ?_ ?_
    · rintro b a w' ⟨ha, Q_BB, Q_GX, Q_SZ, Q_HZ, Q_HB⟩ hb_ hon hoff
      refine ⟨_, rfl, fun K hK => ?_⟩
      have e13 : a.tmps[13]? = some (.pointer (some ⟨w.heap.size, 0, none⟩)) := by rw [ha]; exact (putSel_off rfl).trans rfl
      replace ha := Aside0.mk ha
      have BB := Aside0.mk Q_BB
      have GX := Aside0.mk Q_GX
      have hc0_ : w'.cell? ⟨w.heap.size, 0, none⟩ = some (.int .u8 h.k) := (blk_cell GX.out 0).trans rfl
      have hc1_ : w'.cell? ⟨w.heap.size, 1, none⟩ = some (.int .u32 h.e) := (blk_cell GX.out 1).trans rfl
      have hc2_ : w'.cell? ⟨w.heap.size, 2, none⟩ = some (.int .u32 h.b) := (blk_cell GX.out 2).trans rfl
      have hc3_ : w'.cell? ⟨w.heap.size, 3, none⟩ = some (.int .u16 h.i) := (blk_cell GX.out 3).trans rfl
      have hc4_ : w'.cell? ⟨w.heap.size, 4, none⟩ = some (.int .u16 h.c) := (blk_cell GX.out 4).trans rfl
      have hc5_ : w'.cell? ⟨w.heap.size, 5, none⟩ = some (.int .u32 h.l) := (blk_cell GX.out 5).trans rfl
      have hc6_ : w'.cell? ⟨w.heap.size, 6, none⟩ = some (.int .u32 h.m) := (blk_cell GX.out 6).trans rfl
      refine value_ (w1 := w') (v := .agg #[.int .u8 h.k, .int .u32 h.e, .int .u32 h.b, .int .u16 h.i, .int .u16 h.c, .int .u32 h.l, .int .u32 h.m]) (by rfl) rfl ?_ ?_
      · go_simp
        (try simp only [i64_w])
        try rfl
      refine hK.out _ _ ⟨(by rw [ha.out]; exact putSel_upk 0 hb_ rfl rfl rfl), Q_BB, Q_GX, Q_SZ, Q_HZ, fun h0_ => absurd ((hoff 9 (by kernel_rfl)).symm.trans h0_) (by decide)⟩
    refine steps_cons ?_ ?_
    · rintro b a w' ⟨ha, Q_BB, Q_GX, Q_SZ, Q_HZ, Q_HB⟩ hb_ hon hoff
      refine ⟨_, rfl, fun K hK => ?_⟩
      have e15 : a.tmps[15]? = some (.pointer (some ⟨w.heap.size, 7, none⟩)) := by rw [ha]; exact (putSel_off rfl).trans rfl
      replace ha := Aside0.mk ha
      have BB := Aside0.mk Q_BB
      have GX := Aside0.mk Q_GX
      have hc0_ : w'.cell? ⟨w.heap.size, 7, none⟩ = some (.slice A n c) := (blk_cell GX.out 7).trans rfl
      refine value_ (w1 := w') (v := .slice A n c) (by rfl) rfl ?_ ?_
      · go_simp
        (try simp only [i64_w])
        try rfl
      refine hK.out _ _ ⟨(by rw [ha.out]; exact putSel_upk 1 hb_ rfl rfl rfl), Q_BB, Q_GX, Q_SZ, Q_HZ, Q_HB⟩
    refine steps_cons ?_ ?_
    · rintro b a w' ⟨ha, Q_BB, Q_GX, Q_SZ, Q_HZ, Q_HB⟩ hb_ hon hoff
      refine ⟨_, rfl, fun K hK => ?_⟩
      have e17 : a.tmps[17]? = some (.pointer (some ⟨w.heap.size, 8, none⟩)) := by rw [ha]; exact (putSel_off rfl).trans rfl
      replace ha := Aside0.mk ha
      have BB := Aside0.mk Q_BB
      have GX := Aside0.mk Q_GX
      have hc0_ : w'.cell? ⟨w.heap.size, 8, none⟩ = some (.int .i64 q) := (blk_cell GX.out 8).trans rfl
      refine value_ (w1 := w') (v := .int .i64 q) (by rfl) rfl ?_ ?_
      · go_simp
        (try simp only [i64_w])
        try rfl
      refine hK.out _ _ ⟨(by rw [ha.out]; exact putSel_upk 2 hb_ rfl rfl rfl), Q_BB, Q_GX, Q_SZ, Q_HZ, Q_HB⟩
    refine steps_cons ?_ ?_
    · rintro b a w' ⟨ha, Q_BB, Q_GX, Q_SZ, Q_HZ, Q_HB⟩ hb_ hon hoff
      refine ⟨_, rfl, fun K hK => ?_⟩
      have e19 : a.tmps[19]? = some (.pointer (some ⟨w.heap.size, 9, none⟩)) := by rw [ha]; exact (putSel_off rfl).trans rfl
      replace ha := Aside0.mk ha
      have BB := Aside0.mk Q_BB
      have GX := Aside0.mk Q_GX
      have hc0_ : w'.cell? ⟨w.heap.size, 9, none⟩ = some (.int .u32 z) := (blk_cell GX.out 9).trans rfl
      refine value_ (w1 := w') (v := .int .u32 z) (by rfl) rfl ?_ ?_
      · go_simp
        (try simp only [i64_w])
        try rfl
      refine hK.out _ _ ⟨(by rw [ha.out]; exact putSel_upk 3 hb_ rfl rfl rfl), Q_BB, Q_GX, Q_SZ, Q_HZ, Q_HB⟩
    refine steps_cons ?_ ?_
    · rintro b a w' ⟨ha, Q_BB, Q_GX, Q_SZ, Q_HZ, Q_HB⟩ hb_ hon hoff
      refine ⟨_, rfl, fun K hK => ?_⟩
      replace ha := Aside0.mk ha
      have BB := Aside0.mk Q_BB
      have GX := Aside0.mk Q_GX
      have SZ := Aside0.mk (Q_SZ hb_)
      refine value_ (w1 := w'.alloc (.cells #[.int .u8 0, .int .u32 0, .int .u32 0, .int .u16 0, .int .u16 0, .int .u32 0, .int .u32 0] 25)) (v := .pointer (some ⟨w.heap.size + 1, 0, none⟩)) (by rfl) rfl ?_ ?_
      · go_simp
        try rw [SZ.out]
        try rfl
      refine hK.out _ _ ⟨(by rw [ha.out]; exact putSel_upk 4 hb_ rfl rfl rfl), bl_alloc BB.out _, blk_alloc GX.out _, fun h0_ => absurd ((up_self b 8).symm.trans h0_) (by decide), fun _ _ => (by have h_ := heap_alloc_new w' (.cells #[.int .u8 0, .int .u32 0, .int .u32 0, .int .u16 0, .int .u16 0, .int .u32 0, .int .u32 0] 25); rw [SZ.out] at h_; exact h_), fun h0_ => absurd ((hoff 9 (by kernel_rfl)).symm.trans h0_) (by decide)⟩
    refine steps_cons ?_ ?_
    · rintro b a w' ⟨ha, Q_BB, Q_GX, Q_SZ, Q_HZ, Q_HB⟩ hb_ hon hoff
      refine ⟨_, rfl, fun K hK => ?_⟩
      have e3 : a.tmps[3]? = some (.pointer (some ⟨w.heap.size + 1, 0, none⟩)) := by rw [ha]; exact putSel_on (e := (8, 3, .pointer (some ⟨w.heap.size + 1, 0, none⟩))) 4 rfl rfl (hon 8 (by kernel_rfl)) rfl
      have e14 : a.tmps[14]? = some (.agg #[.int .u8 h.k, .int .u32 h.e, .int .u32 h.b, .int .u16 h.i, .int .u16 h.c, .int .u32 h.l, .int .u32 h.m]) := by rw [ha]; exact putSel_on (e := (1, 14, .agg #[.int .u8 h.k, .int .u32 h.e, .int .u32 h.b, .int .u16 h.i, .int .u16 h.c, .int .u32 h.l, .int .u32 h.m])) 0 rfl rfl (hon 1 (by kernel_rfl)) rfl
      replace ha := Aside0.mk ha
      have BB := Aside0.mk Q_BB
      have GX := Aside0.mk Q_GX
      have HZ := Aside0.mk (Q_HZ (hon 8 (by kernel_rfl)) hb_)
      have zc0 : w'.cell? ⟨w.heap.size + 1, 0, none⟩ = some (.int .u8 0) := (blk_cell HZ.out 0).trans rfl
      have zc1 : w'.cell? ⟨w.heap.size + 1, 1, none⟩ = some (.int .u32 0) := (blk_cell HZ.out 1).trans rfl
      have zc2 : w'.cell? ⟨w.heap.size + 1, 2, none⟩ = some (.int .u32 0) := (blk_cell HZ.out 2).trans rfl
      have zc3 : w'.cell? ⟨w.heap.size + 1, 3, none⟩ = some (.int .u16 0) := (blk_cell HZ.out 3).trans rfl
      have zc4 : w'.cell? ⟨w.heap.size + 1, 4, none⟩ = some (.int .u16 0) := (blk_cell HZ.out 4).trans rfl
      have zc5 : w'.cell? ⟨w.heap.size + 1, 5, none⟩ = some (.int .u32 0) := (blk_cell HZ.out 5).trans rfl
      have zc6 : w'.cell? ⟨w.heap.size + 1, 6, none⟩ = some (.int .u32 0) := (blk_cell HZ.out 6).trans rfl
      have zf0 := blk_frozen HZ.out 0
      have zf1 := blk_frozen HZ.out 1
      have zf2 := blk_frozen HZ.out 2
      have zf3 := blk_frozen HZ.out 3
      have zf4 := blk_frozen HZ.out 4
      have zf5 := blk_frozen HZ.out 5
      have zf6 := blk_frozen HZ.out 6
      refine skip_ (w1 := (((((((w'.setCell ⟨w.heap.size + 1, 0, none⟩ (.int .u8 h.k)).setCell ⟨w.heap.size + 1, 1, none⟩ (.int .u32 h.e)).setCell ⟨w.heap.size + 1, 2, none⟩ (.int .u32 h.b)).setCell ⟨w.heap.size + 1, 3, none⟩ (.int .u16 h.i)).setCell ⟨w.heap.size + 1, 4, none⟩ (.int .u16 h.c)).setCell ⟨w.heap.size + 1, 5, none⟩ (.int .u32 h.l)).setCell ⟨w.heap.size + 1, 6, none⟩ (.int .u32 h.m))) (by rfl) rfl ?_ ?_
      · go_simp
        try rfl
      refine hK.out _ _ ⟨(by rw [ha.out]; exact putSel_none (v := undef) rfl), bel7 BB.out (by omega) (.int .u8 h.k) (.int .u32 h.e) (.int .u32 h.b) (.int .u16 h.i) (.int .u16 h.c) (.int .u32 h.l) (.int .u32 h.m), far7 GX.out (by omega) (.int .u8 h.k) (.int .u32 h.e) (.int .u32 h.b) (.int .u16 h.i) (.int .u16 h.c) (.int .u32 h.l) (.int .u32 h.m), fun h0_ => absurd ((hon 8 (by kernel_rfl)).symm.trans h0_) (by decide), fun _ h1_ => absurd ((up_self b 9).symm.trans h1_) (by decide), fun _ => put7 HZ.out (.int .u8 h.k) (.int .u32 h.e) (.int .u32 h.b) (.int .u16 h.i) (.int .u16 h.c) (.int .u32 h.l) (.int .u32 h.m)⟩
    refine steps_cons ?_ ?_
    · rintro b a w' ⟨ha, Q_BB, Q_GX, Q_SZ, Q_HZ, Q_HB⟩ hb_ hon hoff
      refine ⟨_, rfl, fun K hK => ?_⟩
      have e16 : a.tmps[16]? = some (.slice A n c) := by rw [ha]; exact putSel_on (e := (3, 16, .slice A n c)) 1 rfl rfl (hon 3 (by kernel_rfl)) rfl
      replace ha := Aside0.mk ha
      have BB := Aside0.mk Q_BB
      have GX := Aside0.mk Q_GX
      have HB := Aside0.mk (Q_HB (hon 9 (by kernel_rfl)))
      refine value_ (w1 := w') (v := .slice A n c) (by rfl) rfl ?_ ?_
      · go_simp
        (try simp only [i64_w])
        try rfl
      refine hK.out _ _ ⟨(by rw [ha.out]; exact putSel_upk 5 hb_ rfl rfl rfl), Q_BB, Q_GX, fun h0_ => absurd ((hon 8 (by kernel_rfl)).symm.trans h0_) (by decide), fun _ h1_ => absurd ((hon 9 (by kernel_rfl)).symm.trans h1_) (by decide), Q_HB⟩
    refine steps_cons ?_ ?_
    · rintro b a w' ⟨ha, Q_BB, Q_GX, Q_SZ, Q_HZ, Q_HB⟩ hb_ hon hoff
      refine ⟨_, rfl, fun K hK => ?_⟩
      have e18 : a.tmps[18]? = some (.int .i64 q) := by rw [ha]; exact putSel_on (e := (5, 18, .int .i64 q)) 2 rfl rfl (hon 5 (by kernel_rfl)) rfl
      replace ha := Aside0.mk ha
      have BB := Aside0.mk Q_BB
      have GX := Aside0.mk Q_GX
      have HB := Aside0.mk (Q_HB (hon 9 (by kernel_rfl)))
      refine value_ (w1 := w') (v := .int .i64 q) (by rfl) rfl ?_ ?_
      · go_simp
        (try simp only [i64_w])
        try rfl
      refine hK.out _ _ ⟨(by rw [ha.out]; exact putSel_upk 6 hb_ rfl rfl rfl), Q_BB, Q_GX, fun h0_ => absurd ((hon 8 (by kernel_rfl)).symm.trans h0_) (by decide), fun _ h1_ => absurd ((hon 9 (by kernel_rfl)).symm.trans h1_) (by decide), Q_HB⟩
    refine steps_cons ?_ ?_
    · rintro b a w' ⟨ha, Q_BB, Q_GX, Q_SZ, Q_HZ, Q_HB⟩ hb_ hon hoff
      refine ⟨_, rfl, fun K hK => ?_⟩
      have e20 : a.tmps[20]? = some (.int .u32 z) := by rw [ha]; exact putSel_on (e := (7, 20, .int .u32 z)) 3 rfl rfl (hon 7 (by kernel_rfl)) rfl
      replace ha := Aside0.mk ha
      have BB := Aside0.mk Q_BB
      have GX := Aside0.mk Q_GX
      have HB := Aside0.mk (Q_HB (hon 9 (by kernel_rfl)))
      refine value_ (w1 := w') (v := .int .u32 z) (by rfl) rfl ?_ ?_
      · go_simp
        (try simp only [i64_w])
        try rfl
      refine hK.out _ _ ⟨(by rw [ha.out]; exact putSel_upk 7 hb_ rfl rfl rfl), Q_BB, Q_GX, fun h0_ => absurd ((hon 8 (by kernel_rfl)).symm.trans h0_) (by decide), fun _ h1_ => absurd ((hon 9 (by kernel_rfl)).symm.trans h1_) (by decide), Q_HB⟩
    exact steps_nil
  · rintro b a w' hall ⟨ha, Q_BB, Q_GX, Q_SZ, Q_HZ, Q_HB⟩
    clear BB GX SZ
    have hb1_ := hall 1 (by kernel_rfl)
    have hb3_ := hall 3 (by kernel_rfl)
    have hb5_ := hall 5 (by kernel_rfl)
    have hb7_ := hall 7 (by kernel_rfl)
    have hb8_ := hall 8 (by kernel_rfl)
    have hb9_ := hall 9 (by kernel_rfl)
    have hb10_ := hall 10 (by kernel_rfl)
    have hb11_ := hall 11 (by kernel_rfl)
    have hb12_ := hall 12 (by kernel_rfl)
    subst ha
    simp only [putSel, hb1_, hb3_, hb5_, hb7_, hb8_, hb9_, hb10_, hb11_, hb12_, if_true, Act.put, List.setIfInBounds_toArray, List.set_cons_zero, List.set_cons_succ]
    have BB := Aside0.mk Q_BB
    clear Q_BB
    have GX := Aside0.mk Q_GX
    clear Q_GX
    clear Q_SZ
    clear Q_HZ
    have HB := Aside0.mk (Q_HB hb9_)
    clear Q_HB
    clear hall hb1_ hb3_ hb5_ hb7_ hb8_ hb9_ hb10_ hb11_ hb12_
    have T0 := Lib.hid BB.out
    have B0 := Lib.hid HB.out
    clear BB GX HB
    go_wp2_with fail
    refine (sealed_any _).mono ?_
    rintro e w1 ⟨rfl, hb1⟩
    have T1 := Lib.hid (bl_seq T0.out hb1)
    have B1 := Lib.hid (blk_below B0.out hb1)
    clear hb1
    by_cases h5 : (n : Int) < 5
    · go_wp2_with fail
      refine (sealed_any _).mono ?_
      rintro e w2 ⟨rfl, hb2⟩
      have T2 := Lib.hid (bl_seq T1.out hb2)
      clear hb2
      go_wp2_with fail
      go_ret
      exact ⟨rfl, T2.out⟩
    by_cases h6 : 600 < (n : Int)
    · go_wp2_with fail
      refine (sealed_any _).mono ?_
      rintro e w2 ⟨rfl, hb2⟩
      have T2 := Lib.hid (bl_seq T1.out hb2)
      clear hb2
      go_wp2_with fail
      go_ret
      exact ⟨rfl, T2.out⟩
    by_cases hz : z = 0
    · have bz : (z == 0) = true := by simpa using hz
      go_wp2_with fail
      refine (sealed_any _).mono ?_
      rintro e w2 ⟨rfl, hb2⟩
      have T2 := Lib.hid (bl_seq T1.out hb2)
      clear hb2
      go_wp2_with fail
      go_ret
      exact ⟨rfl, T2.out⟩
    have bz : (z == 0) = false := by simpa using hz
    have z0 : w1.cell? ⟨w.heap.size + 1, 0, none⟩ = some (.int .u8 h.k) := (blk_cell B1.out 0).trans rfl
    have z1 : w1.cell? ⟨w.heap.size + 1, 1, none⟩ = some (.int .u32 h.e) := (blk_cell B1.out 1).trans rfl
    have z2 : w1.cell? ⟨w.heap.size + 1, 2, none⟩ = some (.int .u32 h.b) := (blk_cell B1.out 2).trans rfl
    have z3 : w1.cell? ⟨w.heap.size + 1, 3, none⟩ = some (.int .u16 h.i) := (blk_cell B1.out 3).trans rfl
    have z4 : w1.cell? ⟨w.heap.size + 1, 4, none⟩ = some (.int .u16 h.c) := (blk_cell B1.out 4).trans rfl
    have z5 : w1.cell? ⟨w.heap.size + 1, 5, none⟩ = some (.int .u32 h.l) := (blk_cell B1.out 5).trans rfl
    have z6 : w1.cell? ⟨w.heap.size + 1, 6, none⟩ = some (.int .u32 h.m) := (blk_cell B1.out 6).trans rfl
    go_wp2_with fail
    clear z0 z1 z2 z3 z4 z5 z6
    refine (Seal_any h A none c 0 n 0 xs [] w1 HO.out (HR.out.below T1.out) hc HX.out (by omega) ⟨rfl, by omega, fun h => absurd h (by omega)⟩ (by omega) (fun x hx => by cases hx)).mono ?_
    rintro e w2 ⟨v2, rfl, hn2⟩
    obtain ⟨A2, c2, rfl, hc2⟩ := hn2.shape 64 (sealL_length _ _ _)
    have R2 := Lib.hid (hn2.read (sealL_length _ _ _)).1
    have T2 := Lib.hid (bl_seq T1.out hn2.bel)
    clear hn2
    go_wp2_with fail
    refine (rPart_whole xs A c n w2 (HR.out.below T2.out) hc (by omega)).mono ?_
    rintro e w3 ⟨A3, c3, rfl, hc3, ho3, hb3⟩
    obtain ⟨g, rfl, hg, hg2⟩ := own_some ho3 (by omega)
    have O3 := Lib.hid ho3
    have BW3 := Lib.hid hb3
    have T3 := Lib.hid (bl_seq T2.out hb3)
    have R3 := Lib.hid (R2.out.below hb3)
    have HG := Lib.hid hg
    have Y2 := Lib.hid T2.out.size
    clear ho3 hb3 hg hg2
    obtain ⟨p, hp, hpl⟩ := modU q (8 * (n : Int) - 32) (by omega) (by omega)
    go_wp2_with fail
    simp only [hp]
    obtain ⟨zN, rfl⟩ : ∃ zN : Nat, z = (zN : Int) := ⟨z.toNat, by omega⟩
    have HZ := Lib.hid (And.intro z1 (And.intro hz (And.intro hpl (And.intro h5 h6))))
    clear hp z0 z1 hz bz
    go_loopw [9] (fun i wr => ∃ k : Nat, k ≤ 32 ∧ i = .int .i64 (k : Int) ∧ Hid (wr.ownsRow w2.heap.size 5 1 (.slice (some ⟨g, 0, none⟩) n c3) n (nums .u8 (turnB xs p zN k))) ∧ Hid (Below w2.heap.size w2 wr)) (fun i _ => 32 - (intOf i).toNat)
    case atStart => exact ⟨0, Nat.zero_le _, rfl, O3, Lib.hid BW3.out⟩
    case round =>
      obtain ⟨k, hk, rfl, HT, HB⟩ := hrel
      by_cases hlt : k < 32
      · have hbt := bit_test zN k (by have h_ := HZ.out.1; omega)
        cases hb : zN.testBit k
        · rw [hb, if_neg (by simp)] at hbt
          have htk : turnB xs p zN (k + 1) = turnB xs p zN k := by rw [turnB, hb]; rfl
          have HTK := Lib.hid htk
          clear hb htk
          go_wp2
          go_roundw
          case rel => exact ⟨k + 1, by omega, by go_num, by rw [HTK.out]; exact HT, by first | exact HB | exact Lib.hid (bl_drew HB.out)⟩
          case measure => simp [intOf]; omega
        · rw [hb, if_pos rfl] at hbt
          have htk : turnB xs p zN (k + 1) = flipB (turnB xs p zN k) (p + k) := by rw [turnB, hb]; rfl
          have HTK := Lib.hid htk
          clear hb htk
          go_wp2
          have hPn : p + k < 8 * n := by have h_ := HZ.out.2.2.1; omega
          have htl := turnB_length xs p zN k
          have HYB := Lib.hid (turnB_byt (show BytN xs from HX.out) p zN k)
          generalize turnB xs p zN k = ys at HT HTK htl HYB
          obtain ⟨P, hP⟩ : ∃ P, p + k = P := ⟨_, rfl⟩
          rw [hP] at hPn HTK
          have hpk : (p : Int) + (k : Int) = (P : Int) := by omega
          simp only [hpk]
          have htd : Int.tdiv (P : Int) 8 = ((P / 8 : Nat) : Int) := by rw [Int.tdiv_eq_ediv_of_nonneg (by omega)]; omega
          have htm : Int.tmod (P : Int) 8 = ((P % 8 : Nat) : Int) := by rw [Int.tmod_eq_emod_of_nonneg (by omega)]; omega
          have hq8 : P / 8 < n := by omega
          have hr8 : P % 8 < 8 := by omega
          obtain ⟨hc3, hf3⟩ := own_at HT.out ((P / 8 : Nat) : Int) (by omega) (by omega)
          rw [Int.toNat_natCast, rd_getD] at hc3
          rw [Int.toNat_natCast] at hf3
          have hby : BytN ys → 0 ≤ ys.getD (P / 8) 0 ∧ ys.getD (P / 8) 0 < 256 := fun h_ => h_ _ (by rw [List.getD_eq_getElem?_getD, List.getElem?_eq_getElem (by omega)]; simp)
          have hyb := hby HYB.out
          have hfl : flipB ys P = ys.set (P / 8) (((ys.getD (P / 8) 0).toNat ^^^ 2 ^ (P % 8) : Nat) : Int) := rfl
          obtain ⟨y, hy⟩ : ∃ y, ys.getD (P / 8) 0 = y := ⟨_, rfl⟩
          rw [hy] at hc3 hfl hyb
          have hv := flip_val y (P % 8) hr8 hyb.1 hyb.2
          have HV := Lib.hid (And.intro hfl hv)
          clear hby hyb hfl hy hv HYB
          go_region
          rw [HV.out.2]
          go_wp2
          go_roundw
          case rel =>
            refine ⟨k + 1, by omega, by go_num, ?_, Lib.hid (bl_drew (HB.out.setCell (p := ⟨g, P / 8, none⟩) HG.out _))⟩
            have h_ := (own_store HT.out ((P / 8 : Nat) : Int) ((y.toNat ^^^ 2 ^ (P % 8) : Nat) : Int)).1
            rw [Int.toNat_natCast] at h_
            rw [HTK.out, HV.out.1]
            exact Lib.hid h_
          case measure => simp [intOf]; omega
      · obtain rfl : k = 32 := by omega
        have htold := turnB_told (crcS (~~~ 0#32) (fieldsL h)) (l := xs) HX.out p zN (by have h_ := HZ.out.1; omega) (by have h_ := HZ.out.2.1; omega) (by have h_ := HZ.out.2.2.1; omega)
        have hob := seal_other (h := h) xs [] htold
        have hby : Byt (turnB xs p zN 32) := turnB_byt HX.out p zN 32
        generalize turnB xs p zN 32 = ys at HT hob hby
        have HOB := Lib.hid (And.intro hob hby)
        have R4 := Lib.hid (own_reads' HT.out)
        have T4 := Lib.hid (bl_seq T2.out HB.out)
        have R5 := Lib.hid (R2.out.below HB.out)
        clear htold hob hby HT HB
        go_wp2_with fail
        refine (open_any A2 _ c2 n c3 64 (sealL h xs []) ys _ R5.out (sealL_byt _ _ (fun x hx => by cases hx)) hc2 R4.out HOB.out.2 hc3).mono ?_
        rintro e w5 ⟨hb5, he⟩
        rw [HOB.out.1, openR_no HOB.out.1, show (hdC hd0 : Array Value) = #[.int .u8 0, .int .u32 0, .int .u32 0, .int .u16 0, .int .u16 0, .int .u32 0, .int .u32 0] from rfl] at he
        subst he
        have T5 := Lib.hid (bl_seq T4.out hb5)
        clear hb5
        go_wp2_with fail
        go_ret
        exact ⟨rfl, bl_alloc T5.out _⟩
end Go.Proofs.Ytkmfdnoklabndaa
