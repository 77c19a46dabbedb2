import Derived.Test.YtkmfdnoklabndaaRopn5
import Derived.Test.YtkmfdnoklabndaaChain
/-! The law RecordOpens: its walk. -/
set_option linter.unusedVariables false
set_option linter.unusedSimpArgs false
namespace Go.Proofs.Ytkmfdnoklabndaa
open Go.RowKit Go.Proofs.YtkmfdnoklabndaaW.PrintWords Go.Proofs.YtkmfdnoklabndaaW.PrintLast
def RoeR.T1 : Bool × List (List Nat × List Nat) := (true, [([], []), ([0], [0]), ([], []), ([2], [2]), ([], []), ([4], [4]), ([], []), ([6], [6]), ([], []), ([8], [8]), ([], []), ([1, 0, 1, 10], [1]), ([3, 11, 0, 1, 2, 3, 10, 11], [3]), ([10, 5, 12, 0, 1, 2, 3, 4, 5, 10, 11, 12], [5, 10]), ([7, 13, 0, 1, 2, 3, 4, 5, 6, 7, 10, 11, 12, 13], [7]), ([9, 14, 0, 1, 2, 3, 4, 5, 6, 7, 8, 9, 10, 11, 12, 13, 14], [9])])
def RoeR.B1 : List Nat := [0, 1, 0, 4, 0, 16, 0, 64, 0, 256, 0, 1027, 3087, 7231, 15615, 32767]
theorem RoeR.tab1 : rtab .any (opsOf Try.f4 1) = RoeR.T1 := by kernel_rfl
theorem RoeR.bits1 : waitsOk RoeR.T1.2 RoeR.B1 = true := by kernel_rfl
def RoeR.T6 : Bool × List (List Nat × List Nat) := (true, [([], []), ([0], [0]), ([1, 0], [1]), ([2], [2]), ([2], [2]), ([3, 4, 2], [2, 3, 4]), ([2, 5], [2, 5]), ([6, 2], [6]), ([7], [7]), ([8, 7, 7], [7, 8]), ([7], [7]), ([9, 10, 7], [7, 9, 10]), ([7, 11], [7, 11])])
def RoeR.B6 : List Nat := [0, 1, 3, 7, 7, 31, 63, 127, 255, 511, 255, 2047, 4095]
theorem RoeR.tab6 : rtab .any (opsOf Try.f4 6) = RoeR.T6 := by kernel_rfl
theorem RoeR.bits6 : waitsOk RoeR.T6.2 RoeR.B6 = true := by kernel_rfl
def RoeR.T17 : Bool × List (List Nat × List Nat) := (true, [([], []), ([], []), ([0, 1], [0, 1]), ([2], [2]), ([3], [3]), ([4, 3, 3], [3, 4]), ([3], [3]), ([5, 6, 3], [3, 5, 6]), ([3, 7], [3, 7]), ([8, 5, 0, 1, 2, 3, 4, 5, 6, 7, 8], [8])])
def RoeR.B17 : List Nat := [0, 0, 3, 7, 15, 31, 15, 127, 255, 511]
theorem RoeR.tab17 : rtab .any (opsOf Try.f4 17) = RoeR.T17 := by kernel_rfl
theorem RoeR.bits17 : waitsOk RoeR.T17.2 RoeR.B17 = true := by kernel_rfl
theorem openR_ok {ys xs : List Int} (hb : Byt xs) : (openR ys xs).ok := by
  unfold openR
  split
  · exact openH_ok hb
  · constructor <;> simp [hd0]
set_option maxHeartbeats 2000000 in
theorem eqIn64 (h : Hd) (w : World) : (Op.equalIn 10000 34 (.agg (hd64 h)) (.agg (hd64 h))).run Try.prog w = .ok true w := by
  rw [run_equalIn_struct _ 9999 34 _ _ (by kernel_rfl) (by kernel_rfl)]
  rw [show (Try.prog.fieldsOf 34).toList = _ from by simp [Program.fieldsOf, Try.underlying34]; rfl]
  simp only [Op.eqFields]
  simp [go_sem, hd64]
theorem eq64 (h : Hd) (w : World) : (binOp .eql 34 (.agg #[.int .i64 h.k, .int .i64 h.e, .int .i64 h.b, .int .i64 h.i, .int .i64 h.c, .int .i64 h.l, .int .i64 h.m]) (.agg #[.int .i64 h.k, .int .i64 h.e, .int .i64 h.b, .int .i64 h.i, .int .i64 h.c, .int .i64 h.l, .int .i64 h.m])).run Try.prog w = .ok (.bool true) w := by rw [run_eql_struct, eqIn64]; rfl
theorem ne64 (h : Hd) (w : World) : (binOp .neq 34 (.agg #[.int .i64 h.k, .int .i64 h.e, .int .i64 h.b, .int .i64 h.i, .int .i64 h.c, .int .i64 h.l, .int .i64 h.m]) (.agg #[.int .i64 h.k, .int .i64 h.e, .int .i64 h.b, .int .i64 h.i, .int .i64 h.c, .int .i64 h.l, .int .i64 h.m])).run Try.prog w = .ok (.bool false) w := by rw [run_neq_struct, eqIn64]; rfl
theorem own_far7 {w : World} {base n g : Nat} {e : TypeId} {v : Value} {xs : List Value} (h : w.ownsRow base e 1 v n xs) (hne : some g ≠ v.ownBlock) (v0 v1 v2 v3 v4 v5 v6 : Value) : (((((((w.setCell ⟨g, 0, none⟩ v0).setCell ⟨g, 1, none⟩ v1).setCell ⟨g, 2, none⟩ v2).setCell ⟨g, 3, none⟩ v3).setCell ⟨g, 4, none⟩ v4).setCell ⟨g, 5, none⟩ v5).setCell ⟨g, 6, none⟩ v6).ownsRow base e 1 v n xs :=
  own_setCell (own_setCell (own_setCell (own_setCell (own_setCell (own_setCell (own_setCell h (p := ⟨g, 0, none⟩) hne v0) (p := ⟨g, 1, none⟩) hne v1) (p := ⟨g, 2, none⟩) hne v2) (p := ⟨g, 3, none⟩) hne v3) (p := ⟨g, 4, none⟩) hne v4) (p := ⟨g, 5, none⟩) hne v5) (p := ⟨g, 6, none⟩) hne v6
set_option maxHeartbeats 8000000 in
set_option maxRecDepth 100000 in
theorem ropens_walk (h : Hd) (A B I J : Option Addr) (c d ci cj n m p r : Nat) (xs ys zs us : List Int) (w : World) (ho : h.ok) (hr : ReadsInt w .u8 A n xs) (hc : n ≤ c) (bx : Byt xs) (hs : ReadsInt w .u8 B m ys) (hd : m ≤ d) (by_ : Byt ys) (hi : ReadsInt w .i64 I p zs) (hj : ReadsInt w .u8 J r us) (bu : Byt us) :
    Calls Try.prog 4 #[.agg #[.slice A n c, .slice B m d, .int .u8 h.k, .int .u32 h.e, .int .u32 h.b, .int .u16 h.i, .int .u16 h.c, .int .u32 h.l, .int .u32 h.m, .slice I p ci, .slice J r cj]] w fun e w' => e = .returned (.bool true) ∧ Below w.heap.size w w' := by
  have HR := Lib.hid (And.intro hr (And.intro bx (And.intro hs by_)))
  have HI := Lib.hid (And.intro hi (And.intro hj bu))
  have HO := Lib.hid ho
  have hm1 := hr.2.1
  have hm2 := hs.2.1
  have hm3 := hi.2.1
  have hm4 := hj.2.1
  have GX : Hid ((w.alloc (.cells #[.slice A n c, .slice B m d, .int .u8 h.k, .int .u32 h.e, .int .u32 h.b, .int .u16 h.i, .int .u16 h.c, .int .u32 h.l, .int .u32 h.m, .slice I p ci, .slice J r cj] 39)).heap[w.heap.size]? = some (.cells #[.slice A n c, .slice B m d, .int .u8 h.k, .int .u32 h.e, .int .u32 h.b, .int .u16 h.i, .int .u16 h.c, .int .u32 h.l, .int .u32 h.m, .slice I p ci, .slice J r cj] 39 (0, 0))) := Lib.hid (heap_alloc_new w _)
  have BB : Hid (Below w.heap.size w (w.alloc (.cells #[.slice A n c, .slice B m d, .int .u8 h.k, .int .u32 h.e, .int .u32 h.b, .int .u16 h.i, .int .u16 h.c, .int .u32 h.l, .int .u32 h.m, .slice I p ci, .slice J r cj] 39))) := Lib.hid (bl_alloc (Below.refl _ _) _)
  have SZ : Hid ((w.alloc (.cells #[.slice A n c, .slice B m d, .int .u8 h.k, .int .u32 h.e, .int .u32 h.b, .int .u16 h.i, .int .u16 h.c, .int .u32 h.l, .int .u32 h.m, .slice I p ci, .slice J r cj] 39)).heap.size = w.heap.size + 1) := Lib.hid (by simp)
  clear ho hr bx hs by_ hi hj bu
  go_enter Try.func4, Try.ntmps4
  go_wp2_with fail
  obtain ⟨w0, hw0⟩ : ∃ w0, (w.alloc (.cells #[.slice A n c, .slice B m d, .int .u8 h.k, .int .u32 h.e, .int .u32 h.b, .int .u16 h.i, .int .u16 h.c, .int .u32 h.l, .int .u32 h.m, .slice I p ci, .slice J r cj] 39)) = w0 := ⟨_, rfl⟩
  rw [hw0] at GX BB SZ ⊢
  clear hw0
  refine start_ (n := 16) (S := fun w' => True) (ds := []) #[false, false, false, false, false, false, false, false, false, false, false, false, false, false, false, false] (by kernel_rfl) rfl rfl trivial (fun hHeld => ?_)
  refine with_tabW RoeR.tab1 RoeR.bits1 (fun HT_ HW_ => ?_)
  have BB := Lib.hid (bl_drew BB.out)
  have GX := Lib.hid (show w0.drew.heap[w.heap.size]? = _ from GX.out)
  have SZ := Lib.hid (show w0.drew.heap.size = w.heap.size + 1 from SZ.out)
  generalize w0.drew = wz at BB GX SZ hHeld ⊢
  refine pure_ (i := 0) (N := some 14) (v := ?_) (a' := ?_) #[true, false, false, false, false, false, false, false, false, false, false, false, false, false, false, false] rfl rfl (any_of HT_.out (by kernel_rfl)) (fun _ _ _ h => h) (Or.inl ⟨by rfl, ?_⟩) ?_ ?_
  rotate_left
  · intro w'
    go_simp
    with_reducible rfl
  rotate_left
  · simp only [Act.put, List.setIfInBounds_toArray, List.set_cons_zero, List.set_cons_succ, i64_w, i32_w]
    rfl
  refine pure_ (i := 2) (N := some 16) (v := ?_) (a' := ?_) #[true, false, true, false, false, false, false, false, false, false, false, false, false, false, false, false] rfl rfl (any_of HT_.out (by kernel_rfl)) (fun _ _ _ h => h) (Or.inl ⟨by rfl, ?_⟩) ?_ ?_
  rotate_left
  · intro w'
    go_simp
    with_reducible rfl
  rotate_left
  · simp only [Act.put, List.setIfInBounds_toArray, List.set_cons_zero, List.set_cons_succ, i64_w, i32_w]
    rfl
  refine pure_ (i := 4) (N := some 18) (v := ?_) (a' := ?_) #[true, false, true, false, true, false, false, false, false, false, false, false, false, false, false, false] rfl rfl (any_of HT_.out (by kernel_rfl)) (fun _ _ _ h => h) (Or.inl ⟨by rfl, ?_⟩) ?_ ?_
  rotate_left
  · intro w'
    go_simp
    with_reducible rfl
  rotate_left
  · simp only [Act.put, List.setIfInBounds_toArray, List.set_cons_zero, List.set_cons_succ, i64_w, i32_w]
    rfl
  refine pure_ (i := 6) (N := some 20) (v := ?_) (a' := ?_) #[true, false, true, false, true, false, true, false, false, false, false, false, false, false, false, false] rfl rfl (any_of HT_.out (by kernel_rfl)) (fun _ _ _ h => h) (Or.inl ⟨by rfl, ?_⟩) ?_ ?_
  rotate_left
  · intro w'
    go_simp
    with_reducible rfl
  rotate_left
  · simp only [Act.put, List.setIfInBounds_toArray, List.set_cons_zero, List.set_cons_succ, i64_w, i32_w]
    rfl
  refine pure_ (i := 8) (N := some 22) (v := ?_) (a' := ?_) #[true, false, true, false, true, false, true, false, true, false, false, false, false, false, false, false] rfl rfl (any_of HT_.out (by kernel_rfl)) (fun _ _ _ h => h) (Or.inl ⟨by rfl, ?_⟩) ?_ ?_
  rotate_left
  · intro w'
    go_simp
    with_reducible rfl
  rotate_left
  · simp only [Act.put, List.setIfInBounds_toArray, List.set_cons_zero, List.set_cons_succ, i64_w, i32_w]
    rfl
  refine inv_at [1, 3, 5, 7, 9, 10, 11, 12, 13, 14, 15] (fun a0_ b a w' => a = putSel a0_ b [(1, 15, .slice A n c), (3, 17, .slice B m d), (5, 19, .agg #[.int .u8 h.k, .int .u32 h.e, .int .u32 h.b, .int .u16 h.i, .int .u16 h.c, .int .u32 h.l, .int .u32 h.m]), (7, 21, .slice I p ci), (9, 23, .slice J r cj), (10, 5, .pointer (some ⟨w.heap.size + 1, 0, none⟩)), (11, 3, .slice A n c), (12, 4, .slice B m d), (14, 6, .slice I p ci), (15, 7, .slice J r cj)] ∧ (Below w.heap.size w w') ∧ (w'.heap[w.heap.size]? = some (.cells #[.slice A n c, .slice B m d, .int .u8 h.k, .int .u32 h.e, .int .u32 h.b, .int .u16 h.i, .int .u16 h.c, .int .u32 h.l, .int .u32 h.m, .slice I p ci, .slice J r cj] 39 (0, 0))) ∧ (b 10 = false → w'.heap.size = w.heap.size + 1) ∧ (b 10 = true → b 13 = false → w'.heap[w.heap.size + 1]? = some (.cells #[.int .u8 0, .int .u32 0, .int .u32 0, .int .u16 0, .int .u16 0, .int .u32 0, .int .u32 0] 25 (0, 0))) ∧ (b 13 = true → w'.heap[w.heap.size + 1]? = some (.cells #[.int .u8 h.k, .int .u32 h.e, .int .u32 h.b, .int .u16 h.i, .int .u16 h.c, .int .u32 h.l, .int .u32 h.m] 25 (0, 0)))) HT_.out HW_.out (by kernel_rfl) (by kernel_rfl) ?_ ?_ ?_
  · exact ⟨by simp only [putSel, Bool.false_eq_true, if_false], BB.out, GX.out, fun _ => SZ.out, fun h_ => absurd h_ (by decide), fun h_ => absurd h_ (by decide)⟩
  · skip
    clear BB GX SZ
    refine steps_cons ?_ ?_
    · rintro b a w' ⟨ha, Q_BB, Q_GX, Q_SZ, Q_HZ, Q_HB⟩ hb_ hon hoff
      refine ⟨_, rfl, fun K hK => ?_⟩
      have e14 : a.tmps[14]? = some (.pointer (some ⟨w.heap.size, 0, none⟩)) := by rw [ha]; exact (putSel_off rfl).trans rfl
      replace ha := Aside0.mk ha
      have BB := Aside0.mk Q_BB
      have GX := Aside0.mk Q_GX
      have hc0_ : w'.cell? ⟨w.heap.size, 0, none⟩ = some (.slice A n c) := (blk_cell GX.out 0).trans rfl
      refine value_ (w1 := w') (v := .slice A n c) (by rfl) rfl ?_ ?_
      · go_simp
        (try simp only [i64_w])
        try rfl
      refine hK.out _ _ ⟨(by rw [ha.out]; exact putSel_upk 0 hb_ rfl rfl rfl), Q_BB, Q_GX, Q_SZ, Q_HZ, fun h0_ => absurd ((hoff 13 (by kernel_rfl)).symm.trans h0_) (by decide)⟩
    refine steps_cons ?_ ?_
    · rintro b a w' ⟨ha, Q_BB, Q_GX, Q_SZ, Q_HZ, Q_HB⟩ hb_ hon hoff
      refine ⟨_, rfl, fun K hK => ?_⟩
      have e16 : a.tmps[16]? = some (.pointer (some ⟨w.heap.size, 1, none⟩)) := by rw [ha]; exact (putSel_off rfl).trans rfl
      replace ha := Aside0.mk ha
      have BB := Aside0.mk Q_BB
      have GX := Aside0.mk Q_GX
      have hc0_ : w'.cell? ⟨w.heap.size, 1, none⟩ = some (.slice B m d) := (blk_cell GX.out 1).trans rfl
      refine value_ (w1 := w') (v := .slice B m d) (by rfl) rfl ?_ ?_
      · go_simp
        (try simp only [i64_w])
        try rfl
      refine hK.out _ _ ⟨(by rw [ha.out]; exact putSel_upk 1 hb_ rfl rfl rfl), Q_BB, Q_GX, Q_SZ, Q_HZ, fun h0_ => absurd ((hoff 13 (by kernel_rfl)).symm.trans h0_) (by decide)⟩
    refine steps_cons ?_ ?_
    · rintro b a w' ⟨ha, Q_BB, Q_GX, Q_SZ, Q_HZ, Q_HB⟩ hb_ hon hoff
      refine ⟨_, rfl, fun K hK => ?_⟩
      have e18 : a.tmps[18]? = some (.pointer (some ⟨w.heap.size, 2, none⟩)) := by rw [ha]; exact (putSel_off rfl).trans rfl
      replace ha := Aside0.mk ha
      have BB := Aside0.mk Q_BB
      have GX := Aside0.mk Q_GX
      have hc0_ : w'.cell? ⟨w.heap.size, 2, none⟩ = some (.int .u8 h.k) := (blk_cell GX.out 2).trans rfl
      have hc1_ : w'.cell? ⟨w.heap.size, 3, none⟩ = some (.int .u32 h.e) := (blk_cell GX.out 3).trans rfl
      have hc2_ : w'.cell? ⟨w.heap.size, 4, none⟩ = some (.int .u32 h.b) := (blk_cell GX.out 4).trans rfl
      have hc3_ : w'.cell? ⟨w.heap.size, 5, none⟩ = some (.int .u16 h.i) := (blk_cell GX.out 5).trans rfl
      have hc4_ : w'.cell? ⟨w.heap.size, 6, none⟩ = some (.int .u16 h.c) := (blk_cell GX.out 6).trans rfl
      have hc5_ : w'.cell? ⟨w.heap.size, 7, none⟩ = some (.int .u32 h.l) := (blk_cell GX.out 7).trans rfl
      have hc6_ : w'.cell? ⟨w.heap.size, 8, none⟩ = some (.int .u32 h.m) := (blk_cell GX.out 8).trans rfl
      refine value_ (w1 := w') (v := .agg #[.int .u8 h.k, .int .u32 h.e, .int .u32 h.b, .int .u16 h.i, .int .u16 h.c, .int .u32 h.l, .int .u32 h.m]) (by rfl) rfl ?_ ?_
      · go_simp
        (try simp only [i64_w])
        try rfl
      refine hK.out _ _ ⟨(by rw [ha.out]; exact putSel_upk 2 hb_ rfl rfl rfl), Q_BB, Q_GX, Q_SZ, Q_HZ, fun h0_ => absurd ((hoff 13 (by kernel_rfl)).symm.trans h0_) (by decide)⟩
    refine steps_cons ?_ ?_
    · rintro b a w' ⟨ha, Q_BB, Q_GX, Q_SZ, Q_HZ, Q_HB⟩ hb_ hon hoff
      refine ⟨_, rfl, fun K hK => ?_⟩
      have e20 : a.tmps[20]? = some (.pointer (some ⟨w.heap.size, 9, none⟩)) := by rw [ha]; exact (putSel_off rfl).trans rfl
      replace ha := Aside0.mk ha
      have BB := Aside0.mk Q_BB
      have GX := Aside0.mk Q_GX
      have hc0_ : w'.cell? ⟨w.heap.size, 9, none⟩ = some (.slice I p ci) := (blk_cell GX.out 9).trans rfl
      refine value_ (w1 := w') (v := .slice I p ci) (by rfl) rfl ?_ ?_
      · go_simp
        (try simp only [i64_w])
        try rfl
      refine hK.out _ _ ⟨(by rw [ha.out]; exact putSel_upk 3 hb_ rfl rfl rfl), Q_BB, Q_GX, Q_SZ, Q_HZ, Q_HB⟩
    refine steps_cons ?_ ?_
    · rintro b a w' ⟨ha, Q_BB, Q_GX, Q_SZ, Q_HZ, Q_HB⟩ hb_ hon hoff
      refine ⟨_, rfl, fun K hK => ?_⟩
      have e22 : a.tmps[22]? = some (.pointer (some ⟨w.heap.size, 10, none⟩)) := by rw [ha]; exact (putSel_off rfl).trans rfl
      replace ha := Aside0.mk ha
      have BB := Aside0.mk Q_BB
      have GX := Aside0.mk Q_GX
      have hc0_ : w'.cell? ⟨w.heap.size, 10, none⟩ = some (.slice J r cj) := (blk_cell GX.out 10).trans rfl
      refine value_ (w1 := w') (v := .slice J r cj) (by rfl) rfl ?_ ?_
      · go_simp
        (try simp only [i64_w])
        try rfl
      refine hK.out _ _ ⟨(by rw [ha.out]; exact putSel_upk 4 hb_ rfl rfl rfl), Q_BB, Q_GX, Q_SZ, Q_HZ, Q_HB⟩
    refine steps_cons ?_ ?_
    · rintro b a w' ⟨ha, Q_BB, Q_GX, Q_SZ, Q_HZ, Q_HB⟩ hb_ hon hoff
      refine ⟨_, rfl, fun K hK => ?_⟩
      replace ha := Aside0.mk ha
      have BB := Aside0.mk Q_BB
      have GX := Aside0.mk Q_GX
      have SZ := Aside0.mk (Q_SZ hb_)
      refine value_ (w1 := w'.alloc (.cells #[.int .u8 0, .int .u32 0, .int .u32 0, .int .u16 0, .int .u16 0, .int .u32 0, .int .u32 0] 25)) (v := .pointer (some ⟨w.heap.size + 1, 0, none⟩)) (by rfl) rfl ?_ ?_
      · go_simp
        try rw [SZ.out]
        try rfl
      refine hK.out _ _ ⟨(by rw [ha.out]; exact putSel_upk 5 hb_ rfl rfl rfl), bl_alloc BB.out _, blk_alloc GX.out _, fun h0_ => absurd ((up_self b 10).symm.trans h0_) (by decide), fun _ _ => (by have h_ := heap_alloc_new w' (.cells #[.int .u8 0, .int .u32 0, .int .u32 0, .int .u16 0, .int .u16 0, .int .u32 0, .int .u32 0] 25); rw [SZ.out] at h_; exact h_), fun h0_ => absurd ((hoff 13 (by kernel_rfl)).symm.trans h0_) (by decide)⟩
    refine steps_cons ?_ ?_
    · rintro b a w' ⟨ha, Q_BB, Q_GX, Q_SZ, Q_HZ, Q_HB⟩ hb_ hon hoff
      refine ⟨_, rfl, fun K hK => ?_⟩
      have e15 : a.tmps[15]? = some (.slice A n c) := by rw [ha]; exact putSel_on (e := (1, 15, .slice A n c)) 0 rfl rfl (hon 1 (by kernel_rfl)) rfl
      replace ha := Aside0.mk ha
      have BB := Aside0.mk Q_BB
      have GX := Aside0.mk Q_GX
      have HZ := Aside0.mk (Q_HZ (hon 10 (by kernel_rfl)) (hoff 13 (by kernel_rfl)))
      refine value_ (w1 := w') (v := .slice A n c) (by rfl) rfl ?_ ?_
      · go_simp
        (try simp only [i64_w])
        try rfl
      refine hK.out _ _ ⟨(by rw [ha.out]; exact putSel_upk 6 hb_ rfl rfl rfl), Q_BB, Q_GX, fun h0_ => absurd ((hon 10 (by kernel_rfl)).symm.trans h0_) (by decide), Q_HZ, fun h0_ => absurd ((hoff 13 (by kernel_rfl)).symm.trans h0_) (by decide)⟩
    refine steps_cons ?_ ?_
    · rintro b a w' ⟨ha, Q_BB, Q_GX, Q_SZ, Q_HZ, Q_HB⟩ hb_ hon hoff
      refine ⟨_, rfl, fun K hK => ?_⟩
      have e17 : a.tmps[17]? = some (.slice B m d) := by rw [ha]; exact putSel_on (e := (3, 17, .slice B m d)) 1 rfl rfl (hon 3 (by kernel_rfl)) rfl
      replace ha := Aside0.mk ha
      have BB := Aside0.mk Q_BB
      have GX := Aside0.mk Q_GX
      have HZ := Aside0.mk (Q_HZ (hon 10 (by kernel_rfl)) (hoff 13 (by kernel_rfl)))
      refine value_ (w1 := w') (v := .slice B m d) (by rfl) rfl ?_ ?_
      · go_simp
        (try simp only [i64_w])
        try rfl
      refine hK.out _ _ ⟨(by rw [ha.out]; exact putSel_upk 7 hb_ rfl rfl rfl), Q_BB, Q_GX, fun h0_ => absurd ((hon 10 (by kernel_rfl)).symm.trans h0_) (by decide), Q_HZ, fun h0_ => absurd ((hoff 13 (by kernel_rfl)).symm.trans h0_) (by decide)⟩
    refine steps_cons ?_ ?_
    · rintro b a w' ⟨ha, Q_BB, Q_GX, Q_SZ, Q_HZ, Q_HB⟩ hb_ hon hoff
      refine ⟨_, rfl, fun K hK => ?_⟩
      have e5 : a.tmps[5]? = some (.pointer (some ⟨w.heap.size + 1, 0, none⟩)) := by rw [ha]; exact putSel_on (e := (10, 5, .pointer (some ⟨w.heap.size + 1, 0, none⟩))) 5 rfl rfl (hon 10 (by kernel_rfl)) rfl
      have e19 : a.tmps[19]? = some (.agg #[.int .u8 h.k, .int .u32 h.e, .int .u32 h.b, .int .u16 h.i, .int .u16 h.c, .int .u32 h.l, .int .u32 h.m]) := by rw [ha]; exact putSel_on (e := (5, 19, .agg #[.int .u8 h.k, .int .u32 h.e, .int .u32 h.b, .int .u16 h.i, .int .u16 h.c, .int .u32 h.l, .int .u32 h.m])) 2 rfl rfl (hon 5 (by kernel_rfl)) rfl
      replace ha := Aside0.mk ha
      have BB := Aside0.mk Q_BB
      have GX := Aside0.mk Q_GX
      have HZ := Aside0.mk (Q_HZ (hon 10 (by kernel_rfl)) hb_)
      have zc0 : w'.cell? ⟨w.heap.size + 1, 0, none⟩ = some (.int .u8 0) := (blk_cell HZ.out 0).trans rfl
      have zc1 : w'.cell? ⟨w.heap.size + 1, 1, none⟩ = some (.int .u32 0) := (blk_cell HZ.out 1).trans rfl
      have zc2 : w'.cell? ⟨w.heap.size + 1, 2, none⟩ = some (.int .u32 0) := (blk_cell HZ.out 2).trans rfl
      have zc3 : w'.cell? ⟨w.heap.size + 1, 3, none⟩ = some (.int .u16 0) := (blk_cell HZ.out 3).trans rfl
      have zc4 : w'.cell? ⟨w.heap.size + 1, 4, none⟩ = some (.int .u16 0) := (blk_cell HZ.out 4).trans rfl
      have zc5 : w'.cell? ⟨w.heap.size + 1, 5, none⟩ = some (.int .u32 0) := (blk_cell HZ.out 5).trans rfl
      have zc6 : w'.cell? ⟨w.heap.size + 1, 6, none⟩ = some (.int .u32 0) := (blk_cell HZ.out 6).trans rfl
      have zf0 := blk_frozen HZ.out 0
      have zf1 := blk_frozen HZ.out 1
      have zf2 := blk_frozen HZ.out 2
      have zf3 := blk_frozen HZ.out 3
      have zf4 := blk_frozen HZ.out 4
      have zf5 := blk_frozen HZ.out 5
      have zf6 := blk_frozen HZ.out 6
      refine skip_ (w1 := (((((((w'.setCell ⟨w.heap.size + 1, 0, none⟩ (.int .u8 h.k)).setCell ⟨w.heap.size + 1, 1, none⟩ (.int .u32 h.e)).setCell ⟨w.heap.size + 1, 2, none⟩ (.int .u32 h.b)).setCell ⟨w.heap.size + 1, 3, none⟩ (.int .u16 h.i)).setCell ⟨w.heap.size + 1, 4, none⟩ (.int .u16 h.c)).setCell ⟨w.heap.size + 1, 5, none⟩ (.int .u32 h.l)).setCell ⟨w.heap.size + 1, 6, none⟩ (.int .u32 h.m))) (by rfl) rfl ?_ ?_
      · go_simp
        try rfl
      refine hK.out _ _ ⟨(by rw [ha.out]; exact putSel_none (v := undef) rfl), bel7 BB.out (by omega) (.int .u8 h.k) (.int .u32 h.e) (.int .u32 h.b) (.int .u16 h.i) (.int .u16 h.c) (.int .u32 h.l) (.int .u32 h.m), far7 GX.out (by omega) (.int .u8 h.k) (.int .u32 h.e) (.int .u32 h.b) (.int .u16 h.i) (.int .u16 h.c) (.int .u32 h.l) (.int .u32 h.m), fun h0_ => absurd ((hon 10 (by kernel_rfl)).symm.trans h0_) (by decide), fun _ h1_ => absurd ((up_self b 13).symm.trans h1_) (by decide), fun _ => put7 HZ.out (.int .u8 h.k) (.int .u32 h.e) (.int .u32 h.b) (.int .u16 h.i) (.int .u16 h.c) (.int .u32 h.l) (.int .u32 h.m)⟩
    refine steps_cons ?_ ?_
    · rintro b a w' ⟨ha, Q_BB, Q_GX, Q_SZ, Q_HZ, Q_HB⟩ hb_ hon hoff
      refine ⟨_, rfl, fun K hK => ?_⟩
      have e21 : a.tmps[21]? = some (.slice I p ci) := by rw [ha]; exact putSel_on (e := (7, 21, .slice I p ci)) 3 rfl rfl (hon 7 (by kernel_rfl)) rfl
      replace ha := Aside0.mk ha
      have BB := Aside0.mk Q_BB
      have GX := Aside0.mk Q_GX
      have HB := Aside0.mk (Q_HB (hon 13 (by kernel_rfl)))
      refine value_ (w1 := w') (v := .slice I p ci) (by rfl) rfl ?_ ?_
      · go_simp
        (try simp only [i64_w])
        try rfl
      refine hK.out _ _ ⟨(by rw [ha.out]; exact putSel_upk 8 hb_ rfl rfl rfl), Q_BB, Q_GX, fun h0_ => absurd ((hon 10 (by kernel_rfl)).symm.trans h0_) (by decide), fun _ h1_ => absurd ((hon 13 (by kernel_rfl)).symm.trans h1_) (by decide), Q_HB⟩
    refine steps_cons ?_ ?_
    · rintro b a w' ⟨ha, Q_BB, Q_GX, Q_SZ, Q_HZ, Q_HB⟩ hb_ hon hoff
      refine ⟨_, rfl, fun K hK => ?_⟩
      have e23 : a.tmps[23]? = some (.slice J r cj) := by rw [ha]; exact putSel_on (e := (9, 23, .slice J r cj)) 4 rfl rfl (hon 9 (by kernel_rfl)) rfl
      replace ha := Aside0.mk ha
      have BB := Aside0.mk Q_BB
      have GX := Aside0.mk Q_GX
      have HB := Aside0.mk (Q_HB (hon 13 (by kernel_rfl)))
      refine value_ (w1 := w') (v := .slice J r cj) (by rfl) rfl ?_ ?_
      · go_simp
        (try simp only [i64_w])
        try rfl
      refine hK.out _ _ ⟨(by rw [ha.out]; exact putSel_upk 9 hb_ rfl rfl rfl), Q_BB, Q_GX, fun h0_ => absurd ((hon 10 (by kernel_rfl)).symm.trans h0_) (by decide), fun _ h1_ => absurd ((hon 13 (by kernel_rfl)).symm.trans h1_) (by decide), Q_HB⟩
    exact steps_nil
  · rintro b a w' hall ⟨ha, Q_BB, Q_GX, Q_SZ, Q_HZ, Q_HB⟩
    clear BB GX SZ
    have hb1_ := hall 1 (by kernel_rfl)
    have hb3_ := hall 3 (by kernel_rfl)
    have hb5_ := hall 5 (by kernel_rfl)
    have hb7_ := hall 7 (by kernel_rfl)
    have hb9_ := hall 9 (by kernel_rfl)
    have hb10_ := hall 10 (by kernel_rfl)
    have hb11_ := hall 11 (by kernel_rfl)
    have hb12_ := hall 12 (by kernel_rfl)
    have hb13_ := hall 13 (by kernel_rfl)
    have hb14_ := hall 14 (by kernel_rfl)
    have hb15_ := hall 15 (by kernel_rfl)
    subst ha
    simp only [putSel, hb1_, hb3_, hb5_, hb7_, hb9_, hb10_, hb11_, hb12_, hb13_, hb14_, hb15_, if_true, Act.put, List.setIfInBounds_toArray, List.set_cons_zero, List.set_cons_succ]
    have BB := Aside0.mk Q_BB
    clear Q_BB
    have GX := Aside0.mk Q_GX
    clear Q_GX
    clear Q_SZ
    clear Q_HZ
    have HB := Aside0.mk (Q_HB hb13_)
    clear Q_HB
    clear hall hb1_ hb3_ hb5_ hb7_ hb9_ hb10_ hb11_ hb12_ hb13_ hb14_ hb15_
    have T0 := Lib.hid BB.out
    have B0 := Lib.hid HB.out
    clear BB GX HB
    by_cases h6 : 600 < (n : Int)
    · go_wp2_with fail
      refine (sealed_any _).mono ?_
      rintro e w2 ⟨rfl, hb2⟩
      have T2 := Lib.hid (bl_seq T0.out hb2)
      clear hb2
      go_wp2_with fail
      go_ret
      exact ⟨rfl, T2.out⟩
    by_cases h1 : 100 < (m : Int)
    · go_wp2_with fail
      refine (sealed_any _).mono ?_
      rintro e w2 ⟨rfl, hb2⟩
      have T2 := Lib.hid (bl_seq T0.out hb2)
      clear hb2
      go_wp2_with fail
      go_ret
      exact ⟨rfl, T2.out⟩
    by_cases h10 : 10 < (p : Int)
    · go_wp2_with fail
      refine (sealed_any _).mono ?_
      rintro e w2 ⟨rfl, hb2⟩
      have T2 := Lib.hid (bl_seq T0.out hb2)
      clear hb2
      go_wp2_with fail
      go_ret
      exact ⟨rfl, T2.out⟩
    by_cases hrp : (r : Int) < (p : Int)
    · go_wp2_with fail
      refine (sealed_any _).mono ?_
      rintro e w2 ⟨rfl, hb2⟩
      have T2 := Lib.hid (bl_seq T0.out hb2)
      clear hb2
      go_wp2_with fail
      go_ret
      exact ⟨rfl, T2.out⟩
    go_wp2_with fail
    refine (open_any B A d n c m ys xs w' (HR.out.2.2.1.below T0.out) HR.out.2.2.2 hd (HR.out.1.below T0.out) HR.out.2.1 hc).mono ?_
    rintro e w1 ⟨hb1, he⟩
    have OK1 := Lib.hid (openR_ok (ys := xs) HR.out.2.2.2)
    have h5_ := fun (W : World) (hW : Below w.heap.size w W) => rOpen05 B A d n c m ys xs W (HR.out.2.2.1.below hW) HR.out.2.2.2 hd (HR.out.1.below hW) HR.out.2.1 hc (by omega)
    generalize openR xs ys = r1 at he OK1 h5_
    generalize openB xs ys = b1 at he h5_
    have H5 := Lib.hid h5_
    subst he
    have T1 := Lib.hid (bl_seq T0.out hb1)
    have B1 := Lib.hid (blk_below B0.out hb1)
    clear hb1 h5_ B0
    go_wp2_with fail
    have hx1 : (w1.alloc (.cells (hdC r1) 25)).heap[w1.heap.size]? = some (.cells #[.int .u8 r1.k, .int .u32 r1.e, .int .u32 r1.b, .int .u16 r1.i, .int .u16 r1.c, .int .u32 r1.l, .int .u32 r1.m] 25 (0, 0)) := heap_alloc_new _ _
    have t1 : Below w.heap.size w (w1.alloc (.cells (hdC r1) 25)) := bl_alloc T1.out _
    have b1_ := blk_alloc B1.out (.cells (hdC r1) 25)
    obtain ⟨xb, hxb⟩ : ∃ xb, w1.heap.size = xb := ⟨_, rfl⟩
    have XL := Lib.hid (show w.heap.size ≤ xb ∧ xb < (w1.alloc (.cells (hdC r1) 25)).heap.size from ⟨by rw [← hxb]; exact T1.out.size, by simp [hxb]⟩)
    rw [hxb] at hx1 ⊢
    generalize w1.alloc (.cells #[.int .u8 r1.k, .int .u32 r1.e, .int .u32 r1.b, .int .u16 r1.i, .int .u16 r1.c, .int .u32 r1.l, .int .u32 r1.m] 25) = w1b at hx1 t1 b1_ XL ⊢
    have X1 := Lib.hid hx1
    have T1b := Lib.hid t1
    have B1b := Lib.hid b1_
    clear hx1 t1 b1_ hxb B1
    refine (H5.out w1b T1b.out).mono ?_
    rintro e w2 ⟨hb2, rfl⟩
    have T2 := Lib.hid (bl_seq T1b.out hb2)
    have B2 := Lib.hid (blk_below B1b.out hb2)
    have X2 := Lib.hid (blk_below X1.out hb2)
    have Y2 := Lib.hid (show xb < w2.heap.size from Nat.lt_of_lt_of_le XL.out.2 hb2.size)
    have XG := Lib.hid XL.out.1
    clear hb2 XL B1b X1
    go_wp2_with fail
    have WB : Hid ((w2.alloc (.cells #[.int .i64 r1.k, .int .i64 r1.e, .int .i64 r1.b, .int .i64 r1.i, .int .i64 r1.c, .int .i64 r1.l, .int .i64 r1.m] 34)).heap[w2.heap.size]? = some (.cells #[.int .i64 r1.k, .int .i64 r1.e, .int .i64 r1.b, .int .i64 r1.i, .int .i64 r1.c, .int .i64 r1.l, .int .i64 r1.m] 34 (0, 0))) := Lib.hid (heap_alloc_new _ _)
    have XB := Lib.hid (blk_alloc X2.out (.cells #[.int .i64 r1.k, .int .i64 r1.e, .int .i64 r1.b, .int .i64 r1.i, .int .i64 r1.c, .int .i64 r1.l, .int .i64 r1.m] 34))
    have B3 := Lib.hid (blk_alloc B2.out (.cells #[.int .i64 r1.k, .int .i64 r1.e, .int .i64 r1.b, .int .i64 r1.i, .int .i64 r1.c, .int .i64 r1.l, .int .i64 r1.m] 34))
    have BB : Hid (Below w2.heap.size w2 (w2.alloc (.cells #[.int .i64 r1.k, .int .i64 r1.e, .int .i64 r1.b, .int .i64 r1.i, .int .i64 r1.c, .int .i64 r1.l, .int .i64 r1.m] 34))) := Lib.hid (bl_alloc (Below.refl _ _) _)
    obtain ⟨wb, hwb⟩ : ∃ wb, w2.heap.size = wb := ⟨_, rfl⟩
    have WZ := Lib.hid (show xb < wb ∧ wb < (w2.alloc (.cells #[.int .i64 r1.k, .int .i64 r1.e, .int .i64 r1.b, .int .i64 r1.i, .int .i64 r1.c, .int .i64 r1.l, .int .i64 r1.m] 34)).heap.size from ⟨by rw [← hwb]; exact Y2.out, by simp [hwb]⟩)
    have HWB := Lib.hid hwb
    rw [hwb] at WB ⊢
    generalize w2.alloc (.cells #[.int .i64 r1.k, .int .i64 r1.e, .int .i64 r1.b, .int .i64 r1.i, .int .i64 r1.c, .int .i64 r1.l, .int .i64 r1.m] 34) = wy at WB XB B3 BB WZ ⊢
    clear hwb X2 Y2
    refine start_ (n := 13) (S := fun w' => True) (ds := []) #[false, false, false, false, false, false, false, false, false, false, false, false, false] (by kernel_rfl) rfl rfl trivial (fun hHeld => ?_)
    refine with_tabW RoeR.tab6 RoeR.bits6 (fun HT_ HW_ => ?_)
    have BB := Lib.hid (bl_drew BB.out)
    have XB := Lib.hid (show wy.drew.heap[xb]? = _ from XB.out)
    have WB := Lib.hid (show wy.drew.heap[wb]? = _ from WB.out)
    generalize wy.drew = wz at BB XB WB hHeld ⊢
    refine inv_at [0, 1, 2, 3, 4, 5, 6, 7, 8, 9, 10, 11, 12] (fun a0_ b a w' => a = putSel a0_ b [(0, 57, .bool true), (1, 58, .bool false), (2, 59, .bool false), (3, 60, .bool b1), (4, 61, .bool b1), (5, 62, .bool false), (6, 63, .bool false), (7, 64, .bool false), (8, 65, .agg #[.int .u8 r1.k, .int .u32 r1.e, .int .u32 r1.b, .int .u16 r1.i, .int .u16 r1.c, .int .u32 r1.l, .int .u32 r1.m]), (9, 66, .agg #[.int .i64 r1.k, .int .i64 r1.e, .int .i64 r1.b, .int .i64 r1.i, .int .i64 r1.c, .int .i64 r1.l, .int .i64 r1.m]), (10, 67, .agg #[.int .i64 r1.k, .int .i64 r1.e, .int .i64 r1.b, .int .i64 r1.i, .int .i64 r1.c, .int .i64 r1.l, .int .i64 r1.m]), (11, 68, .bool false), (12, 69, .bool false)] ∧ (Below w2.heap.size w2 w') ∧ (w'.heap[xb]? = some (.cells #[.int .u8 r1.k, .int .u32 r1.e, .int .u32 r1.b, .int .u16 r1.i, .int .u16 r1.c, .int .u32 r1.l, .int .u32 r1.m] 25 (0, 0))) ∧ (w'.heap[wb]? = some (.cells #[.int .i64 r1.k, .int .i64 r1.e, .int .i64 r1.b, .int .i64 r1.i, .int .i64 r1.c, .int .i64 r1.l, .int .i64 r1.m] 34 (0, 0)))) HT_.out HW_.out (by kernel_rfl) (by kernel_rfl) ?_ ?_ ?_
    · exact ⟨by simp only [putSel, Bool.false_eq_true, if_false], BB.out, XB.out, WB.out⟩
    · skip
      clear BB WB XB
      refine steps_cons ?_ ?_
      · rintro b a w' ⟨ha, Q_BB, Q_XB, Q_WB⟩ hb_ hon hoff
        refine ⟨_, rfl, fun K hK => ?_⟩
        replace ha := Aside0.mk ha
        have BB := Aside0.mk Q_BB
        have XB := Aside0.mk Q_XB
        have WB := Aside0.mk Q_WB
        refine goes_ Try.func10 (by kernel_rfl) rfl #[] (by rfl) rfl rfl (by first | (simp only [List.map_toArray, List.map_cons, List.map_nil, Act.eval, Array.getD_eq_getD_getElem?, Option.getD_some]; done) | (simp only [List.map_toArray, List.map_cons, List.map_nil, Act.eval, Array.getD_eq_getD_getElem?, Option.getD_some]; rfl)) ?_
        refine (sealed_any w').mono ?_
        rintro e w1 ⟨rfl, g1⟩
        refine ⟨_, rfl, ?_⟩
        refine hK.out _ _ ⟨(by rw [ha.out]; exact putSel_upk 0 hb_ rfl rfl rfl), bl_seq BB.out g1, blk_below XB.out g1, blk_below WB.out g1⟩
      refine steps_cons ?_ ?_
      · rintro b a w' ⟨ha, Q_BB, Q_XB, Q_WB⟩ hb_ hon hoff
        refine ⟨_, rfl, fun K hK => ?_⟩
        have e57 : a.tmps[57]? = some (.bool true) := by rw [ha]; exact putSel_on (e := (0, 57, .bool true)) 0 rfl rfl (hon 0 (by kernel_rfl)) rfl
        replace ha := Aside0.mk ha
        have BB := Aside0.mk Q_BB
        have XB := Aside0.mk Q_XB
        have WB := Aside0.mk Q_WB
        refine value_ (w1 := w') (v := .bool false) (by rfl) rfl ?_ ?_
        · go_simp
          (try simp only [i64_w])
          try rfl
        refine hK.out _ _ ⟨(by rw [ha.out]; exact putSel_upk 1 hb_ rfl rfl rfl), Q_BB, Q_XB, Q_WB⟩
      refine steps_cons ?_ ?_
      · rintro b a w' ⟨ha, Q_BB, Q_XB, Q_WB⟩ hb_ hon hoff
        refine ⟨_, rfl, fun K hK => ?_⟩
        have e58 : a.tmps[58]? = some (.bool false) := by rw [ha]; exact putSel_on (e := (1, 58, .bool false)) 1 rfl rfl (hon 1 (by kernel_rfl)) rfl
        replace ha := Aside0.mk ha
        have BB := Aside0.mk Q_BB
        have XB := Aside0.mk Q_XB
        have WB := Aside0.mk Q_WB
        refine value_ (w1 := w') (v := .bool false) (by rfl) rfl ?_ ?_
        · go_simp
          (try simp only [i64_w])
          try rfl
        refine hK.out _ _ ⟨(by rw [ha.out]; exact putSel_upk 2 hb_ rfl rfl rfl), Q_BB, Q_XB, Q_WB⟩
      refine steps_cons ?_ ?_
      · rintro b a w' ⟨ha, Q_BB, Q_XB, Q_WB⟩ hb_ hon hoff
        refine ⟨_, rfl, fun K hK => ?_⟩
        have e9 : a.tmps[9]? = some (.bool b1) := by rw [ha]; exact (putSel_off rfl).trans rfl
        have e59 : a.tmps[59]? = some (.bool false) := by rw [ha]; exact putSel_on (e := (2, 59, .bool false)) 2 rfl rfl (hon 2 (by kernel_rfl)) rfl
        replace ha := Aside0.mk ha
        have BB := Aside0.mk Q_BB
        have XB := Aside0.mk Q_XB
        have WB := Aside0.mk Q_WB
        refine value_ (w1 := w') (v := .bool b1) (wanted_on rfl rfl rfl (e59.trans (by first | rfl | (simp [*]; done)))) rfl ?_ ?_
        · go_simp
          (try simp only [i64_w])
          try rfl
        refine hK.out _ _ ⟨(by rw [ha.out]; exact putSel_upk 3 hb_ rfl rfl rfl), Q_BB, Q_XB, Q_WB⟩
      refine steps_cons ?_ ?_
      · rintro b a w' ⟨ha, Q_BB, Q_XB, Q_WB⟩ hb_ hon hoff
        refine ⟨_, rfl, fun K hK => ?_⟩
        have e11 : a.tmps[11]? = some (.bool b1) := by rw [ha]; exact (putSel_off rfl).trans rfl
        have e59 : a.tmps[59]? = some (.bool false) := by rw [ha]; exact putSel_on (e := (2, 59, .bool false)) 2 rfl rfl (hon 2 (by kernel_rfl)) rfl
        replace ha := Aside0.mk ha
        have BB := Aside0.mk Q_BB
        have XB := Aside0.mk Q_XB
        have WB := Aside0.mk Q_WB
        refine value_ (w1 := w') (v := .bool b1) (wanted_on rfl rfl rfl (e59.trans (by first | rfl | (simp [*]; done)))) rfl ?_ ?_
        · go_simp
          (try simp only [i64_w])
          try rfl
        refine hK.out _ _ ⟨(by rw [ha.out]; exact putSel_upk 4 hb_ rfl rfl rfl), Q_BB, Q_XB, Q_WB⟩
      refine steps_cons ?_ ?_
      · rintro b a w' ⟨ha, Q_BB, Q_XB, Q_WB⟩ hb_ hon hoff
        refine ⟨_, rfl, fun K hK => ?_⟩
        have e60 : a.tmps[60]? = some (.bool b1) := by rw [ha]; exact putSel_on (e := (3, 60, .bool b1)) 3 rfl rfl (hon 3 (by kernel_rfl)) rfl
        have e61 : a.tmps[61]? = some (.bool b1) := by rw [ha]; exact putSel_on (e := (4, 61, .bool b1)) 4 rfl rfl (hon 4 (by kernel_rfl)) rfl
        have e59 : a.tmps[59]? = some (.bool false) := by rw [ha]; exact putSel_on (e := (2, 59, .bool false)) 2 rfl rfl (hon 2 (by kernel_rfl)) rfl
        replace ha := Aside0.mk ha
        have BB := Aside0.mk Q_BB
        have XB := Aside0.mk Q_XB
        have WB := Aside0.mk Q_WB
        refine value_ (w1 := w') (v := .bool false) (wanted_on rfl rfl rfl (e59.trans (by first | rfl | (simp [*]; done)))) rfl ?_ ?_
        · go_simp
        refine hK.out _ _ ⟨(by rw [ha.out]; exact putSel_upk 5 hb_ rfl rfl rfl), BB.out, XB.out, WB.out⟩
      refine steps_cons ?_ ?_
      · rintro b a w' ⟨ha, Q_BB, Q_XB, Q_WB⟩ hb_ hon hoff
        refine ⟨_, rfl, fun K hK => ?_⟩
        have e59 : a.tmps[59]? = some (.bool false) := by rw [ha]; exact putSel_on (e := (2, 59, .bool false)) 2 rfl rfl (hon 2 (by kernel_rfl)) rfl
        have e62 : a.tmps[62]? = some (.bool false) := by rw [ha]; exact putSel_on (e := (5, 62, .bool false)) 5 rfl rfl (hon 5 (by kernel_rfl)) rfl
        replace ha := Aside0.mk ha
        have BB := Aside0.mk Q_BB
        have XB := Aside0.mk Q_XB
        have WB := Aside0.mk Q_WB
        refine value_ (w1 := w') (v := .bool false) (by rfl) rfl ?_ ?_
        · go_simp
          (try simp only [i64_w])
          try rfl
        refine hK.out _ _ ⟨(by rw [ha.out]; exact putSel_upk 6 hb_ rfl rfl rfl), Q_BB, Q_XB, Q_WB⟩
      refine steps_cons ?_ ?_
      · rintro b a w' ⟨ha, Q_BB, Q_XB, Q_WB⟩ hb_ hon hoff
        refine ⟨_, rfl, fun K hK => ?_⟩
        have e63 : a.tmps[63]? = some (.bool false) := by rw [ha]; exact putSel_on (e := (6, 63, .bool false)) 6 rfl rfl (hon 6 (by kernel_rfl)) rfl
        replace ha := Aside0.mk ha
        have BB := Aside0.mk Q_BB
        have XB := Aside0.mk Q_XB
        have WB := Aside0.mk Q_WB
        refine value_ (w1 := w') (v := .bool false) (by rfl) rfl ?_ ?_
        · go_simp
          (try simp only [i64_w])
          try rfl
        refine hK.out _ _ ⟨(by rw [ha.out]; exact putSel_upk 7 hb_ rfl rfl rfl), Q_BB, Q_XB, Q_WB⟩
      refine steps_cons ?_ ?_
      · rintro b a w' ⟨ha, Q_BB, Q_XB, Q_WB⟩ hb_ hon hoff
        refine ⟨_, rfl, fun K hK => ?_⟩
        have e8 : a.tmps[8]? = some (.pointer (some ⟨xb, 0, none⟩)) := by rw [ha]; exact (putSel_off rfl).trans rfl
        have e64 : a.tmps[64]? = some (.bool false) := by rw [ha]; exact putSel_on (e := (7, 64, .bool false)) 7 rfl rfl (hon 7 (by kernel_rfl)) rfl
        replace ha := Aside0.mk ha
        have BB := Aside0.mk Q_BB
        have XB := Aside0.mk Q_XB
        have WB := Aside0.mk Q_WB
        have hc0_ : w'.cell? ⟨xb, 0, none⟩ = some (.int .u8 r1.k) := (blk_cell XB.out 0).trans rfl
        have hc1_ : w'.cell? ⟨xb, 1, none⟩ = some (.int .u32 r1.e) := (blk_cell XB.out 1).trans rfl
        have hc2_ : w'.cell? ⟨xb, 2, none⟩ = some (.int .u32 r1.b) := (blk_cell XB.out 2).trans rfl
        have hc3_ : w'.cell? ⟨xb, 3, none⟩ = some (.int .u16 r1.i) := (blk_cell XB.out 3).trans rfl
        have hc4_ : w'.cell? ⟨xb, 4, none⟩ = some (.int .u16 r1.c) := (blk_cell XB.out 4).trans rfl
        have hc5_ : w'.cell? ⟨xb, 5, none⟩ = some (.int .u32 r1.l) := (blk_cell XB.out 5).trans rfl
        have hc6_ : w'.cell? ⟨xb, 6, none⟩ = some (.int .u32 r1.m) := (blk_cell XB.out 6).trans rfl
        refine value_ (w1 := w') (v := .agg #[.int .u8 r1.k, .int .u32 r1.e, .int .u32 r1.b, .int .u16 r1.i, .int .u16 r1.c, .int .u32 r1.l, .int .u32 r1.m]) (wanted_on rfl rfl rfl (e64.trans (by first | rfl | (simp [*]; done)))) rfl ?_ ?_
        · go_simp
          (try simp only [i64_w])
          try rfl
        refine hK.out _ _ ⟨(by rw [ha.out]; exact putSel_upk 8 hb_ rfl rfl rfl), Q_BB, Q_XB, Q_WB⟩
      refine steps_cons ?_ ?_
      · rintro b a w' ⟨ha, Q_BB, Q_XB, Q_WB⟩ hb_ hon hoff
        refine ⟨_, rfl, fun K hK => ?_⟩
        have e65 : a.tmps[65]? = some (.agg #[.int .u8 r1.k, .int .u32 r1.e, .int .u32 r1.b, .int .u16 r1.i, .int .u16 r1.c, .int .u32 r1.l, .int .u32 r1.m]) := by rw [ha]; exact putSel_on (e := (8, 65, .agg #[.int .u8 r1.k, .int .u32 r1.e, .int .u32 r1.b, .int .u16 r1.i, .int .u16 r1.c, .int .u32 r1.l, .int .u32 r1.m])) 8 rfl rfl (hon 8 (by kernel_rfl)) rfl
        have e64 : a.tmps[64]? = some (.bool false) := by rw [ha]; exact putSel_on (e := (7, 64, .bool false)) 7 rfl rfl (hon 7 (by kernel_rfl)) rfl
        replace ha := Aside0.mk ha
        have BB := Aside0.mk Q_BB
        have XB := Aside0.mk Q_XB
        have WB := Aside0.mk Q_WB
        refine goes_ Try.func15 (by kernel_rfl) rfl #[.agg #[.int .u8 r1.k, .int .u32 r1.e, .int .u32 r1.b, .int .u16 r1.i, .int .u16 r1.c, .int .u32 r1.l, .int .u32 r1.m]] (wanted_on rfl rfl rfl (e64.trans (by first | rfl | (simp [*]; done)))) rfl rfl (by first | (simp only [List.map_toArray, List.map_cons, List.map_nil, Act.eval, Array.getD_eq_getD_getElem?, Option.getD_some, e65, e64]; done) | (simp only [List.map_toArray, List.map_cons, List.map_nil, Act.eval, Array.getD_eq_getD_getElem?, Option.getD_some, e65, e64]; rfl)) ?_
        refine (of05 r1 w' OK1.out).mono ?_
        rintro e w1 ⟨rfl, g1⟩
        refine ⟨_, rfl, ?_⟩
        refine hK.out _ _ ⟨(by rw [ha.out]; exact putSel_upk 9 hb_ rfl rfl rfl), bl_seq BB.out g1, blk_below XB.out g1, blk_below WB.out g1⟩
      refine steps_cons ?_ ?_
      · rintro b a w' ⟨ha, Q_BB, Q_XB, Q_WB⟩ hb_ hon hoff
        refine ⟨_, rfl, fun K hK => ?_⟩
        have e10 : a.tmps[10]? = some (.pointer (some ⟨wb, 0, none⟩)) := by rw [ha]; exact (putSel_off rfl).trans rfl
        have e64 : a.tmps[64]? = some (.bool false) := by rw [ha]; exact putSel_on (e := (7, 64, .bool false)) 7 rfl rfl (hon 7 (by kernel_rfl)) rfl
        replace ha := Aside0.mk ha
        have BB := Aside0.mk Q_BB
        have XB := Aside0.mk Q_XB
        have WB := Aside0.mk Q_WB
        have hc0_ : w'.cell? ⟨wb, 0, none⟩ = some (.int .i64 r1.k) := (blk_cell WB.out 0).trans rfl
        have hc1_ : w'.cell? ⟨wb, 1, none⟩ = some (.int .i64 r1.e) := (blk_cell WB.out 1).trans rfl
        have hc2_ : w'.cell? ⟨wb, 2, none⟩ = some (.int .i64 r1.b) := (blk_cell WB.out 2).trans rfl
        have hc3_ : w'.cell? ⟨wb, 3, none⟩ = some (.int .i64 r1.i) := (blk_cell WB.out 3).trans rfl
        have hc4_ : w'.cell? ⟨wb, 4, none⟩ = some (.int .i64 r1.c) := (blk_cell WB.out 4).trans rfl
        have hc5_ : w'.cell? ⟨wb, 5, none⟩ = some (.int .i64 r1.l) := (blk_cell WB.out 5).trans rfl
        have hc6_ : w'.cell? ⟨wb, 6, none⟩ = some (.int .i64 r1.m) := (blk_cell WB.out 6).trans rfl
        refine value_ (w1 := w') (v := .agg #[.int .i64 r1.k, .int .i64 r1.e, .int .i64 r1.b, .int .i64 r1.i, .int .i64 r1.c, .int .i64 r1.l, .int .i64 r1.m]) (wanted_on rfl rfl rfl (e64.trans (by first | rfl | (simp [*]; done)))) rfl ?_ ?_
        · go_simp
          (try simp only [i64_w])
          try rfl
        refine hK.out _ _ ⟨(by rw [ha.out]; exact putSel_upk 10 hb_ rfl rfl rfl), Q_BB, Q_XB, Q_WB⟩
      refine steps_cons ?_ ?_
      · rintro b a w' ⟨ha, Q_BB, Q_XB, Q_WB⟩ hb_ hon hoff
        refine ⟨_, rfl, fun K hK => ?_⟩
        have e66 : a.tmps[66]? = some (.agg #[.int .i64 r1.k, .int .i64 r1.e, .int .i64 r1.b, .int .i64 r1.i, .int .i64 r1.c, .int .i64 r1.l, .int .i64 r1.m]) := by rw [ha]; exact putSel_on (e := (9, 66, .agg #[.int .i64 r1.k, .int .i64 r1.e, .int .i64 r1.b, .int .i64 r1.i, .int .i64 r1.c, .int .i64 r1.l, .int .i64 r1.m])) 9 rfl rfl (hon 9 (by kernel_rfl)) rfl
        have e67 : a.tmps[67]? = some (.agg #[.int .i64 r1.k, .int .i64 r1.e, .int .i64 r1.b, .int .i64 r1.i, .int .i64 r1.c, .int .i64 r1.l, .int .i64 r1.m]) := by rw [ha]; exact putSel_on (e := (10, 67, .agg #[.int .i64 r1.k, .int .i64 r1.e, .int .i64 r1.b, .int .i64 r1.i, .int .i64 r1.c, .int .i64 r1.l, .int .i64 r1.m])) 10 rfl rfl (hon 10 (by kernel_rfl)) rfl
        have e64 : a.tmps[64]? = some (.bool false) := by rw [ha]; exact putSel_on (e := (7, 64, .bool false)) 7 rfl rfl (hon 7 (by kernel_rfl)) rfl
        replace ha := Aside0.mk ha
        have BB := Aside0.mk Q_BB
        have XB := Aside0.mk Q_XB
        have WB := Aside0.mk Q_WB
        refine value_ (w1 := w') (v := .bool false) (wanted_on rfl rfl rfl (e64.trans (by first | rfl | (simp [*]; done)))) rfl ?_ ?_
        · have h_ := ne64 r1 w'
          go_simp
          try simp [h_]
        refine hK.out _ _ ⟨(by rw [ha.out]; exact putSel_upk 11 hb_ rfl rfl rfl), BB.out, XB.out, WB.out⟩
      refine steps_cons ?_ ?_
      · rintro b a w' ⟨ha, Q_BB, Q_XB, Q_WB⟩ hb_ hon hoff
        refine ⟨_, rfl, fun K hK => ?_⟩
        have e64 : a.tmps[64]? = some (.bool false) := by rw [ha]; exact putSel_on (e := (7, 64, .bool false)) 7 rfl rfl (hon 7 (by kernel_rfl)) rfl
        have e68 : a.tmps[68]? = some (.bool false) := by rw [ha]; exact putSel_on (e := (11, 68, .bool false)) 11 rfl rfl (hon 11 (by kernel_rfl)) rfl
        replace ha := Aside0.mk ha
        have BB := Aside0.mk Q_BB
        have XB := Aside0.mk Q_XB
        have WB := Aside0.mk Q_WB
        refine value_ (w1 := w') (v := .bool false) (by rfl) rfl ?_ ?_
        · go_simp
          (try simp only [i64_w])
          try rfl
        refine hK.out _ _ ⟨(by rw [ha.out]; exact putSel_upk 12 hb_ rfl rfl rfl), Q_BB, Q_XB, Q_WB⟩
      exact steps_nil
    · rintro b a w' hall ⟨ha, Q_BB, Q_XB, Q_WB⟩
      clear BB WB XB
      have hb0_ := hall 0 (by kernel_rfl)
      have hb1_ := hall 1 (by kernel_rfl)
      have hb2_ := hall 2 (by kernel_rfl)
      have hb3_ := hall 3 (by kernel_rfl)
      have hb4_ := hall 4 (by kernel_rfl)
      have hb5_ := hall 5 (by kernel_rfl)
      have hb6_ := hall 6 (by kernel_rfl)
      have hb7_ := hall 7 (by kernel_rfl)
      have hb8_ := hall 8 (by kernel_rfl)
      have hb9_ := hall 9 (by kernel_rfl)
      have hb10_ := hall 10 (by kernel_rfl)
      have hb11_ := hall 11 (by kernel_rfl)
      have hb12_ := hall 12 (by kernel_rfl)
      subst ha
      simp only [putSel, hb0_, hb1_, hb2_, hb3_, hb4_, hb5_, hb6_, hb7_, hb8_, hb9_, hb10_, hb11_, hb12_, if_true, Act.put, List.setIfInBounds_toArray, List.set_cons_zero, List.set_cons_succ]
      have BB := Aside0.mk Q_BB
      clear Q_BB
      have XB := Aside0.mk Q_XB
      clear Q_XB
      have WB := Aside0.mk Q_WB
      clear Q_WB
      clear hall hb0_ hb1_ hb2_ hb3_ hb4_ hb5_ hb6_ hb7_ hb8_ hb9_ hb10_ hb11_ hb12_
      replace BB := Lib.hid BB.out
      replace XB := Lib.hid XB.out
      replace WB := Lib.hid WB.out
      have T7 := Lib.hid (bl_seq T2.out BB.out)
      have B7 := Lib.hid (blk_below B2.out BB.out)
      have Z7 := Lib.hid (show xb < w'.heap.size ∧ wb < w'.heap.size from ⟨by have h_ := blk_lt XB.out; exact h_, by have h_ := blk_lt WB.out; exact h_⟩)
      obtain ⟨w7, hw7⟩ : ∃ w7, w7 = w' := ⟨_, rfl⟩
      rw [← hw7] at T7 B7 XB WB Z7 ⊢
      clear hw7 BB T2 B2 OK1 H5
      have z0 : w7.cell? ⟨w.heap.size + 1, 0, none⟩ = some (.int .u8 h.k) := (blk_cell B7.out 0).trans rfl
      have z1 : w7.cell? ⟨w.heap.size + 1, 1, none⟩ = some (.int .u32 h.e) := (blk_cell B7.out 1).trans rfl
      have z2 : w7.cell? ⟨w.heap.size + 1, 2, none⟩ = some (.int .u32 h.b) := (blk_cell B7.out 2).trans rfl
      have z3 : w7.cell? ⟨w.heap.size + 1, 3, none⟩ = some (.int .u16 h.i) := (blk_cell B7.out 3).trans rfl
      have z4 : w7.cell? ⟨w.heap.size + 1, 4, none⟩ = some (.int .u16 h.c) := (blk_cell B7.out 4).trans rfl
      have z5 : w7.cell? ⟨w.heap.size + 1, 5, none⟩ = some (.int .u32 h.l) := (blk_cell B7.out 5).trans rfl
      have z6 : w7.cell? ⟨w.heap.size + 1, 6, none⟩ = some (.int .u32 h.m) := (blk_cell B7.out 6).trans rfl
      go_wp2_with fail
      clear z0 z1 z2 z3 z4 z5 z6
      refine (Seal_any h A none c 0 n 0 xs [] w7 HO.out (HR.out.1.below T7.out) hc HR.out.2.1 (by omega) ⟨rfl, by omega, fun h => absurd h (by omega)⟩ (by omega) (fun x hx => by cases hx)).mono ?_
      rintro e w8 ⟨v8, rfl, hn8⟩
      obtain ⟨A8, c8, rfl, hc8⟩ := hn8.shape 64 (sealL_length _ _ _)
      have ho8 := hn8.own (sealL_length _ _ _)
      have hby8 := sealL_byt h xs (bes := []) (fun x hx => by cases hx)
      have hln8 := sealL_length h xs []
      obtain ⟨g, rfl, hg, hg2⟩ := own_some ho8 (by omega)
      generalize sealL h xs [] = os0 at ho8 hby8 hln8
      have O8 := Lib.hid (show ∃ os, Byt os ∧ os.length = 64 ∧ w8.ownsRow w7.heap.size 5 1 (.slice (some ⟨g, 0, none⟩) 64 c8) 64 (nums .u8 os) from ⟨os0, hby8, hln8, ho8⟩)
      have T8 := Lib.hid hn8.bel
      have HG := Lib.hid (And.intro hg (And.intro (show w.heap.size ≤ g from Nat.le_trans T7.out.size hg) (And.intro (show xb ≠ g from by have h_ := Z7.out.1; omega) (show wb ≠ g from by have h_ := Z7.out.2; omega))))
      clear hn8 ho8 hby8 hln8 hg hg2
      go_wp2_with fail
      go_loopw [13] (fun i wr => ∃ k : Nat, k ≤ p ∧ i = .int .i64 (k : Int) ∧ Hid (∃ os, Byt os ∧ os.length = 64 ∧ wr.ownsRow w7.heap.size 5 1 (.slice (some ⟨g, 0, none⟩) 64 c8) 64 (nums .u8 os)) ∧ Hid (Below w7.heap.size w7 wr)) (fun i _ => p - (intOf i).toNat)
      case atStart => exact ⟨0, Nat.zero_le _, rfl, O8, T8⟩
      case round =>
        obtain ⟨k, hk, rfl, HOs, HB⟩ := hrel
        clear O8 T8
        by_cases hlt : k < p
        · obtain ⟨os, hby, hln, ho⟩ := HOs.out
          have hz1 := (HI.out.1.below (bl_seq T7.out HB.out)).at_ (k : Int) (by omega) (by omega)
          have hu1 := (HI.out.2.1.below (bl_seq T7.out HB.out)).at_ (k : Int) (by omega) (by omega)
          have hub := HI.out.2.2 (us.getD k 0) (by rw [List.getD_eq_getElem?_getD, List.getElem?_eq_getElem (by have h_ := HI.out.2.1.1; omega)]; simp)
          obtain ⟨adz, hez, hcz⟩ := hz1
          obtain ⟨adu, heu, hcu⟩ := hu1
          have hIz : I = some adz := hez
          have hJu : J = some adu := heu
          rw [Int.toNat_natCast, rd_getD] at hcz hcu
          obtain ⟨qz, hqz⟩ : ∃ qz, zs.getD k 0 = qz := ⟨_, rfl⟩
          obtain ⟨qu, hqu⟩ : ∃ qu, us.getD k 0 = qu := ⟨_, rfl⟩
          rw [hqz] at hcz
          rw [hqu] at hcu hub
          obtain ⟨pp, hpp, hp64⟩ := modU qz 64 (by omega) (by omega)
          have hp2 : pp < 64 := by omega
          obtain ⟨hc3, hf3⟩ := own_at ho (pp : Int) (by omega) (by omega)
          rw [Int.toNat_natCast] at hc3 hf3
          have OO := Lib.hid (And.intro hby (And.intro hln (And.intro ho (And.intro hub HB.out))))
          clear hby hln ho hub hqz hqu HOs HB hez heu
          go_wp2
          go_region
          go_wp2
          go_roundw
          case rel =>
            refine ⟨k + 1, by omega, by go_num, Lib.hid ⟨os.set pp qu, ?_, ?_, ?_⟩, Lib.hid (bl_drew (OO.out.2.2.2.2.setCell (p := ⟨g, pp, none⟩) HG.out.1 _))⟩
            · intro x hx
              rcases List.mem_or_eq_of_mem_set hx with hx | rfl
              · exact OO.out.1 x hx
              · exact OO.out.2.2.2.1
            · rw [List.length_set]; exact OO.out.2.1
            · have h_ := (own_store OO.out.2.2.1 (pp : Int) qu).1
              rw [Int.toNat_natCast] at h_
              exact h_
          case measure => simp [intOf]; omega
        · obtain ⟨os, hby, hln, ho⟩ := HOs.out
          have OO := Lib.hid (And.intro hby (And.intro hln ho))
          have T9 := Lib.hid (bl_seq T7.out HB.out)
          have X9 := Lib.hid (blk_below XB.out HB.out)
          have W9 := Lib.hid (blk_below WB.out HB.out)
          clear hby hln ho HOs HB XB WB
          go_wp2_with fail
          refine (open_any _ A c8 n c 64 os xs wr (own_reads' OO.out.2.2) OO.out.1 hc8 (HR.out.1.below T9.out) HR.out.2.1 hc).mono ?_
          rintro e w10 ⟨hb10, he⟩
          have OK2 := Lib.hid (openR_ok (ys := xs) OO.out.1)
          have h5_ := fun (W : World) (hW : Below w.heap.size w W) (ho_ : W.ownsRow w7.heap.size 5 1 (.slice (some ⟨g, 0, none⟩) 64 c8) 64 (nums .u8 os)) => rOpen05 (some ⟨g, 0, none⟩) A c8 n c 64 os xs W (own_reads' ho_) OO.out.1 hc8 (HR.out.1.below hW) HR.out.2.1 hc (by omega)
          generalize openR xs os = r2 at he OK2 h5_
          generalize openB xs os = b2 at he h5_
          have H5 := Lib.hid h5_
          subst he
          have T10 := Lib.hid (bl_seq T9.out hb10)
          have X10 := Lib.hid (blk_below X9.out hb10)
          have W10 := Lib.hid (blk_below W9.out hb10)
          have O10 := Lib.hid (own_move OO.out.2.2 fun k hk => hb10.block k (OO.out.2.2.lt k hk).2)
          clear hb10 h5_ X9 W9 T9
          have y0 := (blk_cell X10.out 0).trans rfl
          have q0 := blk_frozen X10.out 0
          have y1 := (blk_cell X10.out 1).trans rfl
          have q1 := blk_frozen X10.out 1
          have y2 := (blk_cell X10.out 2).trans rfl
          have q2 := blk_frozen X10.out 2
          have y3 := (blk_cell X10.out 3).trans rfl
          have q3 := blk_frozen X10.out 3
          have y4 := (blk_cell X10.out 4).trans rfl
          have q4 := blk_frozen X10.out 4
          have y5 := (blk_cell X10.out 5).trans rfl
          have q5 := blk_frozen X10.out 5
          have y6 := (blk_cell X10.out 6).trans rfl
          have q6 := blk_frozen X10.out 6
          go_wp2_with fail
          clear y0 q0 y1 q1 y2 q2 y3 q3 y4 q4 y5 q5 y6 q6
          have x11 := put7 X10.out (.int .u8 r2.k) (.int .u32 r2.e) (.int .u32 r2.b) (.int .u16 r2.i) (.int .u16 r2.c) (.int .u32 r2.l) (.int .u32 r2.m)
          have t11 := bel7 T10.out XG.out (.int .u8 r2.k) (.int .u32 r2.e) (.int .u32 r2.b) (.int .u16 r2.i) (.int .u16 r2.c) (.int .u32 r2.l) (.int .u32 r2.m)
          have w11_ := far7 W10.out (Ne.symm (Nat.ne_of_lt WZ.out.1)) (.int .u8 r2.k) (.int .u32 r2.e) (.int .u32 r2.b) (.int .u16 r2.i) (.int .u16 r2.c) (.int .u32 r2.l) (.int .u32 r2.m)
          have o11 := own_far7 O10.out (show some xb ≠ (Value.slice (some ⟨g, 0, none⟩) 64 c8).ownBlock from fun e => HG.out.2.2.1 (Option.some.inj e)) (.int .u8 r2.k) (.int .u32 r2.e) (.int .u32 r2.b) (.int .u16 r2.i) (.int .u16 r2.c) (.int .u32 r2.l) (.int .u32 r2.m)
          generalize (((((((w10.setCell ⟨xb, 0, none⟩ (.int .u8 r2.k)).setCell ⟨xb, 1, none⟩ (.int .u32 r2.e)).setCell ⟨xb, 2, none⟩ (.int .u32 r2.b)).setCell ⟨xb, 3, none⟩ (.int .u16 r2.i)).setCell ⟨xb, 4, none⟩ (.int .u16 r2.c)).setCell ⟨xb, 5, none⟩ (.int .u32 r2.l)).setCell ⟨xb, 6, none⟩ (.int .u32 r2.m)) = w11 at x11 t11 w11_ o11 ⊢
          have h5b := H5.out w11 t11 o11
          have X11 := Lib.hid x11
          have T11 := Lib.hid t11
          have W11 := Lib.hid w11_
          clear x11 t11 w11_ o11 O10 X10 W10 T10 H5
          refine h5b.mono ?_
          rintro e w12 ⟨hb12, rfl⟩
          have T12 := Lib.hid (bl_seq T11.out hb12)
          have X12 := Lib.hid (blk_below X11.out hb12)
          have W12 := Lib.hid (blk_below W11.out hb12)
          clear hb12 h5b X11 T11 W11
          have y0 := (blk_cell W12.out 0).trans rfl
          have q0 := blk_frozen W12.out 0
          have y1 := (blk_cell W12.out 1).trans rfl
          have q1 := blk_frozen W12.out 1
          have y2 := (blk_cell W12.out 2).trans rfl
          have q2 := blk_frozen W12.out 2
          have y3 := (blk_cell W12.out 3).trans rfl
          have q3 := blk_frozen W12.out 3
          have y4 := (blk_cell W12.out 4).trans rfl
          have q4 := blk_frozen W12.out 4
          have y5 := (blk_cell W12.out 5).trans rfl
          have q5 := blk_frozen W12.out 5
          have y6 := (blk_cell W12.out 6).trans rfl
          have q6 := blk_frozen W12.out 6
          go_wp2_with fail
          clear y0 q0 y1 q1 y2 q2 y3 q3 y4 q4 y5 q5 y6 q6
          have w13_ := put7 W12.out (.int .i64 r2.k) (.int .i64 r2.e) (.int .i64 r2.b) (.int .i64 r2.i) (.int .i64 r2.c) (.int .i64 r2.l) (.int .i64 r2.m)
          have t13 := bel7 T12.out (Nat.le_trans XG.out (Nat.le_of_lt WZ.out.1)) (.int .i64 r2.k) (.int .i64 r2.e) (.int .i64 r2.b) (.int .i64 r2.i) (.int .i64 r2.c) (.int .i64 r2.l) (.int .i64 r2.m)
          have x13 := far7 X12.out (Nat.ne_of_lt WZ.out.1) (.int .i64 r2.k) (.int .i64 r2.e) (.int .i64 r2.b) (.int .i64 r2.i) (.int .i64 r2.c) (.int .i64 r2.l) (.int .i64 r2.m)
          generalize (((((((w12.setCell ⟨wb, 0, none⟩ (.int .i64 r2.k)).setCell ⟨wb, 1, none⟩ (.int .i64 r2.e)).setCell ⟨wb, 2, none⟩ (.int .i64 r2.b)).setCell ⟨wb, 3, none⟩ (.int .i64 r2.i)).setCell ⟨wb, 4, none⟩ (.int .i64 r2.c)).setCell ⟨wb, 5, none⟩ (.int .i64 r2.l)).setCell ⟨wb, 6, none⟩ (.int .i64 r2.m)) = wy at w13_ t13 x13 ⊢
          have BB := Lib.hid t13
          have XB := Lib.hid x13
          have WB := Lib.hid w13_
          clear w13_ t13 x13 T12 X12 W12
          refine start_ (n := 10) (S := fun w' => True) (ds := []) #[false, false, false, false, false, false, false, false, false, false] (by kernel_rfl) rfl rfl trivial (fun hHeld => ?_)
          refine with_tabW RoeR.tab17 RoeR.bits17 (fun HT_ HW_ => ?_)
          have BB := Lib.hid (bl_drew BB.out)
          have XB := Lib.hid (show wy.drew.heap[xb]? = _ from XB.out)
          have WB := Lib.hid (show wy.drew.heap[wb]? = _ from WB.out)
          generalize wy.drew = wz at BB XB WB hHeld ⊢
          refine pure_ (i := 0) (N := some 107) (v := ?_) (a' := ?_) #[true, false, false, false, false, false, false, false, false, false] rfl rfl (any_of HT_.out (by kernel_rfl)) (fun _ _ _ h => h) (Or.inl ⟨by rfl, ?_⟩) ?_ ?_
          rotate_left
          · intro w'
            go_simp
            with_reducible rfl
          rotate_left
          · simp only [Act.put, List.setIfInBounds_toArray, List.set_cons_zero, List.set_cons_succ, i64_w, i32_w]
            rfl
          refine pure_ (i := 1) (N := some 108) (v := ?_) (a' := ?_) #[true, true, false, false, false, false, false, false, false, false] rfl rfl (any_of HT_.out (by kernel_rfl)) (fun _ _ _ h => h) (Or.inl ⟨by rfl, ?_⟩) ?_ ?_
          rotate_left
          · intro w'
            go_simp
            with_reducible rfl
          rotate_left
          · simp only [Act.put, List.setIfInBounds_toArray, List.set_cons_zero, List.set_cons_succ, i64_w, i32_w]
            rfl
          refine inv_at [2, 3, 4, 5, 6, 7, 8, 9] (fun a0_ b a w' => a = putSel a0_ b [(2, 109, .bool true), (3, 110, .bool true), (4, 111, .agg #[.int .u8 r2.k, .int .u32 r2.e, .int .u32 r2.b, .int .u16 r2.i, .int .u16 r2.c, .int .u32 r2.l, .int .u32 r2.m]), (5, 112, .agg #[.int .i64 r2.k, .int .i64 r2.e, .int .i64 r2.b, .int .i64 r2.i, .int .i64 r2.c, .int .i64 r2.l, .int .i64 r2.m]), (6, 113, .agg #[.int .i64 r2.k, .int .i64 r2.e, .int .i64 r2.b, .int .i64 r2.i, .int .i64 r2.c, .int .i64 r2.l, .int .i64 r2.m]), (7, 114, .bool true), (8, 115, .bool true), (9, 2, .bool true)] ∧ (Below w.heap.size w w') ∧ (w'.heap[xb]? = some (.cells #[.int .u8 r2.k, .int .u32 r2.e, .int .u32 r2.b, .int .u16 r2.i, .int .u16 r2.c, .int .u32 r2.l, .int .u32 r2.m] 25 (0, 0))) ∧ (w'.heap[wb]? = some (.cells #[.int .i64 r2.k, .int .i64 r2.e, .int .i64 r2.b, .int .i64 r2.i, .int .i64 r2.c, .int .i64 r2.l, .int .i64 r2.m] 34 (0, 0)))) HT_.out HW_.out (by kernel_rfl) (by kernel_rfl) ?_ ?_ ?_
          · exact ⟨by simp only [putSel, Bool.false_eq_true, if_false], BB.out, XB.out, WB.out⟩
          · skip
            clear BB WB XB
            refine steps_cons ?_ ?_
            · rintro b a w' ⟨ha, Q_BB, Q_XB, Q_WB⟩ hb_ hon hoff
              refine ⟨_, rfl, fun K hK => ?_⟩
              have e107 : a.tmps[107]? = some (.bool b2) := by rw [ha]; exact (putSel_off rfl).trans rfl
              have e108 : a.tmps[108]? = some (.bool b2) := by rw [ha]; exact (putSel_off rfl).trans rfl
              replace ha := Aside0.mk ha
              have BB := Aside0.mk Q_BB
              have XB := Aside0.mk Q_XB
              have WB := Aside0.mk Q_WB
              refine value_ (w1 := w') (v := .bool true) (by rfl) rfl ?_ ?_
              · go_simp
              refine hK.out _ _ ⟨(by rw [ha.out]; exact putSel_upk 0 hb_ rfl rfl rfl), BB.out, XB.out, WB.out⟩
            refine steps_cons ?_ ?_
            · rintro b a w' ⟨ha, Q_BB, Q_XB, Q_WB⟩ hb_ hon hoff
              refine ⟨_, rfl, fun K hK => ?_⟩
              have e109 : a.tmps[109]? = some (.bool true) := by rw [ha]; exact putSel_on (e := (2, 109, .bool true)) 0 rfl rfl (hon 2 (by kernel_rfl)) rfl
              replace ha := Aside0.mk ha
              have BB := Aside0.mk Q_BB
              have XB := Aside0.mk Q_XB
              have WB := Aside0.mk Q_WB
              refine value_ (w1 := w') (v := .bool true) (by rfl) rfl ?_ ?_
              · go_simp
                (try simp only [i64_w])
                try rfl
              refine hK.out _ _ ⟨(by rw [ha.out]; exact putSel_upk 1 hb_ rfl rfl rfl), Q_BB, Q_XB, Q_WB⟩
            refine steps_cons ?_ ?_
            · rintro b a w' ⟨ha, Q_BB, Q_XB, Q_WB⟩ hb_ hon hoff
              refine ⟨_, rfl, fun K hK => ?_⟩
              have e8 : a.tmps[8]? = some (.pointer (some ⟨xb, 0, none⟩)) := by rw [ha]; exact (putSel_off rfl).trans rfl
              have e110 : a.tmps[110]? = some (.bool true) := by rw [ha]; exact putSel_on (e := (3, 110, .bool true)) 1 rfl rfl (hon 3 (by kernel_rfl)) rfl
              replace ha := Aside0.mk ha
              have BB := Aside0.mk Q_BB
              have XB := Aside0.mk Q_XB
              have WB := Aside0.mk Q_WB
              have hc0_ : w'.cell? ⟨xb, 0, none⟩ = some (.int .u8 r2.k) := (blk_cell XB.out 0).trans rfl
              have hc1_ : w'.cell? ⟨xb, 1, none⟩ = some (.int .u32 r2.e) := (blk_cell XB.out 1).trans rfl
              have hc2_ : w'.cell? ⟨xb, 2, none⟩ = some (.int .u32 r2.b) := (blk_cell XB.out 2).trans rfl
              have hc3_ : w'.cell? ⟨xb, 3, none⟩ = some (.int .u16 r2.i) := (blk_cell XB.out 3).trans rfl
              have hc4_ : w'.cell? ⟨xb, 4, none⟩ = some (.int .u16 r2.c) := (blk_cell XB.out 4).trans rfl
              have hc5_ : w'.cell? ⟨xb, 5, none⟩ = some (.int .u32 r2.l) := (blk_cell XB.out 5).trans rfl
              have hc6_ : w'.cell? ⟨xb, 6, none⟩ = some (.int .u32 r2.m) := (blk_cell XB.out 6).trans rfl
              refine value_ (w1 := w') (v := .agg #[.int .u8 r2.k, .int .u32 r2.e, .int .u32 r2.b, .int .u16 r2.i, .int .u16 r2.c, .int .u32 r2.l, .int .u32 r2.m]) (wanted_on rfl rfl rfl (e110.trans (by first | rfl | (simp [*]; done)))) rfl ?_ ?_
              · go_simp
                (try simp only [i64_w])
                try rfl
              refine hK.out _ _ ⟨(by rw [ha.out]; exact putSel_upk 2 hb_ rfl rfl rfl), Q_BB, Q_XB, Q_WB⟩
            refine steps_cons ?_ ?_
            · rintro b a w' ⟨ha, Q_BB, Q_XB, Q_WB⟩ hb_ hon hoff
              refine ⟨_, rfl, fun K hK => ?_⟩
              have e111 : a.tmps[111]? = some (.agg #[.int .u8 r2.k, .int .u32 r2.e, .int .u32 r2.b, .int .u16 r2.i, .int .u16 r2.c, .int .u32 r2.l, .int .u32 r2.m]) := by rw [ha]; exact putSel_on (e := (4, 111, .agg #[.int .u8 r2.k, .int .u32 r2.e, .int .u32 r2.b, .int .u16 r2.i, .int .u16 r2.c, .int .u32 r2.l, .int .u32 r2.m])) 2 rfl rfl (hon 4 (by kernel_rfl)) rfl
              have e110 : a.tmps[110]? = some (.bool true) := by rw [ha]; exact putSel_on (e := (3, 110, .bool true)) 1 rfl rfl (hon 3 (by kernel_rfl)) rfl
              replace ha := Aside0.mk ha
              have BB := Aside0.mk Q_BB
              have XB := Aside0.mk Q_XB
              have WB := Aside0.mk Q_WB
              refine goes_ Try.func15 (by kernel_rfl) rfl #[.agg #[.int .u8 r2.k, .int .u32 r2.e, .int .u32 r2.b, .int .u16 r2.i, .int .u16 r2.c, .int .u32 r2.l, .int .u32 r2.m]] (wanted_on rfl rfl rfl (e110.trans (by first | rfl | (simp [*]; done)))) rfl rfl (by first | (simp only [List.map_toArray, List.map_cons, List.map_nil, Act.eval, Array.getD_eq_getD_getElem?, Option.getD_some, e111, e110]; done) | (simp only [List.map_toArray, List.map_cons, List.map_nil, Act.eval, Array.getD_eq_getD_getElem?, Option.getD_some, e111, e110]; rfl)) ?_
              refine (of05 r2 w' OK2.out).mono ?_
              rintro e w1 ⟨rfl, g1⟩
              refine ⟨_, rfl, ?_⟩
              refine hK.out _ _ ⟨(by rw [ha.out]; exact putSel_upk 3 hb_ rfl rfl rfl), bl_seq BB.out g1, blk_below XB.out g1, blk_below WB.out g1⟩
            refine steps_cons ?_ ?_
            · rintro b a w' ⟨ha, Q_BB, Q_XB, Q_WB⟩ hb_ hon hoff
              refine ⟨_, rfl, fun K hK => ?_⟩
              have e10 : a.tmps[10]? = some (.pointer (some ⟨wb, 0, none⟩)) := by rw [ha]; exact (putSel_off rfl).trans rfl
              have e110 : a.tmps[110]? = some (.bool true) := by rw [ha]; exact putSel_on (e := (3, 110, .bool true)) 1 rfl rfl (hon 3 (by kernel_rfl)) rfl
              replace ha := Aside0.mk ha
              have BB := Aside0.mk Q_BB
              have XB := Aside0.mk Q_XB
              have WB := Aside0.mk Q_WB
              have hc0_ : w'.cell? ⟨wb, 0, none⟩ = some (.int .i64 r2.k) := (blk_cell WB.out 0).trans rfl
              have hc1_ : w'.cell? ⟨wb, 1, none⟩ = some (.int .i64 r2.e) := (blk_cell WB.out 1).trans rfl
              have hc2_ : w'.cell? ⟨wb, 2, none⟩ = some (.int .i64 r2.b) := (blk_cell WB.out 2).trans rfl
              have hc3_ : w'.cell? ⟨wb, 3, none⟩ = some (.int .i64 r2.i) := (blk_cell WB.out 3).trans rfl
              have hc4_ : w'.cell? ⟨wb, 4, none⟩ = some (.int .i64 r2.c) := (blk_cell WB.out 4).trans rfl
              have hc5_ : w'.cell? ⟨wb, 5, none⟩ = some (.int .i64 r2.l) := (blk_cell WB.out 5).trans rfl
              have hc6_ : w'.cell? ⟨wb, 6, none⟩ = some (.int .i64 r2.m) := (blk_cell WB.out 6).trans rfl
              refine value_ (w1 := w') (v := .agg #[.int .i64 r2.k, .int .i64 r2.e, .int .i64 r2.b, .int .i64 r2.i, .int .i64 r2.c, .int .i64 r2.l, .int .i64 r2.m]) (wanted_on rfl rfl rfl (e110.trans (by first | rfl | (simp [*]; done)))) rfl ?_ ?_
              · go_simp
                (try simp only [i64_w])
                try rfl
              refine hK.out _ _ ⟨(by rw [ha.out]; exact putSel_upk 4 hb_ rfl rfl rfl), Q_BB, Q_XB, Q_WB⟩
            refine steps_cons ?_ ?_
            · rintro b a w' ⟨ha, Q_BB, Q_XB, Q_WB⟩ hb_ hon hoff
              refine ⟨_, rfl, fun K hK => ?_⟩
              have e112 : a.tmps[112]? = some (.agg #[.int .i64 r2.k, .int .i64 r2.e, .int .i64 r2.b, .int .i64 r2.i, .int .i64 r2.c, .int .i64 r2.l, .int .i64 r2.m]) := by rw [ha]; exact putSel_on (e := (5, 112, .agg #[.int .i64 r2.k, .int .i64 r2.e, .int .i64 r2.b, .int .i64 r2.i, .int .i64 r2.c, .int .i64 r2.l, .int .i64 r2.m])) 3 rfl rfl (hon 5 (by kernel_rfl)) rfl
              have e113 : a.tmps[113]? = some (.agg #[.int .i64 r2.k, .int .i64 r2.e, .int .i64 r2.b, .int .i64 r2.i, .int .i64 r2.c, .int .i64 r2.l, .int .i64 r2.m]) := by rw [ha]; exact putSel_on (e := (6, 113, .agg #[.int .i64 r2.k, .int .i64 r2.e, .int .i64 r2.b, .int .i64 r2.i, .int .i64 r2.c, .int .i64 r2.l, .int .i64 r2.m])) 4 rfl rfl (hon 6 (by kernel_rfl)) rfl
              have e110 : a.tmps[110]? = some (.bool true) := by rw [ha]; exact putSel_on (e := (3, 110, .bool true)) 1 rfl rfl (hon 3 (by kernel_rfl)) rfl
              replace ha := Aside0.mk ha
              have BB := Aside0.mk Q_BB
              have XB := Aside0.mk Q_XB
              have WB := Aside0.mk Q_WB
              refine value_ (w1 := w') (v := .bool true) (wanted_on rfl rfl rfl (e110.trans (by first | rfl | (simp [*]; done)))) rfl ?_ ?_
              · have h_ := eq64 r2 w'
                go_simp
                try simp [h_]
              refine hK.out _ _ ⟨(by rw [ha.out]; exact putSel_upk 5 hb_ rfl rfl rfl), BB.out, XB.out, WB.out⟩
            refine steps_cons ?_ ?_
            · rintro b a w' ⟨ha, Q_BB, Q_XB, Q_WB⟩ hb_ hon hoff
              refine ⟨_, rfl, fun K hK => ?_⟩
              have e110 : a.tmps[110]? = some (.bool true) := by rw [ha]; exact putSel_on (e := (3, 110, .bool true)) 1 rfl rfl (hon 3 (by kernel_rfl)) rfl
              have e114 : a.tmps[114]? = some (.bool true) := by rw [ha]; exact putSel_on (e := (7, 114, .bool true)) 5 rfl rfl (hon 7 (by kernel_rfl)) rfl
              replace ha := Aside0.mk ha
              have BB := Aside0.mk Q_BB
              have XB := Aside0.mk Q_XB
              have WB := Aside0.mk Q_WB
              refine value_ (w1 := w') (v := .bool true) (by rfl) rfl ?_ ?_
              · go_simp
                (try simp only [i64_w])
                try rfl
              refine hK.out _ _ ⟨(by rw [ha.out]; exact putSel_upk 6 hb_ rfl rfl rfl), Q_BB, Q_XB, Q_WB⟩
            refine steps_cons ?_ ?_
            · rintro b a w' ⟨ha, Q_BB, Q_XB, Q_WB⟩ hb_ hon hoff
              refine ⟨_, rfl, fun K hK => ?_⟩
              have e115 : a.tmps[115]? = some (.bool true) := by rw [ha]; exact putSel_on (e := (8, 115, .bool true)) 6 rfl rfl (hon 8 (by kernel_rfl)) rfl
              replace ha := Aside0.mk ha
              have BB := Aside0.mk Q_BB
              have XB := Aside0.mk Q_XB
              have WB := Aside0.mk Q_WB
              refine value_ (w1 := w') (v := .bool true) (by rfl) rfl ?_ ?_
              · go_simp
                (try simp only [i64_w])
                try rfl
              refine hK.out _ _ ⟨(by rw [ha.out]; exact putSel_upk 7 hb_ rfl rfl rfl), Q_BB, Q_XB, Q_WB⟩
            exact steps_nil
          · rintro b a w' hall ⟨ha, Q_BB, Q_XB, Q_WB⟩
            clear BB WB XB
            have hb2_ := hall 2 (by kernel_rfl)
            have hb3_ := hall 3 (by kernel_rfl)
            have hb4_ := hall 4 (by kernel_rfl)
            have hb5_ := hall 5 (by kernel_rfl)
            have hb6_ := hall 6 (by kernel_rfl)
            have hb7_ := hall 7 (by kernel_rfl)
            have hb8_ := hall 8 (by kernel_rfl)
            have hb9_ := hall 9 (by kernel_rfl)
            subst ha
            simp only [putSel, hb2_, hb3_, hb4_, hb5_, hb6_, hb7_, hb8_, hb9_, if_true, Act.put, List.setIfInBounds_toArray, List.set_cons_zero, List.set_cons_succ]
            have BB := Aside0.mk Q_BB
            clear Q_BB
            have XB := Aside0.mk Q_XB
            clear Q_XB
            have WB := Aside0.mk Q_WB
            clear Q_WB
            clear hall hb2_ hb3_ hb4_ hb5_ hb6_ hb7_ hb8_ hb9_
            have T14 := Lib.hid BB.out
            go_wp2_with fail
            go_ret
            exact ⟨rfl, T14.out⟩
end Go.Proofs.Ytkmfdnoklabndaa
