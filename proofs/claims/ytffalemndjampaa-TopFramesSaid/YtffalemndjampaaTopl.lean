import Derived.Test.YtffalemndjampaaTopc
/-! The law TopFrames: its walk. -/
set_option linter.unusedVariables false
set_option linter.unusedSimpArgs false
namespace Go.Proofs.Ytffalemndjampaa
open Go.RowKit Go.Proofs.YtffalemndjampaaW.PrintWords Go.Proofs.YtffalemndjampaaW.PrintLast
def TplR.T1 : Bool × List (List Nat × List Nat) := (true, [([], []), ([0], [0]), ([], []), ([2], [2]), ([], []), ([4], [4]), ([], []), ([6], [6]), ([], []), ([], []), ([], []), ([], []), ([8, 1, 0, 1, 8, 9, 10, 11], [1, 8]), ([9, 3, 12, 0, 1, 2, 3, 8, 9, 10, 11, 12], [3, 9]), ([10, 5, 13, 0, 1, 2, 3, 4, 5, 8, 9, 10, 11, 12, 13], [5, 10]), ([11, 7, 14, 0, 1, 2, 3, 4, 5, 6, 7, 8, 9, 10, 11, 12, 13, 14], [7, 11])])
def TplR.B1 : List Nat := [0, 1, 0, 4, 0, 16, 0, 64, 0, 0, 0, 0, 3843, 7951, 16191, 32767]
theorem TplR.tab1 : rtab .any (opsOf Try.f3 1) = TplR.T1 := by kernel_rfl
theorem TplR.bits1 : waitsOk TplR.T1.2 TplR.B1 = true := by kernel_rfl
def TplR.T11 : Bool × List (List Nat × List Nat) := (true, [([], []), ([], []), ([], []), ([1, 2], [1, 2]), ([3], [3]), ([4], [4]), ([5], [5]), ([], []), ([], []), ([7, 8], [7, 8]), ([9], [9]), ([10], [10]), ([11], [11]), ([6, 12], [6, 12]), ([0, 13, 12], [0, 13]), ([], []), ([], []), ([15, 16], [15, 16]), ([17], [17]), ([14, 18, 14], [14, 18])])
def TplR.B11 : List Nat := [0, 0, 0, 6, 14, 30, 62, 0, 0, 384, 896, 1920, 3968, 8190, 16383, 0, 0, 98304, 229376, 524287]
theorem TplR.tab11 : rtab .any (opsOf Try.f3 11) = TplR.T11 := by kernel_rfl
theorem TplR.bits11 : waitsOk TplR.T11.2 TplR.B11 = true := by kernel_rfl
theorem makeFunc_ (fn : Fn) (first cap : Array Value) (w : World) : (Instr.makeFunc fn first cap).run Try.prog w = .ok (.func fn first cap) w := rfl
theorem WrV.new (w : World) : WrV (w.alloc (.cells #[.slice none 0 0] 29)) w.heap.size w.heap.size (.slice none 0 0) [] :=
  ⟨heap_alloc_new w _, own_nil _ _ _ _⟩
theorem frame_les (L : List Int) (p : List Int) : L ++ les 4 [(p.length : Int), crcOf p] ++ p = L ++ frameL p := by simp [les, frameL, List.append_assoc]
theorem bw_below {B : Nat} {w w1 w2 : World} (h : Below B w w1) (hs : w.heap.size ≤ w1.heap.size) (hB : B ≤ w.heap.size) (k : Below w1.heap.size w1 w2) : Below B w w2 := h.trans (k.mono (Nat.le_trans hB hs))
theorem bw_alloc {B : Nat} {w w1 : World} (h : Below B w w1) (hs : w.heap.size ≤ w1.heap.size) (hB : B ≤ w.heap.size) (o : Obj) : Below B w (w1.alloc o) := bw_below h hs hB (bl_alloc (Below.refl _ _) o)
theorem bw_drew {B : Nat} {w w1 : World} (h : Below B w.drew w1) : Below B w w1 := ⟨h.os, h.tape, h.output, h.size, h.block⟩
theorem blk_low {B b : Nat} {w w1 : World} {o : Obj} (h : b < B ∧ w.heap[b]? = some o) (k : Below B w w1) : w1.heap[b]? = some o := (k.block b h.1).trans h.2
theorem cell_low {B : Nat} {a : Addr} {w w1 : World} {v : Value} (h : a.block < B ∧ w.cell? a = some v) (k : Below B w w1) : w1.cell? a = some v := (World.cell?_of_block (k.block _ h.1)).trans h.2
/-- A row that lies below B. -/
def RowOkL (B : Nat) (w : World) (r : Row) : Prop := RowOk w r ∧ ∀ a, 0 < r.l.length → r.A = some a → a.block < B
theorem row_low {B : Nat} {w w1 : World} {r : Row} (h : RowOkL B w r) (k : Below B w w1) : RowOk w1 r :=
  ⟨h.1.1, ⟨h.1.2.1.1, h.1.2.1.2.1, fun hn => by
    obtain ⟨ad, e, hc⟩ := h.1.2.1.2.2 hn
    refine ⟨ad, e, fun j hj => ?_⟩
    have hb : (ad.add j).block = ad.block := by unfold Addr.add; split <;> rfl
    exact cell_low ⟨by rw [hb]; exact h.2 ad hn e, hc j hj⟩ k⟩, h.1.2.2⟩
theorem RowOk.low {w W : World} {r : Row} (h : RowOk w r) (hb : Below w.heap.size w W) {B : Nat} (hB : w.heap.size ≤ B) : RowOkL B W r :=
  ⟨h.below hb, fun a hn e => by
    obtain ⟨ad, e2, hc⟩ := h.2.1.2.2 hn
    obtain rfl := Option.some.inj (e.symm.trans e2)
    have h_ := World.block_lt_of_cell? w _ (hc 0 hn)
    have hb0 : (a.add 0).block = a.block := rfl
    rw [hb0] at h_
    omega⟩
set_option maxHeartbeats 4000000 in
set_option maxRecDepth 100000 in
theorem topl_walk (rs : List Row) (AP : Option Addr) (cP bt : Nat) (wh at0 : Int) (w : World) (hr : RdRows w AP rs) (hbt : bt < 4294967296) :
    Calls Try.prog 3 #[.agg #[.slice AP rs.length cP, .int .i64 wh, .int .i64 at0, .int .u32 (bt : Int)]] w fun e w' => e = .returned (.bool true) ∧ Below w.heap.size w w' := by
  have HR := Lib.hid hr
  have hrl := hr.1
  have hmf := makeFunc_
  have HBT := Lib.hid hbt
  have GX : Hid ((w.alloc (.cells #[.slice AP rs.length cP, .int .i64 wh, .int .i64 at0, .int .u32 (bt : Int)] 25)).heap[w.heap.size]? = some (.cells #[.slice AP rs.length cP, .int .i64 wh, .int .i64 at0, .int .u32 (bt : Int)] 25 (0, 0))) := Lib.hid (heap_alloc_new w _)
  have BB : Hid (Below w.heap.size w (w.alloc (.cells #[.slice AP rs.length cP, .int .i64 wh, .int .i64 at0, .int .u32 (bt : Int)] 25))) := Lib.hid (bl_alloc (Below.refl _ _) _)
  clear hr hbt
  go_enter Try.func3, Try.ntmps3
  go_wp2_with fail
  obtain ⟨w0, hw0⟩ : ∃ w0, (w.alloc (.cells #[.slice AP rs.length cP, .int .i64 wh, .int .i64 at0, .int .u32 (bt : Int)] 25)) = w0 := ⟨_, rfl⟩
  rw [hw0] at GX BB ⊢
  clear hw0
  refine start_ (n := 16) (S := fun w' => True) (ds := []) #[false, false, false, false, false, false, false, false, false, false, false, false, false, false, false, false] (by kernel_rfl) rfl rfl trivial (fun hHeld => ?_)
  refine with_tabW TplR.tab1 TplR.bits1 (fun HT_ HW_ => ?_)
  have BB := Lib.hid (bl_drew BB.out)
  have GX := Lib.hid (show w0.drew.heap[w.heap.size]? = _ from GX.out)
  generalize w0.drew = wz at BB GX hHeld ⊢
  have LT0 := Lib.hid (show 0 < wz.heap.size by have h_ := blk_lt GX.out; omega)
  have LT1 := Lib.hid (show 0 < wz.heap.size by have h_ := blk_lt GX.out; omega)
  have LT2 := Lib.hid (show 0 < wz.heap.size by have h_ := blk_lt GX.out; omega)
  have LT3 := Lib.hid (show 0 < wz.heap.size by have h_ := blk_lt GX.out; omega)
  refine pure_ (i := 0) (N := some 12) (v := ?_) (a' := ?_) #[true, false, false, false, false, false, false, false, false, false, false, false, false, false, false, false] rfl rfl (any_of HT_.out (by kernel_rfl)) (fun _ _ _ h => h) (Or.inl ⟨by rfl, ?_⟩) ?_ ?_
  rotate_left
  · intro w'
    go_simp
    with_reducible rfl
  rotate_left
  · simp only [Act.put, List.setIfInBounds_toArray, List.set_cons_zero, List.set_cons_succ, i64_w, i32_w]
    rfl
  refine pure_ (i := 2) (N := some 14) (v := ?_) (a' := ?_) #[true, false, true, false, false, false, false, false, false, false, false, false, false, false, false, false] rfl rfl (any_of HT_.out (by kernel_rfl)) (fun _ _ _ h => h) (Or.inl ⟨by rfl, ?_⟩) ?_ ?_
  rotate_left
  · intro w'
    go_simp
    with_reducible rfl
  rotate_left
  · simp only [Act.put, List.setIfInBounds_toArray, List.set_cons_zero, List.set_cons_succ, i64_w, i32_w]
    rfl
  refine pure_ (i := 4) (N := some 16) (v := ?_) (a' := ?_) #[true, false, true, false, true, false, false, false, false, false, false, false, false, false, false, false] rfl rfl (any_of HT_.out (by kernel_rfl)) (fun _ _ _ h => h) (Or.inl ⟨by rfl, ?_⟩) ?_ ?_
  rotate_left
  · intro w'
    go_simp
    with_reducible rfl
  rotate_left
  · simp only [Act.put, List.setIfInBounds_toArray, List.set_cons_zero, List.set_cons_succ, i64_w, i32_w]
    rfl
  refine pure_ (i := 6) (N := some 18) (v := ?_) (a' := ?_) #[true, false, true, false, true, false, true, false, false, false, false, false, false, false, false, false] rfl rfl (any_of HT_.out (by kernel_rfl)) (fun _ _ _ h => h) (Or.inl ⟨by rfl, ?_⟩) ?_ ?_
  rotate_left
  · intro w'
    go_simp
    with_reducible rfl
  rotate_left
  · simp only [Act.put, List.setIfInBounds_toArray, List.set_cons_zero, List.set_cons_succ, i64_w, i32_w]
    rfl
  refine inv_at [1, 3, 5, 7, 8, 9, 10, 11, 12, 13, 14, 15] (fun a0_ b a w' => ∃ (bp : Nat) (bw : Nat) (ba : Nat) (bb : Nat) (m8_ : Value) (m9_ : Value) (m10_ : Value) (m11_ : Value), a = putSel a0_ b [(1, 13, .slice AP rs.length cP), (3, 15, .int .i64 wh), (5, 17, .int .i64 at0), (7, 19, .int .u32 (bt : Int)), (8, 3, m8_), (9, 4, m9_), (10, 5, m10_), (11, 6, m11_)] ∧ (Below w.heap.size w w') ∧ (w'.heap[w.heap.size]? = some (.cells #[.slice AP rs.length cP, .int .i64 wh, .int .i64 at0, .int .u32 (bt : Int)] 25 (0, 0))) ∧ (bp < w'.heap.size) ∧ (b 8 = true → w.heap.size < bp) ∧ (b 8 = true → b 12 = false → w'.heap[bp]? = some (.cells #[.slice none 0 0] 22 (0, 0))) ∧ (b 12 = true → w'.heap[bp]? = some (.cells #[.slice AP rs.length cP] 22 (0, 0))) ∧ (bw < w'.heap.size) ∧ (b 9 = true → w.heap.size < bw) ∧ (b 9 = true → b 13 = false → w'.heap[bw]? = some (.cells #[.int .i64 0] 3 (0, 0))) ∧ (b 13 = true → w'.heap[bw]? = some (.cells #[.int .i64 wh] 3 (0, 0))) ∧ (b 8 = true → b 9 = true → bp ≠ bw) ∧ (ba < w'.heap.size) ∧ (b 10 = true → w.heap.size < ba) ∧ (b 10 = true → b 14 = false → w'.heap[ba]? = some (.cells #[.int .i64 0] 3 (0, 0))) ∧ (b 14 = true → w'.heap[ba]? = some (.cells #[.int .i64 at0] 3 (0, 0))) ∧ (b 8 = true → b 10 = true → bp ≠ ba) ∧ (b 9 = true → b 10 = true → bw ≠ ba) ∧ (bb < w'.heap.size) ∧ (b 11 = true → w.heap.size < bb) ∧ (b 11 = true → b 15 = false → w'.heap[bb]? = some (.cells #[.int .u32 0] 23 (0, 0))) ∧ (b 15 = true → w'.heap[bb]? = some (.cells #[.int .u32 (bt : Int)] 23 (0, 0))) ∧ (b 8 = true → b 11 = true → bp ≠ bb) ∧ (b 9 = true → b 11 = true → bw ≠ bb) ∧ (b 10 = true → b 11 = true → ba ≠ bb) ∧ (b 8 = true → (m8_ : Value) = .pointer (some ⟨bp, 0, none⟩)) ∧ (b 9 = true → (m9_ : Value) = .pointer (some ⟨bw, 0, none⟩)) ∧ (b 10 = true → (m10_ : Value) = .pointer (some ⟨ba, 0, none⟩)) ∧ (b 11 = true → (m11_ : Value) = .pointer (some ⟨bb, 0, none⟩))) HT_.out HW_.out (by kernel_rfl) (by kernel_rfl) ?_ ?_ ?_
  · exact ⟨0, 0, 0, 0, .bool false, .bool false, .bool false, .bool false, by simp only [putSel, Bool.false_eq_true, if_false], BB.out, GX.out, LT0.out, fun h_ => absurd h_ (by decide), fun h_ => absurd h_ (by decide), fun h_ => absurd h_ (by decide), LT1.out, fun h_ => absurd h_ (by decide), fun h_ => absurd h_ (by decide), fun h_ => absurd h_ (by decide), fun h_ => absurd h_ (by decide), LT2.out, fun h_ => absurd h_ (by decide), fun h_ => absurd h_ (by decide), fun h_ => absurd h_ (by decide), fun h_ => absurd h_ (by decide), fun h_ => absurd h_ (by decide), LT3.out, fun h_ => absurd h_ (by decide), fun h_ => absurd h_ (by decide), fun h_ => absurd h_ (by decide), fun h_ => absurd h_ (by decide), fun h_ => absurd h_ (by decide), fun h_ => absurd h_ (by decide), fun h_ => absurd h_ (by decide), fun h_ => absurd h_ (by decide), fun h_ => absurd h_ (by decide), fun h_ => absurd h_ (by decide)⟩
  · skip
    clear BB GX LT0 LT1 LT2 LT3
    refine steps_cons ?_ ?_
    · rintro b a w' ⟨bp, bw, ba, bb, m8_, m9_, m10_, m11_, ha, Q_BB, Q_GX, Q_LT0, Q_GE0, Q_HZ0, Q_HV0, Q_LT1, Q_GE1, Q_HZ1, Q_HV1, Q_SEP01, Q_LT2, Q_GE2, Q_HZ2, Q_HV2, Q_SEP02, Q_SEP12, Q_LT3, Q_GE3, Q_HZ3, Q_HV3, Q_SEP03, Q_SEP13, Q_SEP23, Q_X8_, Q_X9_, Q_X10_, Q_X11_⟩ hb_ hon hoff
      refine ⟨_, rfl, fun K hK => ?_⟩
      have e12 : a.tmps[12]? = some (.pointer (some ⟨w.heap.size, 0, none⟩)) := by rw [ha]; exact (putSel_off rfl).trans rfl
      replace ha := Aside0.mk ha
      have BB := Aside0.mk Q_BB
      have GX := Aside0.mk Q_GX
      have LT0 := Aside0.mk Q_LT0
      have LT1 := Aside0.mk Q_LT1
      have LT2 := Aside0.mk Q_LT2
      have LT3 := Aside0.mk Q_LT3
      have hc0_ : w'.cell? ⟨w.heap.size, 0, none⟩ = some (.slice AP rs.length cP) := (blk_cell GX.out 0).trans rfl
      refine value_ (w1 := w') (v := .slice AP rs.length cP) (by rfl) rfl ?_ ?_
      · go_simp
        (try simp only [i64_w])
        try rfl
      refine hK.out _ _ ⟨bp, bw, ba, bb, m8_, m9_, m10_, m11_, (by rw [ha.out]; exact putSel_upk 0 hb_ rfl rfl rfl), Q_BB, Q_GX, Q_LT0, Q_GE0, Q_HZ0, fun h0_ => absurd ((hoff 12 (by kernel_rfl)).symm.trans h0_) (by decide), Q_LT1, Q_GE1, Q_HZ1, fun h0_ => absurd ((hoff 13 (by kernel_rfl)).symm.trans h0_) (by decide), Q_SEP01, Q_LT2, Q_GE2, Q_HZ2, fun h0_ => absurd ((hoff 14 (by kernel_rfl)).symm.trans h0_) (by decide), Q_SEP02, Q_SEP12, Q_LT3, Q_GE3, Q_HZ3, fun h0_ => absurd ((hoff 15 (by kernel_rfl)).symm.trans h0_) (by decide), Q_SEP03, Q_SEP13, Q_SEP23, Q_X8_, Q_X9_, Q_X10_, Q_X11_⟩
    refine steps_cons ?_ ?_
    · rintro b a w' ⟨bp, bw, ba, bb, m8_, m9_, m10_, m11_, ha, Q_BB, Q_GX, Q_LT0, Q_GE0, Q_HZ0, Q_HV0, Q_LT1, Q_GE1, Q_HZ1, Q_HV1, Q_SEP01, Q_LT2, Q_GE2, Q_HZ2, Q_HV2, Q_SEP02, Q_SEP12, Q_LT3, Q_GE3, Q_HZ3, Q_HV3, Q_SEP03, Q_SEP13, Q_SEP23, Q_X8_, Q_X9_, Q_X10_, Q_X11_⟩ hb_ hon hoff
      refine ⟨_, rfl, fun K hK => ?_⟩
      have e14 : a.tmps[14]? = some (.pointer (some ⟨w.heap.size, 1, none⟩)) := by rw [ha]; exact (putSel_off rfl).trans rfl
      replace ha := Aside0.mk ha
      have BB := Aside0.mk Q_BB
      have GX := Aside0.mk Q_GX
      have LT0 := Aside0.mk Q_LT0
      have LT1 := Aside0.mk Q_LT1
      have LT2 := Aside0.mk Q_LT2
      have LT3 := Aside0.mk Q_LT3
      have hc1_ : w'.cell? ⟨w.heap.size, 1, none⟩ = some (.int .i64 wh) := (blk_cell GX.out 1).trans rfl
      refine value_ (w1 := w') (v := .int .i64 wh) (by rfl) rfl ?_ ?_
      · go_simp
        (try simp only [i64_w])
        try rfl
      refine hK.out _ _ ⟨bp, bw, ba, bb, m8_, m9_, m10_, m11_, (by rw [ha.out]; exact putSel_upk 1 hb_ rfl rfl rfl), Q_BB, Q_GX, Q_LT0, Q_GE0, Q_HZ0, Q_HV0, Q_LT1, Q_GE1, Q_HZ1, fun h0_ => absurd ((hoff 13 (by kernel_rfl)).symm.trans h0_) (by decide), Q_SEP01, Q_LT2, Q_GE2, Q_HZ2, fun h0_ => absurd ((hoff 14 (by kernel_rfl)).symm.trans h0_) (by decide), Q_SEP02, Q_SEP12, Q_LT3, Q_GE3, Q_HZ3, fun h0_ => absurd ((hoff 15 (by kernel_rfl)).symm.trans h0_) (by decide), Q_SEP03, Q_SEP13, Q_SEP23, Q_X8_, Q_X9_, Q_X10_, Q_X11_⟩
    refine steps_cons ?_ ?_
    · rintro b a w' ⟨bp, bw, ba, bb, m8_, m9_, m10_, m11_, ha, Q_BB, Q_GX, Q_LT0, Q_GE0, Q_HZ0, Q_HV0, Q_LT1, Q_GE1, Q_HZ1, Q_HV1, Q_SEP01, Q_LT2, Q_GE2, Q_HZ2, Q_HV2, Q_SEP02, Q_SEP12, Q_LT3, Q_GE3, Q_HZ3, Q_HV3, Q_SEP03, Q_SEP13, Q_SEP23, Q_X8_, Q_X9_, Q_X10_, Q_X11_⟩ hb_ hon hoff
      refine ⟨_, rfl, fun K hK => ?_⟩
      have e16 : a.tmps[16]? = some (.pointer (some ⟨w.heap.size, 2, none⟩)) := by rw [ha]; exact (putSel_off rfl).trans rfl
      replace ha := Aside0.mk ha
      have BB := Aside0.mk Q_BB
      have GX := Aside0.mk Q_GX
      have LT0 := Aside0.mk Q_LT0
      have LT1 := Aside0.mk Q_LT1
      have LT2 := Aside0.mk Q_LT2
      have LT3 := Aside0.mk Q_LT3
      have hc2_ : w'.cell? ⟨w.heap.size, 2, none⟩ = some (.int .i64 at0) := (blk_cell GX.out 2).trans rfl
      refine value_ (w1 := w') (v := .int .i64 at0) (by rfl) rfl ?_ ?_
      · go_simp
        (try simp only [i64_w])
        try rfl
      refine hK.out _ _ ⟨bp, bw, ba, bb, m8_, m9_, m10_, m11_, (by rw [ha.out]; exact putSel_upk 2 hb_ rfl rfl rfl), Q_BB, Q_GX, Q_LT0, Q_GE0, Q_HZ0, Q_HV0, Q_LT1, Q_GE1, Q_HZ1, Q_HV1, Q_SEP01, Q_LT2, Q_GE2, Q_HZ2, fun h0_ => absurd ((hoff 14 (by kernel_rfl)).symm.trans h0_) (by decide), Q_SEP02, Q_SEP12, Q_LT3, Q_GE3, Q_HZ3, fun h0_ => absurd ((hoff 15 (by kernel_rfl)).symm.trans h0_) (by decide), Q_SEP03, Q_SEP13, Q_SEP23, Q_X8_, Q_X9_, Q_X10_, Q_X11_⟩
    refine steps_cons ?_ ?_
    · rintro b a w' ⟨bp, bw, ba, bb, m8_, m9_, m10_, m11_, ha, Q_BB, Q_GX, Q_LT0, Q_GE0, Q_HZ0, Q_HV0, Q_LT1, Q_GE1, Q_HZ1, Q_HV1, Q_SEP01, Q_LT2, Q_GE2, Q_HZ2, Q_HV2, Q_SEP02, Q_SEP12, Q_LT3, Q_GE3, Q_HZ3, Q_HV3, Q_SEP03, Q_SEP13, Q_SEP23, Q_X8_, Q_X9_, Q_X10_, Q_X11_⟩ hb_ hon hoff
      refine ⟨_, rfl, fun K hK => ?_⟩
      have e18 : a.tmps[18]? = some (.pointer (some ⟨w.heap.size, 3, none⟩)) := by rw [ha]; exact (putSel_off rfl).trans rfl
      replace ha := Aside0.mk ha
      have BB := Aside0.mk Q_BB
      have GX := Aside0.mk Q_GX
      have LT0 := Aside0.mk Q_LT0
      have LT1 := Aside0.mk Q_LT1
      have LT2 := Aside0.mk Q_LT2
      have LT3 := Aside0.mk Q_LT3
      have hc3_ : w'.cell? ⟨w.heap.size, 3, none⟩ = some (.int .u32 (bt : Int)) := (blk_cell GX.out 3).trans rfl
      refine value_ (w1 := w') (v := .int .u32 (bt : Int)) (by rfl) rfl ?_ ?_
      · go_simp
        (try simp only [i64_w])
        try rfl
      refine hK.out _ _ ⟨bp, bw, ba, bb, m8_, m9_, m10_, m11_, (by rw [ha.out]; exact putSel_upk 3 hb_ rfl rfl rfl), Q_BB, Q_GX, Q_LT0, Q_GE0, Q_HZ0, Q_HV0, Q_LT1, Q_GE1, Q_HZ1, Q_HV1, Q_SEP01, Q_LT2, Q_GE2, Q_HZ2, Q_HV2, Q_SEP02, Q_SEP12, Q_LT3, Q_GE3, Q_HZ3, fun h0_ => absurd ((hoff 15 (by kernel_rfl)).symm.trans h0_) (by decide), Q_SEP03, Q_SEP13, Q_SEP23, Q_X8_, Q_X9_, Q_X10_, Q_X11_⟩
    refine steps_cons ?_ ?_
    · rintro b a w' ⟨bp, bw, ba, bb, m8_, m9_, m10_, m11_, ha, Q_BB, Q_GX, Q_LT0, Q_GE0, Q_HZ0, Q_HV0, Q_LT1, Q_GE1, Q_HZ1, Q_HV1, Q_SEP01, Q_LT2, Q_GE2, Q_HZ2, Q_HV2, Q_SEP02, Q_SEP12, Q_LT3, Q_GE3, Q_HZ3, Q_HV3, Q_SEP03, Q_SEP13, Q_SEP23, Q_X8_, Q_X9_, Q_X10_, Q_X11_⟩ hb_ hon hoff
      refine ⟨_, rfl, fun K hK => ?_⟩
      replace ha := Aside0.mk ha
      have BB := Aside0.mk Q_BB
      have GX := Aside0.mk Q_GX
      have LT0 := Aside0.mk Q_LT0
      have LT1 := Aside0.mk Q_LT1
      have LT2 := Aside0.mk Q_LT2
      have LT3 := Aside0.mk Q_LT3
      refine value_ (w1 := w'.alloc (.cells #[.slice none 0 0] 22)) (v := .pointer (some ⟨w'.heap.size, 0, none⟩)) (by rfl) rfl ?_ ?_
      · go_simp
        try rfl
      refine hK.out _ _ ⟨w'.heap.size, bw, ba, bb, (.pointer (some ⟨w'.heap.size, 0, none⟩)), m9_, m10_, m11_, (by rw [ha.out]; exact putSel_upk 4 hb_ rfl rfl rfl), bl_alloc BB.out _, blk_alloc GX.out _, (by simp), fun _ => (by have h_ := blk_lt GX.out; omega), fun _ _ => heap_alloc_new w' _, fun h0_ => absurd ((hoff 12 (by kernel_rfl)).symm.trans h0_) (by decide), (by have h_ := LT1.out; simp; omega), Q_GE1, fun h0_ h1_ => blk_alloc (Q_HZ1 h0_ h1_) _, fun h0_ => absurd ((hoff 13 (by kernel_rfl)).symm.trans h0_) (by decide), fun _ _ => (by have h_ := LT1.out; omega), (by have h_ := LT2.out; simp; omega), Q_GE2, fun h0_ h1_ => blk_alloc (Q_HZ2 h0_ h1_) _, fun h0_ => absurd ((hoff 14 (by kernel_rfl)).symm.trans h0_) (by decide), fun _ _ => (by have h_ := LT2.out; omega), Q_SEP12, (by have h_ := LT3.out; simp; omega), Q_GE3, fun h0_ h1_ => blk_alloc (Q_HZ3 h0_ h1_) _, fun h0_ => absurd ((hoff 15 (by kernel_rfl)).symm.trans h0_) (by decide), fun _ _ => (by have h_ := LT3.out; omega), Q_SEP13, Q_SEP23, fun _ => rfl, Q_X9_, Q_X10_, Q_X11_⟩
    refine steps_cons ?_ ?_
    · rintro b a w' ⟨bp, bw, ba, bb, m8_, m9_, m10_, m11_, ha, Q_BB, Q_GX, Q_LT0, Q_GE0, Q_HZ0, Q_HV0, Q_LT1, Q_GE1, Q_HZ1, Q_HV1, Q_SEP01, Q_LT2, Q_GE2, Q_HZ2, Q_HV2, Q_SEP02, Q_SEP12, Q_LT3, Q_GE3, Q_HZ3, Q_HV3, Q_SEP03, Q_SEP13, Q_SEP23, Q_X8_, Q_X9_, Q_X10_, Q_X11_⟩ hb_ hon hoff
      refine ⟨_, rfl, fun K hK => ?_⟩
      replace ha := Aside0.mk ha
      have BB := Aside0.mk Q_BB
      have GX := Aside0.mk Q_GX
      have LT0 := Aside0.mk Q_LT0
      have LT1 := Aside0.mk Q_LT1
      have LT2 := Aside0.mk Q_LT2
      have LT3 := Aside0.mk Q_LT3
      refine value_ (w1 := w'.alloc (.cells #[.int .i64 0] 3)) (v := .pointer (some ⟨w'.heap.size, 0, none⟩)) (by rfl) rfl ?_ ?_
      · go_simp
        try rfl
      refine hK.out _ _ ⟨bp, w'.heap.size, ba, bb, m8_, (.pointer (some ⟨w'.heap.size, 0, none⟩)), m10_, m11_, (by rw [ha.out]; exact putSel_upk 5 hb_ rfl rfl rfl), bl_alloc BB.out _, blk_alloc GX.out _, (by have h_ := LT0.out; simp; omega), Q_GE0, fun h0_ h1_ => blk_alloc (Q_HZ0 h0_ h1_) _, fun h0_ => absurd ((hoff 12 (by kernel_rfl)).symm.trans h0_) (by decide), (by simp), fun _ => (by have h_ := blk_lt GX.out; omega), fun _ _ => heap_alloc_new w' _, fun h0_ => absurd ((hoff 13 (by kernel_rfl)).symm.trans h0_) (by decide), fun _ _ => (by have h_ := LT0.out; omega), (by have h_ := LT2.out; simp; omega), Q_GE2, fun h0_ h1_ => blk_alloc (Q_HZ2 h0_ h1_) _, fun h0_ => absurd ((hoff 14 (by kernel_rfl)).symm.trans h0_) (by decide), Q_SEP02, fun _ _ => (by have h_ := LT2.out; omega), (by have h_ := LT3.out; simp; omega), Q_GE3, fun h0_ h1_ => blk_alloc (Q_HZ3 h0_ h1_) _, fun h0_ => absurd ((hoff 15 (by kernel_rfl)).symm.trans h0_) (by decide), Q_SEP03, fun _ _ => (by have h_ := LT3.out; omega), Q_SEP23, Q_X8_, fun _ => rfl, Q_X10_, Q_X11_⟩
    refine steps_cons ?_ ?_
    · rintro b a w' ⟨bp, bw, ba, bb, m8_, m9_, m10_, m11_, ha, Q_BB, Q_GX, Q_LT0, Q_GE0, Q_HZ0, Q_HV0, Q_LT1, Q_GE1, Q_HZ1, Q_HV1, Q_SEP01, Q_LT2, Q_GE2, Q_HZ2, Q_HV2, Q_SEP02, Q_SEP12, Q_LT3, Q_GE3, Q_HZ3, Q_HV3, Q_SEP03, Q_SEP13, Q_SEP23, Q_X8_, Q_X9_, Q_X10_, Q_X11_⟩ hb_ hon hoff
      refine ⟨_, rfl, fun K hK => ?_⟩
      replace ha := Aside0.mk ha
      have BB := Aside0.mk Q_BB
      have GX := Aside0.mk Q_GX
      have LT0 := Aside0.mk Q_LT0
      have LT1 := Aside0.mk Q_LT1
      have LT2 := Aside0.mk Q_LT2
      have LT3 := Aside0.mk Q_LT3
      refine value_ (w1 := w'.alloc (.cells #[.int .i64 0] 3)) (v := .pointer (some ⟨w'.heap.size, 0, none⟩)) (by rfl) rfl ?_ ?_
      · go_simp
        try rfl
      refine hK.out _ _ ⟨bp, bw, w'.heap.size, bb, m8_, m9_, (.pointer (some ⟨w'.heap.size, 0, none⟩)), m11_, (by rw [ha.out]; exact putSel_upk 6 hb_ rfl rfl rfl), bl_alloc BB.out _, blk_alloc GX.out _, (by have h_ := LT0.out; simp; omega), Q_GE0, fun h0_ h1_ => blk_alloc (Q_HZ0 h0_ h1_) _, fun h0_ => absurd ((hoff 12 (by kernel_rfl)).symm.trans h0_) (by decide), (by have h_ := LT1.out; simp; omega), Q_GE1, fun h0_ h1_ => blk_alloc (Q_HZ1 h0_ h1_) _, fun h0_ => absurd ((hoff 13 (by kernel_rfl)).symm.trans h0_) (by decide), Q_SEP01, (by simp), fun _ => (by have h_ := blk_lt GX.out; omega), fun _ _ => heap_alloc_new w' _, fun h0_ => absurd ((hoff 14 (by kernel_rfl)).symm.trans h0_) (by decide), fun _ _ => (by have h_ := LT0.out; omega), fun _ _ => (by have h_ := LT1.out; omega), (by have h_ := LT3.out; simp; omega), Q_GE3, fun h0_ h1_ => blk_alloc (Q_HZ3 h0_ h1_) _, fun h0_ => absurd ((hoff 15 (by kernel_rfl)).symm.trans h0_) (by decide), Q_SEP03, Q_SEP13, fun _ _ => (by have h_ := LT3.out; omega), Q_X8_, Q_X9_, fun _ => rfl, Q_X11_⟩
    refine steps_cons ?_ ?_
    · rintro b a w' ⟨bp, bw, ba, bb, m8_, m9_, m10_, m11_, ha, Q_BB, Q_GX, Q_LT0, Q_GE0, Q_HZ0, Q_HV0, Q_LT1, Q_GE1, Q_HZ1, Q_HV1, Q_SEP01, Q_LT2, Q_GE2, Q_HZ2, Q_HV2, Q_SEP02, Q_SEP12, Q_LT3, Q_GE3, Q_HZ3, Q_HV3, Q_SEP03, Q_SEP13, Q_SEP23, Q_X8_, Q_X9_, Q_X10_, Q_X11_⟩ hb_ hon hoff
      refine ⟨_, rfl, fun K hK => ?_⟩
      replace ha := Aside0.mk ha
      have BB := Aside0.mk Q_BB
      have GX := Aside0.mk Q_GX
      have LT0 := Aside0.mk Q_LT0
      have LT1 := Aside0.mk Q_LT1
      have LT2 := Aside0.mk Q_LT2
      have LT3 := Aside0.mk Q_LT3
      refine value_ (w1 := w'.alloc (.cells #[.int .u32 0] 23)) (v := .pointer (some ⟨w'.heap.size, 0, none⟩)) (by rfl) rfl ?_ ?_
      · go_simp
        try rfl
      refine hK.out _ _ ⟨bp, bw, ba, w'.heap.size, m8_, m9_, m10_, (.pointer (some ⟨w'.heap.size, 0, none⟩)), (by rw [ha.out]; exact putSel_upk 7 hb_ rfl rfl rfl), bl_alloc BB.out _, blk_alloc GX.out _, (by have h_ := LT0.out; simp; omega), Q_GE0, fun h0_ h1_ => blk_alloc (Q_HZ0 h0_ h1_) _, fun h0_ => absurd ((hoff 12 (by kernel_rfl)).symm.trans h0_) (by decide), (by have h_ := LT1.out; simp; omega), Q_GE1, fun h0_ h1_ => blk_alloc (Q_HZ1 h0_ h1_) _, fun h0_ => absurd ((hoff 13 (by kernel_rfl)).symm.trans h0_) (by decide), Q_SEP01, (by have h_ := LT2.out; simp; omega), Q_GE2, fun h0_ h1_ => blk_alloc (Q_HZ2 h0_ h1_) _, fun h0_ => absurd ((hoff 14 (by kernel_rfl)).symm.trans h0_) (by decide), Q_SEP02, Q_SEP12, (by simp), fun _ => (by have h_ := blk_lt GX.out; omega), fun _ _ => heap_alloc_new w' _, fun h0_ => absurd ((hoff 15 (by kernel_rfl)).symm.trans h0_) (by decide), fun _ _ => (by have h_ := LT0.out; omega), fun _ _ => (by have h_ := LT1.out; omega), fun _ _ => (by have h_ := LT2.out; omega), Q_X8_, Q_X9_, Q_X10_, fun _ => rfl⟩
    refine steps_cons ?_ ?_
    · rintro b a w' ⟨bp, bw, ba, bb, m8_, m9_, m10_, m11_, ha, Q_BB, Q_GX, Q_LT0, Q_GE0, Q_HZ0, Q_HV0, Q_LT1, Q_GE1, Q_HZ1, Q_HV1, Q_SEP01, Q_LT2, Q_GE2, Q_HZ2, Q_HV2, Q_SEP02, Q_SEP12, Q_LT3, Q_GE3, Q_HZ3, Q_HV3, Q_SEP03, Q_SEP13, Q_SEP23, Q_X8_, Q_X9_, Q_X10_, Q_X11_⟩ hb_ hon hoff
      refine ⟨_, rfl, fun K hK => ?_⟩
      have e3 : a.tmps[3]? = some (m8_) := by rw [ha]; exact putSel_on (e := (8, 3, m8_)) 4 rfl rfl (hon 8 (by kernel_rfl)) rfl
      rw [Q_X8_ (hon 8 (by kernel_rfl))] at e3
      have e13 : a.tmps[13]? = some (.slice AP rs.length cP) := by rw [ha]; exact putSel_on (e := (1, 13, .slice AP rs.length cP)) 0 rfl rfl (hon 1 (by kernel_rfl)) rfl
      replace ha := Aside0.mk ha
      have BB := Aside0.mk Q_BB
      have GX := Aside0.mk Q_GX
      have LT0 := Aside0.mk Q_LT0
      have GE0 := Aside0.mk (Q_GE0 (hon 8 (by kernel_rfl)))
      have HZ0 := Aside0.mk (Q_HZ0 (hon 8 (by kernel_rfl)) hb_)
      have LT1 := Aside0.mk Q_LT1
      have GE1 := Aside0.mk (Q_GE1 (hon 9 (by kernel_rfl)))
      have HZ1 := Aside0.mk (Q_HZ1 (hon 9 (by kernel_rfl)) (hoff 13 (by kernel_rfl)))
      have SEP01 := Aside0.mk (Q_SEP01 (hon 8 (by kernel_rfl)) (hon 9 (by kernel_rfl)))
      have LT2 := Aside0.mk Q_LT2
      have GE2 := Aside0.mk (Q_GE2 (hon 10 (by kernel_rfl)))
      have HZ2 := Aside0.mk (Q_HZ2 (hon 10 (by kernel_rfl)) (hoff 14 (by kernel_rfl)))
      have SEP02 := Aside0.mk (Q_SEP02 (hon 8 (by kernel_rfl)) (hon 10 (by kernel_rfl)))
      have SEP12 := Aside0.mk (Q_SEP12 (hon 9 (by kernel_rfl)) (hon 10 (by kernel_rfl)))
      have LT3 := Aside0.mk Q_LT3
      have GE3 := Aside0.mk (Q_GE3 (hon 11 (by kernel_rfl)))
      have HZ3 := Aside0.mk (Q_HZ3 (hon 11 (by kernel_rfl)) (hoff 15 (by kernel_rfl)))
      have SEP03 := Aside0.mk (Q_SEP03 (hon 8 (by kernel_rfl)) (hon 11 (by kernel_rfl)))
      have SEP13 := Aside0.mk (Q_SEP13 (hon 9 (by kernel_rfl)) (hon 11 (by kernel_rfl)))
      have SEP23 := Aside0.mk (Q_SEP23 (hon 10 (by kernel_rfl)) (hon 11 (by kernel_rfl)))
      have zc : w'.cell? ⟨bp, 0, none⟩ = some (.slice none 0 0) := (blk_cell HZ0.out 0).trans rfl
      have zf := blk_frozen HZ0.out 0
      refine skip_ (w1 := w'.setCell ⟨bp, 0, none⟩ (.slice AP rs.length cP)) (by rfl) rfl ?_ ?_
      · go_simp
        try rfl
      refine hK.out _ _ ⟨bp, bw, ba, bb, m8_, m9_, m10_, m11_, (by rw [ha.out]; exact putSel_none (v := undef) rfl), bl_set BB.out (p := ⟨bp, 0, none⟩) (Nat.le_of_lt GE0.out) _, blk_far GX.out (p := ⟨bp, 0, none⟩) (Nat.ne_of_lt GE0.out) _, (by have h_ := LT0.out; simpa using h_), Q_GE0, fun _ h1_ => absurd ((up_self b 12).symm.trans h1_) (by decide), fun _ => blk_put HZ0.out 0 _ (by simp), (by have h_ := LT1.out; simpa using h_), Q_GE1, fun _ _ => blk_far HZ1.out (p := ⟨bp, 0, none⟩) (Ne.symm SEP01.out) _, fun h0_ => absurd ((hoff 13 (by kernel_rfl)).symm.trans h0_) (by decide), Q_SEP01, (by have h_ := LT2.out; simpa using h_), Q_GE2, fun _ _ => blk_far HZ2.out (p := ⟨bp, 0, none⟩) (Ne.symm SEP02.out) _, fun h0_ => absurd ((hoff 14 (by kernel_rfl)).symm.trans h0_) (by decide), Q_SEP02, Q_SEP12, (by have h_ := LT3.out; simpa using h_), Q_GE3, fun _ _ => blk_far HZ3.out (p := ⟨bp, 0, none⟩) (Ne.symm SEP03.out) _, fun h0_ => absurd ((hoff 15 (by kernel_rfl)).symm.trans h0_) (by decide), Q_SEP03, Q_SEP13, Q_SEP23, Q_X8_, Q_X9_, Q_X10_, Q_X11_⟩
    refine steps_cons ?_ ?_
    · rintro b a w' ⟨bp, bw, ba, bb, m8_, m9_, m10_, m11_, ha, Q_BB, Q_GX, Q_LT0, Q_GE0, Q_HZ0, Q_HV0, Q_LT1, Q_GE1, Q_HZ1, Q_HV1, Q_SEP01, Q_LT2, Q_GE2, Q_HZ2, Q_HV2, Q_SEP02, Q_SEP12, Q_LT3, Q_GE3, Q_HZ3, Q_HV3, Q_SEP03, Q_SEP13, Q_SEP23, Q_X8_, Q_X9_, Q_X10_, Q_X11_⟩ hb_ hon hoff
      refine ⟨_, rfl, fun K hK => ?_⟩
      have e4 : a.tmps[4]? = some (m9_) := by rw [ha]; exact putSel_on (e := (9, 4, m9_)) 5 rfl rfl (hon 9 (by kernel_rfl)) rfl
      rw [Q_X9_ (hon 9 (by kernel_rfl))] at e4
      have e15 : a.tmps[15]? = some (.int .i64 wh) := by rw [ha]; exact putSel_on (e := (3, 15, .int .i64 wh)) 1 rfl rfl (hon 3 (by kernel_rfl)) rfl
      replace ha := Aside0.mk ha
      have BB := Aside0.mk Q_BB
      have GX := Aside0.mk Q_GX
      have LT0 := Aside0.mk Q_LT0
      have GE0 := Aside0.mk (Q_GE0 (hon 8 (by kernel_rfl)))
      have HV0 := Aside0.mk (Q_HV0 (hon 12 (by kernel_rfl)))
      have LT1 := Aside0.mk Q_LT1
      have GE1 := Aside0.mk (Q_GE1 (hon 9 (by kernel_rfl)))
      have HZ1 := Aside0.mk (Q_HZ1 (hon 9 (by kernel_rfl)) hb_)
      have SEP01 := Aside0.mk (Q_SEP01 (hon 8 (by kernel_rfl)) (hon 9 (by kernel_rfl)))
      have LT2 := Aside0.mk Q_LT2
      have GE2 := Aside0.mk (Q_GE2 (hon 10 (by kernel_rfl)))
      have HZ2 := Aside0.mk (Q_HZ2 (hon 10 (by kernel_rfl)) (hoff 14 (by kernel_rfl)))
      have SEP02 := Aside0.mk (Q_SEP02 (hon 8 (by kernel_rfl)) (hon 10 (by kernel_rfl)))
      have SEP12 := Aside0.mk (Q_SEP12 (hon 9 (by kernel_rfl)) (hon 10 (by kernel_rfl)))
      have LT3 := Aside0.mk Q_LT3
      have GE3 := Aside0.mk (Q_GE3 (hon 11 (by kernel_rfl)))
      have HZ3 := Aside0.mk (Q_HZ3 (hon 11 (by kernel_rfl)) (hoff 15 (by kernel_rfl)))
      have SEP03 := Aside0.mk (Q_SEP03 (hon 8 (by kernel_rfl)) (hon 11 (by kernel_rfl)))
      have SEP13 := Aside0.mk (Q_SEP13 (hon 9 (by kernel_rfl)) (hon 11 (by kernel_rfl)))
      have SEP23 := Aside0.mk (Q_SEP23 (hon 10 (by kernel_rfl)) (hon 11 (by kernel_rfl)))
      have zc : w'.cell? ⟨bw, 0, none⟩ = some (.int .i64 0) := (blk_cell HZ1.out 0).trans rfl
      have zf := blk_frozen HZ1.out 0
      refine skip_ (w1 := w'.setCell ⟨bw, 0, none⟩ (.int .i64 wh)) (by rfl) rfl ?_ ?_
      · go_simp
        try rfl
      refine hK.out _ _ ⟨bp, bw, ba, bb, m8_, m9_, m10_, m11_, (by rw [ha.out]; exact putSel_none (v := undef) rfl), bl_set BB.out (p := ⟨bw, 0, none⟩) (Nat.le_of_lt GE1.out) _, blk_far GX.out (p := ⟨bw, 0, none⟩) (Nat.ne_of_lt GE1.out) _, (by have h_ := LT0.out; simpa using h_), Q_GE0, fun _ h1_ => absurd ((hon 12 (by kernel_rfl)).symm.trans h1_) (by decide), fun _ => blk_far HV0.out (p := ⟨bw, 0, none⟩) SEP01.out _, (by have h_ := LT1.out; simpa using h_), Q_GE1, fun _ h1_ => absurd ((up_self b 13).symm.trans h1_) (by decide), fun _ => blk_put HZ1.out 0 _ (by simp), Q_SEP01, (by have h_ := LT2.out; simpa using h_), Q_GE2, fun _ _ => blk_far HZ2.out (p := ⟨bw, 0, none⟩) (Ne.symm SEP12.out) _, fun h0_ => absurd ((hoff 14 (by kernel_rfl)).symm.trans h0_) (by decide), Q_SEP02, Q_SEP12, (by have h_ := LT3.out; simpa using h_), Q_GE3, fun _ _ => blk_far HZ3.out (p := ⟨bw, 0, none⟩) (Ne.symm SEP13.out) _, fun h0_ => absurd ((hoff 15 (by kernel_rfl)).symm.trans h0_) (by decide), Q_SEP03, Q_SEP13, Q_SEP23, Q_X8_, Q_X9_, Q_X10_, Q_X11_⟩
    refine steps_cons ?_ ?_
    · rintro b a w' ⟨bp, bw, ba, bb, m8_, m9_, m10_, m11_, ha, Q_BB, Q_GX, Q_LT0, Q_GE0, Q_HZ0, Q_HV0, Q_LT1, Q_GE1, Q_HZ1, Q_HV1, Q_SEP01, Q_LT2, Q_GE2, Q_HZ2, Q_HV2, Q_SEP02, Q_SEP12, Q_LT3, Q_GE3, Q_HZ3, Q_HV3, Q_SEP03, Q_SEP13, Q_SEP23, Q_X8_, Q_X9_, Q_X10_, Q_X11_⟩ hb_ hon hoff
      refine ⟨_, rfl, fun K hK => ?_⟩
      have e5 : a.tmps[5]? = some (m10_) := by rw [ha]; exact putSel_on (e := (10, 5, m10_)) 6 rfl rfl (hon 10 (by kernel_rfl)) rfl
      rw [Q_X10_ (hon 10 (by kernel_rfl))] at e5
      have e17 : a.tmps[17]? = some (.int .i64 at0) := by rw [ha]; exact putSel_on (e := (5, 17, .int .i64 at0)) 2 rfl rfl (hon 5 (by kernel_rfl)) rfl
      replace ha := Aside0.mk ha
      have BB := Aside0.mk Q_BB
      have GX := Aside0.mk Q_GX
      have LT0 := Aside0.mk Q_LT0
      have GE0 := Aside0.mk (Q_GE0 (hon 8 (by kernel_rfl)))
      have HV0 := Aside0.mk (Q_HV0 (hon 12 (by kernel_rfl)))
      have LT1 := Aside0.mk Q_LT1
      have GE1 := Aside0.mk (Q_GE1 (hon 9 (by kernel_rfl)))
      have HV1 := Aside0.mk (Q_HV1 (hon 13 (by kernel_rfl)))
      have SEP01 := Aside0.mk (Q_SEP01 (hon 8 (by kernel_rfl)) (hon 9 (by kernel_rfl)))
      have LT2 := Aside0.mk Q_LT2
      have GE2 := Aside0.mk (Q_GE2 (hon 10 (by kernel_rfl)))
      have HZ2 := Aside0.mk (Q_HZ2 (hon 10 (by kernel_rfl)) hb_)
      have SEP02 := Aside0.mk (Q_SEP02 (hon 8 (by kernel_rfl)) (hon 10 (by kernel_rfl)))
      have SEP12 := Aside0.mk (Q_SEP12 (hon 9 (by kernel_rfl)) (hon 10 (by kernel_rfl)))
      have LT3 := Aside0.mk Q_LT3
      have GE3 := Aside0.mk (Q_GE3 (hon 11 (by kernel_rfl)))
      have HZ3 := Aside0.mk (Q_HZ3 (hon 11 (by kernel_rfl)) (hoff 15 (by kernel_rfl)))
      have SEP03 := Aside0.mk (Q_SEP03 (hon 8 (by kernel_rfl)) (hon 11 (by kernel_rfl)))
      have SEP13 := Aside0.mk (Q_SEP13 (hon 9 (by kernel_rfl)) (hon 11 (by kernel_rfl)))
      have SEP23 := Aside0.mk (Q_SEP23 (hon 10 (by kernel_rfl)) (hon 11 (by kernel_rfl)))
      have zc : w'.cell? ⟨ba, 0, none⟩ = some (.int .i64 0) := (blk_cell HZ2.out 0).trans rfl
      have zf := blk_frozen HZ2.out 0
      refine skip_ (w1 := w'.setCell ⟨ba, 0, none⟩ (.int .i64 at0)) (by rfl) rfl ?_ ?_
      · go_simp
        try rfl
      refine hK.out _ _ ⟨bp, bw, ba, bb, m8_, m9_, m10_, m11_, (by rw [ha.out]; exact putSel_none (v := undef) rfl), bl_set BB.out (p := ⟨ba, 0, none⟩) (Nat.le_of_lt GE2.out) _, blk_far GX.out (p := ⟨ba, 0, none⟩) (Nat.ne_of_lt GE2.out) _, (by have h_ := LT0.out; simpa using h_), Q_GE0, fun _ h1_ => absurd ((hon 12 (by kernel_rfl)).symm.trans h1_) (by decide), fun _ => blk_far HV0.out (p := ⟨ba, 0, none⟩) SEP02.out _, (by have h_ := LT1.out; simpa using h_), Q_GE1, fun _ h1_ => absurd ((hon 13 (by kernel_rfl)).symm.trans h1_) (by decide), fun _ => blk_far HV1.out (p := ⟨ba, 0, none⟩) SEP12.out _, Q_SEP01, (by have h_ := LT2.out; simpa using h_), Q_GE2, fun _ h1_ => absurd ((up_self b 14).symm.trans h1_) (by decide), fun _ => blk_put HZ2.out 0 _ (by simp), Q_SEP02, Q_SEP12, (by have h_ := LT3.out; simpa using h_), Q_GE3, fun _ _ => blk_far HZ3.out (p := ⟨ba, 0, none⟩) (Ne.symm SEP23.out) _, fun h0_ => absurd ((hoff 15 (by kernel_rfl)).symm.trans h0_) (by decide), Q_SEP03, Q_SEP13, Q_SEP23, Q_X8_, Q_X9_, Q_X10_, Q_X11_⟩
    refine steps_cons ?_ ?_
    · rintro b a w' ⟨bp, bw, ba, bb, m8_, m9_, m10_, m11_, ha, Q_BB, Q_GX, Q_LT0, Q_GE0, Q_HZ0, Q_HV0, Q_LT1, Q_GE1, Q_HZ1, Q_HV1, Q_SEP01, Q_LT2, Q_GE2, Q_HZ2, Q_HV2, Q_SEP02, Q_SEP12, Q_LT3, Q_GE3, Q_HZ3, Q_HV3, Q_SEP03, Q_SEP13, Q_SEP23, Q_X8_, Q_X9_, Q_X10_, Q_X11_⟩ hb_ hon hoff
      refine ⟨_, rfl, fun K hK => ?_⟩
      have e6 : a.tmps[6]? = some (m11_) := by rw [ha]; exact putSel_on (e := (11, 6, m11_)) 7 rfl rfl (hon 11 (by kernel_rfl)) rfl
      rw [Q_X11_ (hon 11 (by kernel_rfl))] at e6
      have e19 : a.tmps[19]? = some (.int .u32 (bt : Int)) := by rw [ha]; exact putSel_on (e := (7, 19, .int .u32 (bt : Int))) 3 rfl rfl (hon 7 (by kernel_rfl)) rfl
      replace ha := Aside0.mk ha
      have BB := Aside0.mk Q_BB
      have GX := Aside0.mk Q_GX
      have LT0 := Aside0.mk Q_LT0
      have GE0 := Aside0.mk (Q_GE0 (hon 8 (by kernel_rfl)))
      have HV0 := Aside0.mk (Q_HV0 (hon 12 (by kernel_rfl)))
      have LT1 := Aside0.mk Q_LT1
      have GE1 := Aside0.mk (Q_GE1 (hon 9 (by kernel_rfl)))
      have HV1 := Aside0.mk (Q_HV1 (hon 13 (by kernel_rfl)))
      have SEP01 := Aside0.mk (Q_SEP01 (hon 8 (by kernel_rfl)) (hon 9 (by kernel_rfl)))
      have LT2 := Aside0.mk Q_LT2
      have GE2 := Aside0.mk (Q_GE2 (hon 10 (by kernel_rfl)))
      have HV2 := Aside0.mk (Q_HV2 (hon 14 (by kernel_rfl)))
      have SEP02 := Aside0.mk (Q_SEP02 (hon 8 (by kernel_rfl)) (hon 10 (by kernel_rfl)))
      have SEP12 := Aside0.mk (Q_SEP12 (hon 9 (by kernel_rfl)) (hon 10 (by kernel_rfl)))
      have LT3 := Aside0.mk Q_LT3
      have GE3 := Aside0.mk (Q_GE3 (hon 11 (by kernel_rfl)))
      have HZ3 := Aside0.mk (Q_HZ3 (hon 11 (by kernel_rfl)) hb_)
      have SEP03 := Aside0.mk (Q_SEP03 (hon 8 (by kernel_rfl)) (hon 11 (by kernel_rfl)))
      have SEP13 := Aside0.mk (Q_SEP13 (hon 9 (by kernel_rfl)) (hon 11 (by kernel_rfl)))
      have SEP23 := Aside0.mk (Q_SEP23 (hon 10 (by kernel_rfl)) (hon 11 (by kernel_rfl)))
      have zc : w'.cell? ⟨bb, 0, none⟩ = some (.int .u32 0) := (blk_cell HZ3.out 0).trans rfl
      have zf := blk_frozen HZ3.out 0
      refine skip_ (w1 := w'.setCell ⟨bb, 0, none⟩ (.int .u32 (bt : Int))) (by rfl) rfl ?_ ?_
      · go_simp
        try rfl
      refine hK.out _ _ ⟨bp, bw, ba, bb, m8_, m9_, m10_, m11_, (by rw [ha.out]; exact putSel_none (v := undef) rfl), bl_set BB.out (p := ⟨bb, 0, none⟩) (Nat.le_of_lt GE3.out) _, blk_far GX.out (p := ⟨bb, 0, none⟩) (Nat.ne_of_lt GE3.out) _, (by have h_ := LT0.out; simpa using h_), Q_GE0, fun _ h1_ => absurd ((hon 12 (by kernel_rfl)).symm.trans h1_) (by decide), fun _ => blk_far HV0.out (p := ⟨bb, 0, none⟩) SEP03.out _, (by have h_ := LT1.out; simpa using h_), Q_GE1, fun _ h1_ => absurd ((hon 13 (by kernel_rfl)).symm.trans h1_) (by decide), fun _ => blk_far HV1.out (p := ⟨bb, 0, none⟩) SEP13.out _, Q_SEP01, (by have h_ := LT2.out; simpa using h_), Q_GE2, fun _ h1_ => absurd ((hon 14 (by kernel_rfl)).symm.trans h1_) (by decide), fun _ => blk_far HV2.out (p := ⟨bb, 0, none⟩) SEP23.out _, Q_SEP02, Q_SEP12, (by have h_ := LT3.out; simpa using h_), Q_GE3, fun _ h1_ => absurd ((up_self b 15).symm.trans h1_) (by decide), fun _ => blk_put HZ3.out 0 _ (by simp), Q_SEP03, Q_SEP13, Q_SEP23, Q_X8_, Q_X9_, Q_X10_, Q_X11_⟩
    exact steps_nil
  · rintro b a w' hall ⟨bp, bw, ba, bb, m8_, m9_, m10_, m11_, ha, Q_BB, Q_GX, Q_LT0, Q_GE0, Q_HZ0, Q_HV0, Q_LT1, Q_GE1, Q_HZ1, Q_HV1, Q_SEP01, Q_LT2, Q_GE2, Q_HZ2, Q_HV2, Q_SEP02, Q_SEP12, Q_LT3, Q_GE3, Q_HZ3, Q_HV3, Q_SEP03, Q_SEP13, Q_SEP23, Q_X8_, Q_X9_, Q_X10_, Q_X11_⟩
    clear BB GX LT0 LT1 LT2 LT3
    have hb1_ := hall 1 (by kernel_rfl)
    have hb3_ := hall 3 (by kernel_rfl)
    have hb5_ := hall 5 (by kernel_rfl)
    have hb7_ := hall 7 (by kernel_rfl)
    have hb8_ := hall 8 (by kernel_rfl)
    have hb9_ := hall 9 (by kernel_rfl)
    have hb10_ := hall 10 (by kernel_rfl)
    have hb11_ := hall 11 (by kernel_rfl)
    have hb12_ := hall 12 (by kernel_rfl)
    have hb13_ := hall 13 (by kernel_rfl)
    have hb14_ := hall 14 (by kernel_rfl)
    have hb15_ := hall 15 (by kernel_rfl)
    subst ha
    obtain rfl := Q_X8_ hb8_
    obtain rfl := Q_X9_ hb9_
    obtain rfl := Q_X10_ hb10_
    obtain rfl := Q_X11_ hb11_
    simp only [putSel, hb1_, hb3_, hb5_, hb7_, hb8_, hb9_, hb10_, hb11_, hb12_, hb13_, hb14_, hb15_, if_true, Act.put, List.setIfInBounds_toArray, List.set_cons_zero, List.set_cons_succ]
    have BB := Aside0.mk Q_BB
    clear Q_BB
    have GX := Aside0.mk Q_GX
    clear Q_GX
    have LT0 := Aside0.mk Q_LT0
    clear Q_LT0
    have GE0 := Aside0.mk (Q_GE0 hb8_)
    clear Q_GE0
    clear Q_HZ0
    have HV0 := Aside0.mk (Q_HV0 hb12_)
    clear Q_HV0
    have LT1 := Aside0.mk Q_LT1
    clear Q_LT1
    have GE1 := Aside0.mk (Q_GE1 hb9_)
    clear Q_GE1
    clear Q_HZ1
    have HV1 := Aside0.mk (Q_HV1 hb13_)
    clear Q_HV1
    have SEP01 := Aside0.mk (Q_SEP01 hb8_ hb9_)
    clear Q_SEP01
    have LT2 := Aside0.mk Q_LT2
    clear Q_LT2
    have GE2 := Aside0.mk (Q_GE2 hb10_)
    clear Q_GE2
    clear Q_HZ2
    have HV2 := Aside0.mk (Q_HV2 hb14_)
    clear Q_HV2
    have SEP02 := Aside0.mk (Q_SEP02 hb8_ hb10_)
    clear Q_SEP02
    have SEP12 := Aside0.mk (Q_SEP12 hb9_ hb10_)
    clear Q_SEP12
    have LT3 := Aside0.mk Q_LT3
    clear Q_LT3
    have GE3 := Aside0.mk (Q_GE3 hb11_)
    clear Q_GE3
    clear Q_HZ3
    have HV3 := Aside0.mk (Q_HV3 hb15_)
    clear Q_HV3
    have SEP03 := Aside0.mk (Q_SEP03 hb8_ hb11_)
    clear Q_SEP03
    have SEP13 := Aside0.mk (Q_SEP13 hb9_ hb11_)
    clear Q_SEP13
    have SEP23 := Aside0.mk (Q_SEP23 hb10_ hb11_)
    clear Q_SEP23
    clear hall hb1_ hb3_ hb5_ hb7_ hb8_ hb9_ hb10_ hb11_ hb12_ hb13_ hb14_ hb15_
    have T0 := Lib.hid BB.out
    have BX := Lib.hid (And.intro HV0.out (And.intro HV1.out (And.intro HV2.out HV3.out)))
    have NE := Lib.hid (And.intro SEP01.out (And.intro SEP02.out (And.intro SEP03.out (And.intro SEP12.out (And.intro SEP13.out SEP23.out)))))
    have GE := Lib.hid (And.intro GE0.out (And.intro GE1.out (And.intro GE2.out GE3.out)))
    have LT := Lib.hid (And.intro LT0.out (And.intro LT1.out (And.intro LT2.out LT3.out)))
    clear BB GX HV0 HV1 HV2 HV3 SEP01 SEP02 SEP03 SEP12 SEP13 SEP23 GE0 GE1 GE2 GE3 LT0 LT1 LT2 LT3
    obtain ⟨w1, hw1⟩ : ∃ w1, w1 = w' := ⟨_, rfl⟩
    rw [← hw1] at T0 BX LT ⊢
    clear hw1
    have zp1 : w1.cell? ⟨bp, 0, none⟩ = some (.slice AP rs.length cP) := (blk_cell BX.out.1 0).trans rfl
    have hz1 : 0 < w1.heap.size := by have h_ := LT.out.1; omega
    go_wp2_with fail
    refine (U16_box w1.heap.size w1.heap.size (.slice none 0 0) [] [513] 1 (w1.heap.size + 1) (w1.alloc (.cells #[.slice none 0 0] 29)) _ (by simp) rfl (WrV.new w1) (Nat.le_refl _) (by simp) rfl (by simp) (by simp)).mono ?_
    rintro e w2 ⟨rfl, hw2⟩
    have G1 := Lib.hid hw2
    clear hw2
    obtain ⟨v2, g2⟩ := G1.out
    have B2 := Lib.hid (bl_step (bl_alloc (Below.refl _ _) _) g2.2.2.2 (Nat.le_refl _) : Below w1.heap.size w1 w2)
    have W2 := Lib.hid g2.1
    clear g2 G1 zp1
    have zp2 : w2.cell? ⟨bp, 0, none⟩ = some (.slice AP rs.length cP) := (blk_cell (blk_below BX.out.1 B2.out) 0).trans rfl
    go_wp2_with fail
    with_reducible refine (Bytes_any w1.heap.size w1.heap.size v2 _ w2 W2.out (by decide)).mono ?_
    rintro e w3 ⟨v3, rfl, hn3⟩
    have hn3 : New w2 w3 v3 _ := hn3
    obtain ⟨A3, c3, rfl, hc3⟩ := hn3.slice
    have B3 := Lib.hid (bl_seq B2.out hn3.bel)
    have W3 := Lib.hid (W2.out.below hn3.bel)
    clear hn3 zp2 B2 W2
    have zp3 : w3.cell? ⟨bp, 0, none⟩ = some (.slice AP rs.length cP) := (blk_cell (blk_below BX.out.1 B3.out) 0).trans rfl
    by_cases hl20 : (20 : Int) < (rs.length : Int)
    · go_wp2_with fail
      with_reducible refine (Bytes_any w1.heap.size w1.heap.size v2 _ w3 W3.out (by decide)).mono ?_
      rintro e w4 ⟨v4, rfl, hn4⟩
      have hn4 : New w3 w4 v4 _ := hn4
      obtain ⟨A4, c4, rfl, hc4⟩ := hn4.slice
      have T4 := Lib.hid (bl_seq (bl_seq T0.out B3.out) hn4.bel)
      clear hn4 zp3
      go_wp2_with fail
      go_ret
      exact ⟨by simp, T4.out⟩
    have hl20n : rs.length ≤ 20 := by omega
    have HL20 := Lib.hid hl20n
    clear hl20n W3
    go_wp2_with fail
    have hsz : ∀ b, b < w1.heap.size → b < w3.heap.size := fun b hb => Nat.lt_of_lt_of_le hb B3.out.size
    have BX3 := Lib.hid (And.intro (blk_below BX.out.1 B3.out) (And.intro (blk_below BX.out.2.1 B3.out) (And.intro (blk_below BX.out.2.2.1 B3.out) (blk_below BX.out.2.2.2 B3.out))))
    have T3 := Lib.hid (bl_seq T0.out B3.out)
    have LT3 := Lib.hid (And.intro (hsz _ LT.out.1) (And.intro (hsz _ LT.out.2.1) (And.intro (hsz _ LT.out.2.2.1) (hsz _ LT.out.2.2.2))))
    clear hsz zp3 BX LT T0 B3
    have WN := Lib.hid (WrV.new w3)
    have BN : Hid (Below w3.heap.size w3 (w3.alloc (.cells #[.slice none 0 0] 29))) := Lib.hid (bl_alloc (Below.refl _ _) _)
    obtain ⟨wb, hwb⟩ : ∃ b, w3.heap.size = b := ⟨_, rfl⟩
    rw [hwb] at WN BN LT3 ⊢
    have HWB := Lib.hid hwb
    clear hwb
    obtain ⟨w4, hw4⟩ : ∃ w4, (w3.alloc (.cells #[.slice none 0 0] 29)) = w4 := ⟨_, rfl⟩
    rw [hw4] at WN BN ⊢
    clear hw4
    go_loopw [8] (fun i wr => ∃ (k : Nat) (v : Value), k ≤ rs.length ∧ i = .int .i64 (k : Int) ∧ Hid ((framesL ((ll rs).take k)).length ≤ k * 308) ∧ Hid (∀ j, j < k → (rs.getD j default).l.length ≤ 300) ∧ Hid (WrV wr wb wb v (framesL ((ll rs).take k))) ∧ Hid (Below wb w3 wr)) (fun i _ => rs.length - (intOf i).toNat)
    case atStart => exact ⟨0, .slice none 0 0, Nat.zero_le _, rfl, Lib.hid (by simp [framesL]), Lib.hid (fun j hj => by omega), Lib.hid (by simpa [framesL] using WN.out), BN⟩
    case round =>
      obtain ⟨k, v, hk, rfl, HFL, H300, HS, HB⟩ := hrel
      clear WN BN
      have hll : (ll rs).length = rs.length := by simp [ll]
      have HLLN := Lib.hid hll
      clear hll
      have HPr := Lib.hid (And.intro LT3.out.1 (blk_low ⟨LT3.out.1, BX3.out.1⟩ HB.out))
      have zp : wr.cell? ⟨bp, 0, none⟩ = some (.slice AP rs.length cP) := (blk_cell HPr.out.2 0).trans rfl
      have hTr : Below w.heap.size w wr := T3.out.trans (HB.out.mono (by have h1_ := HWB.out; have h2_ := T3.out.size; omega))
      by_cases hlt : k < rs.length
      · have hltI : (k : Int) < (rs.length : Int) := by omega
        obtain ⟨ad, he, h1, h2, h3, h4⟩ := (HR.out.below hTr).2 k hlt
        obtain ⟨ad0, he0, g1, g2, g3, g4⟩ := HR.out.2 k hlt
        obtain rfl := Option.some.inj (he.symm.trans he0)
        subst he
        have hfs := framesL_succ (ps := ll rs) (j := k) (by rw [HLLN.out]; exact hlt)
        have hgl : (ll rs).getD k [] = (rs.getD k default).l := by simp [ll, List.getD_eq_getElem?_getD, hlt]
        rw [hgl] at hfs
        have hblk : (ad.add k).block < wb := by have h_ := World.block_lt_of_cell? w _ g1; have h1_ := HWB.out; have h2_ := T3.out.size; omega
        have hro : RowOk w (rs.getD k default) := ⟨g2, g3, g4⟩
        have hrol := hro.low hTr (B := wb) (by have h1_ := HWB.out; have h2_ := T3.out.size; omega)
        obtain ⟨r0, hr0⟩ : ∃ r0, rs.getD k default = r0 := ⟨_, rfl⟩
        rw [hr0] at h1 hfs hrol
        have RJr := Lib.hid (And.intro (And.intro hblk h1) hrol)
        have HFS := Lib.hid hfs
        have HR0 := Lib.hid hr0
        clear h2 h3 h4 g1 g2 g3 g4 he0 hgl hblk hro hrol hfs hr0 hTr
        by_cases h3 : (300 : Int) < (r0.l.length : Int)
        · have hTq : Below w.heap.size w wr := T3.out.trans (HB.out.mono (by have h1_ := HWB.out; have h2_ := T3.out.size; omega))
          have TQ := Lib.hid hTq
          clear hTq
          go_wp2_with fail
          go_ret
          exact ⟨rfl, TQ.out⟩
        · have HR3 : Hid (r0.l.length ≤ 300) := Lib.hid (by omega)
          have hwc : IntKind.u32.wrap (r0.l.length : Int) = (r0.l.length : Int) := by rw [IntKind.wrap_u32]; have h_ := HR3.out; omega
          have hcr := crcOf_bound r0.l
          have HX2 : Hid (∀ x ∈ [(r0.l.length : Int), crcOf r0.l], 0 ≤ x ∧ x < 4294967296) := Lib.hid (by
            intro x hx
            rcases List.mem_cons.1 hx with rfl | hx
            · have h_ := HR3.out; omega
            · rcases List.mem_cons.1 hx with rfl | hx
              · exact hcr
              · cases hx)
          have HBr : Hid (wb ≤ wr.heap.size) := Lib.hid (Nat.le_of_lt HS.out.lt)
          have HLL : Hid ((framesL ((ll rs).take k)).length ≤ 20000) := Lib.hid (by have h1_ := HFL.out; have h2_ := HL20.out; have h3_ : k * 308 ≤ 20 * 308 := Nat.mul_le_mul_right _ (by omega); omega)
          obtain ⟨L, hL⟩ : ∃ L, framesL ((ll rs).take k) = L := ⟨_, rfl⟩
          rw [hL] at HS HFL HLL HFS
          clear hL hcr
          go_wp2_with fail
          refine start_ (n := 20) (S := fun w' => True) (ds := []) #[false, false, false, false, false, false, false, false, false, false, false, false, false, false, false, false, false, false, false, false] (by kernel_rfl) rfl rfl trivial (fun hHeld => ?_)
          refine with_tabW TplR.tab11 TplR.bits11 (fun HT_ HW_ => ?_)
          have HPz := Lib.hid (show bp < wb ∧ wr.drew.heap[bp]? = _ from HPr.out)
          have WV := Lib.hid (HS.out.drew)
          have RJc := Lib.hid (show (ad.add k).block < wb ∧ wr.drew.cell? (ad.add k) = _ from RJr.out.1)
          have RJo := Lib.hid (show RowOkL wb wr.drew r0 from RJr.out.2)
          have HBz := Lib.hid (show wb ≤ wr.drew.heap.size from HBr.out)
          have DZ := Lib.hid (fun W (h_ : Below wb wr.drew W) => bw_drew h_)
          generalize wr.drew = wz at HPz WV RJc RJo HBz DZ hHeld ⊢
          have BW := Lib.hid (Below.refl wb wz)
          have SZ := Lib.hid (Nat.le_refl wz.heap.size)
          refine inv_at [0, 1, 2, 3, 4, 5, 6, 7, 8, 9, 10, 11, 12, 13, 14, 15, 16, 17, 18, 19] (fun a0_ b a w' => ∃ (b70 : Nat) (b72 : Nat) (m11_ : Value) (m13_ : Value), a = putSel a0_ b [(0, 59, .pointer (some ⟨wb, 0, none⟩)), (1, 60, .slice (some ad) rs.length cP), (2, 61, .int .i64 (k : Int)), (3, 62, .pointer (some (ad.add k))), (4, 63, .slice r0.A r0.l.length r0.c), (5, 64, .int .i64 (r0.l.length : Int)), (6, 65, .int .u32 (r0.l.length : Int)), (7, 66, .slice (some ad) rs.length cP), (8, 67, .int .i64 (k : Int)), (9, 68, .pointer (some (ad.add k))), (10, 69, .slice r0.A r0.l.length r0.c), (11, 70, m11_), (12, 71, .int .u32 (crcOf r0.l)), (13, 72, m13_), (14, 73, .pointer (some ⟨wb, 0, none⟩)), (15, 74, .slice (some ad) rs.length cP), (16, 75, .int .i64 (k : Int)), (17, 76, .pointer (some (ad.add k))), (18, 77, .slice r0.A r0.l.length r0.c), (19, 78, .pointer (some ⟨wb, 0, none⟩))] ∧ (Below wb wz w') ∧ (wz.heap.size ≤ w'.heap.size) ∧ (b 14 = false → WrV w' wb wb v L) ∧ (b 14 = true → b 19 = false → ∃ v1, WrV w' wb wb v1 (L ++ les 4 [(r0.l.length : Int), crcOf r0.l])) ∧ (b 19 = true → ∃ v1, WrV w' wb wb v1 (L ++ frameL r0.l)) ∧ (b 11 = true → b 12 = false → RdRows w' (some ⟨b70, 0, none⟩) [(⟨r0.A, r0.c, r0.l⟩ : Row)]) ∧ (b 13 = true → b 14 = false → ReadsInt w' .u32 (some ⟨b72, 0, none⟩) 2 [(r0.l.length : Int), crcOf r0.l]) ∧ (b 13 = true → b 14 = false → b72 ≠ wb ∧ some b72 ≠ v.ownBlock) ∧ (b 11 = true → (m11_ : Value) = .slice (some ⟨b70, 0, none⟩) 1 1) ∧ (b 13 = true → (m13_ : Value) = .slice (some ⟨b72, 0, none⟩) 2 2)) HT_.out HW_.out (by kernel_rfl) (by kernel_rfl) ?_ ?_ ?_
          · exact ⟨0, 0, .bool false, .bool false, by simp only [putSel, Bool.false_eq_true, if_false], BW.out, SZ.out, fun _ => WV.out, fun h_ => absurd h_ (by decide), fun h_ => absurd h_ (by decide), fun h_ => absurd h_ (by decide), fun h_ => absurd h_ (by decide), fun h_ => absurd h_ (by decide), fun h_ => absurd h_ (by decide), fun h_ => absurd h_ (by decide)⟩
          · skip
            clear BW SZ WV
            refine steps_cons ?_ ?_
            · rintro b a w' ⟨b70, b72, m11_, m13_, ha, Q_BW, Q_SZ, Q_WV, Q_WA, Q_WB, Q_RB, Q_NX, Q_SEP, Q_X11_, Q_X13_⟩ hb_ hon hoff
              refine ⟨_, rfl, fun K hK => ?_⟩
              have e7 : a.tmps[7]? = some (.pointer (some ⟨wb, 0, none⟩)) := by rw [ha]; exact (putSel_off rfl).trans rfl
              replace ha := Aside0.mk ha
              have BW := Aside0.mk Q_BW
              have SZ := Aside0.mk Q_SZ
              have WV := Aside0.mk (Q_WV (hoff 14 (by kernel_rfl)))
              refine value_ (w1 := w') (v := .pointer (some ⟨wb, 0, none⟩)) (by rfl) rfl ?_ ?_
              · go_simp
                (try simp only [i64_w])
                try rfl
              refine hK.out _ _ ⟨b70, b72, m11_, m13_, (by rw [ha.out]; exact putSel_upk 0 hb_ rfl rfl rfl), Q_BW, Q_SZ, Q_WV, fun h0_ _ => absurd ((hoff 14 (by kernel_rfl)).symm.trans h0_) (by decide), fun h0_ => absurd ((hoff 19 (by kernel_rfl)).symm.trans h0_) (by decide), Q_RB, Q_NX, Q_SEP, Q_X11_, Q_X13_⟩
            refine steps_cons ?_ ?_
            · rintro b a w' ⟨b70, b72, m11_, m13_, ha, Q_BW, Q_SZ, Q_WV, Q_WA, Q_WB, Q_RB, Q_NX, Q_SEP, Q_X11_, Q_X13_⟩ hb_ hon hoff
              refine ⟨_, rfl, fun K hK => ?_⟩
              have e3 : a.tmps[3]? = some (.pointer (some ⟨bp, 0, none⟩)) := by rw [ha]; exact (putSel_off rfl).trans rfl
              replace ha := Aside0.mk ha
              have BW := Aside0.mk Q_BW
              have SZ := Aside0.mk Q_SZ
              have WV := Aside0.mk (Q_WV (hoff 14 (by kernel_rfl)))
              have hc_p : w'.cell? ⟨bp, 0, none⟩ = some (.slice (some ad) rs.length cP) := (blk_cell (blk_low HPz.out BW.out) 0).trans rfl
              refine value_ (w1 := w') (v := .slice (some ad) rs.length cP) (by rfl) rfl ?_ ?_
              · go_simp
                (try simp only [i64_w])
                try rfl
              refine hK.out _ _ ⟨b70, b72, m11_, m13_, (by rw [ha.out]; exact putSel_upk 1 hb_ rfl rfl rfl), Q_BW, Q_SZ, Q_WV, fun h0_ _ => absurd ((hoff 14 (by kernel_rfl)).symm.trans h0_) (by decide), fun h0_ => absurd ((hoff 19 (by kernel_rfl)).symm.trans h0_) (by decide), Q_RB, fun h0_ _ => absurd ((hoff 13 (by kernel_rfl)).symm.trans h0_) (by decide), fun h0_ _ => absurd ((hoff 13 (by kernel_rfl)).symm.trans h0_) (by decide), Q_X11_, fun h0_ => absurd ((hoff 13 (by kernel_rfl)).symm.trans h0_) (by decide)⟩
            refine steps_cons ?_ ?_
            · rintro b a w' ⟨b70, b72, m11_, m13_, ha, Q_BW, Q_SZ, Q_WV, Q_WA, Q_WB, Q_RB, Q_NX, Q_SEP, Q_X11_, Q_X13_⟩ hb_ hon hoff
              refine ⟨_, rfl, fun K hK => ?_⟩
              have e8 : a.tmps[8]? = some (.int .i64 (k : Int)) := by rw [ha]; exact (putSel_off rfl).trans rfl
              replace ha := Aside0.mk ha
              have BW := Aside0.mk Q_BW
              have SZ := Aside0.mk Q_SZ
              have WV := Aside0.mk (Q_WV (hoff 14 (by kernel_rfl)))
              refine value_ (w1 := w') (v := .int .i64 (k : Int)) (by rfl) rfl ?_ ?_
              · go_simp
                (try simp only [i64_w])
                try rfl
              refine hK.out _ _ ⟨b70, b72, m11_, m13_, (by rw [ha.out]; exact putSel_upk 2 hb_ rfl rfl rfl), Q_BW, Q_SZ, Q_WV, fun h0_ _ => absurd ((hoff 14 (by kernel_rfl)).symm.trans h0_) (by decide), fun h0_ => absurd ((hoff 19 (by kernel_rfl)).symm.trans h0_) (by decide), Q_RB, fun h0_ _ => absurd ((hoff 13 (by kernel_rfl)).symm.trans h0_) (by decide), fun h0_ _ => absurd ((hoff 13 (by kernel_rfl)).symm.trans h0_) (by decide), Q_X11_, fun h0_ => absurd ((hoff 13 (by kernel_rfl)).symm.trans h0_) (by decide)⟩
            refine steps_cons ?_ ?_
            · rintro b a w' ⟨b70, b72, m11_, m13_, ha, Q_BW, Q_SZ, Q_WV, Q_WA, Q_WB, Q_RB, Q_NX, Q_SEP, Q_X11_, Q_X13_⟩ hb_ hon hoff
              refine ⟨_, rfl, fun K hK => ?_⟩
              have e60 : a.tmps[60]? = some (.slice (some ad) rs.length cP) := by rw [ha]; exact putSel_on (e := (1, 60, .slice (some ad) rs.length cP)) 1 rfl rfl (hon 1 (by kernel_rfl)) rfl
              have e61 : a.tmps[61]? = some (.int .i64 (k : Int)) := by rw [ha]; exact putSel_on (e := (2, 61, .int .i64 (k : Int))) 2 rfl rfl (hon 2 (by kernel_rfl)) rfl
              replace ha := Aside0.mk ha
              have BW := Aside0.mk Q_BW
              have SZ := Aside0.mk Q_SZ
              have WV := Aside0.mk (Q_WV (hoff 14 (by kernel_rfl)))
              refine value_ (w1 := w') (v := .pointer (some (ad.add k))) (by rfl) rfl ?_ ?_
              · go_simp
                (try simp only [i64_w])
                try rfl
              refine hK.out _ _ ⟨b70, b72, m11_, m13_, (by rw [ha.out]; exact putSel_upk 3 hb_ rfl rfl rfl), Q_BW, Q_SZ, Q_WV, fun h0_ _ => absurd ((hoff 14 (by kernel_rfl)).symm.trans h0_) (by decide), fun h0_ => absurd ((hoff 19 (by kernel_rfl)).symm.trans h0_) (by decide), Q_RB, fun h0_ _ => absurd ((hoff 13 (by kernel_rfl)).symm.trans h0_) (by decide), fun h0_ _ => absurd ((hoff 13 (by kernel_rfl)).symm.trans h0_) (by decide), Q_X11_, fun h0_ => absurd ((hoff 13 (by kernel_rfl)).symm.trans h0_) (by decide)⟩
            refine steps_cons ?_ ?_
            · rintro b a w' ⟨b70, b72, m11_, m13_, ha, Q_BW, Q_SZ, Q_WV, Q_WA, Q_WB, Q_RB, Q_NX, Q_SEP, Q_X11_, Q_X13_⟩ hb_ hon hoff
              refine ⟨_, rfl, fun K hK => ?_⟩
              have e62 : a.tmps[62]? = some (.pointer (some (ad.add k))) := by rw [ha]; exact putSel_on (e := (3, 62, .pointer (some (ad.add k)))) 3 rfl rfl (hon 3 (by kernel_rfl)) rfl
              replace ha := Aside0.mk ha
              have BW := Aside0.mk Q_BW
              have SZ := Aside0.mk Q_SZ
              have WV := Aside0.mk (Q_WV (hoff 14 (by kernel_rfl)))
              have hc_j : w'.cell? (ad.add k) = some (.slice r0.A r0.l.length r0.c) := cell_low RJc.out BW.out
              refine value_ (w1 := w') (v := .slice r0.A r0.l.length r0.c) (by rfl) rfl ?_ ?_
              · go_simp
                (try simp only [i64_w])
                try rfl
              refine hK.out _ _ ⟨b70, b72, m11_, m13_, (by rw [ha.out]; exact putSel_upk 4 hb_ rfl rfl rfl), Q_BW, Q_SZ, Q_WV, fun h0_ _ => absurd ((hoff 14 (by kernel_rfl)).symm.trans h0_) (by decide), fun h0_ => absurd ((hoff 19 (by kernel_rfl)).symm.trans h0_) (by decide), Q_RB, fun h0_ _ => absurd ((hoff 13 (by kernel_rfl)).symm.trans h0_) (by decide), fun h0_ _ => absurd ((hoff 13 (by kernel_rfl)).symm.trans h0_) (by decide), Q_X11_, fun h0_ => absurd ((hoff 13 (by kernel_rfl)).symm.trans h0_) (by decide)⟩
            refine steps_cons ?_ ?_
            · rintro b a w' ⟨b70, b72, m11_, m13_, ha, Q_BW, Q_SZ, Q_WV, Q_WA, Q_WB, Q_RB, Q_NX, Q_SEP, Q_X11_, Q_X13_⟩ hb_ hon hoff
              refine ⟨_, rfl, fun K hK => ?_⟩
              have e63 : a.tmps[63]? = some (.slice r0.A r0.l.length r0.c) := by rw [ha]; exact putSel_on (e := (4, 63, .slice r0.A r0.l.length r0.c)) 4 rfl rfl (hon 4 (by kernel_rfl)) rfl
              replace ha := Aside0.mk ha
              have BW := Aside0.mk Q_BW
              have SZ := Aside0.mk Q_SZ
              have WV := Aside0.mk (Q_WV (hoff 14 (by kernel_rfl)))
              refine value_ (w1 := w') (v := .int .i64 (r0.l.length : Int)) (by rfl) rfl ?_ ?_
              · go_simp
                (try simp only [i64_w])
                try rfl
              refine hK.out _ _ ⟨b70, b72, m11_, m13_, (by rw [ha.out]; exact putSel_upk 5 hb_ rfl rfl rfl), Q_BW, Q_SZ, Q_WV, fun h0_ _ => absurd ((hoff 14 (by kernel_rfl)).symm.trans h0_) (by decide), fun h0_ => absurd ((hoff 19 (by kernel_rfl)).symm.trans h0_) (by decide), Q_RB, fun h0_ _ => absurd ((hoff 13 (by kernel_rfl)).symm.trans h0_) (by decide), fun h0_ _ => absurd ((hoff 13 (by kernel_rfl)).symm.trans h0_) (by decide), Q_X11_, fun h0_ => absurd ((hoff 13 (by kernel_rfl)).symm.trans h0_) (by decide)⟩
            refine steps_cons ?_ ?_
            · rintro b a w' ⟨b70, b72, m11_, m13_, ha, Q_BW, Q_SZ, Q_WV, Q_WA, Q_WB, Q_RB, Q_NX, Q_SEP, Q_X11_, Q_X13_⟩ hb_ hon hoff
              refine ⟨_, rfl, fun K hK => ?_⟩
              have e64 : a.tmps[64]? = some (.int .i64 (r0.l.length : Int)) := by rw [ha]; exact putSel_on (e := (5, 64, .int .i64 (r0.l.length : Int))) 5 rfl rfl (hon 5 (by kernel_rfl)) rfl
              replace ha := Aside0.mk ha
              have BW := Aside0.mk Q_BW
              have SZ := Aside0.mk Q_SZ
              have WV := Aside0.mk (Q_WV (hoff 14 (by kernel_rfl)))
              refine value_ (w1 := w') (v := .int .u32 (r0.l.length : Int)) (by rfl) rfl ?_ ?_
              · go_simp
                (try simp only [i64_w])
                try rfl
              refine hK.out _ _ ⟨b70, b72, m11_, m13_, (by rw [ha.out]; exact putSel_upk 6 hb_ rfl rfl rfl), Q_BW, Q_SZ, Q_WV, fun h0_ _ => absurd ((hoff 14 (by kernel_rfl)).symm.trans h0_) (by decide), fun h0_ => absurd ((hoff 19 (by kernel_rfl)).symm.trans h0_) (by decide), Q_RB, fun h0_ _ => absurd ((hoff 13 (by kernel_rfl)).symm.trans h0_) (by decide), fun h0_ _ => absurd ((hoff 13 (by kernel_rfl)).symm.trans h0_) (by decide), Q_X11_, fun h0_ => absurd ((hoff 13 (by kernel_rfl)).symm.trans h0_) (by decide)⟩
            refine steps_cons ?_ ?_
            · rintro b a w' ⟨b70, b72, m11_, m13_, ha, Q_BW, Q_SZ, Q_WV, Q_WA, Q_WB, Q_RB, Q_NX, Q_SEP, Q_X11_, Q_X13_⟩ hb_ hon hoff
              refine ⟨_, rfl, fun K hK => ?_⟩
              have e3 : a.tmps[3]? = some (.pointer (some ⟨bp, 0, none⟩)) := by rw [ha]; exact (putSel_off rfl).trans rfl
              replace ha := Aside0.mk ha
              have BW := Aside0.mk Q_BW
              have SZ := Aside0.mk Q_SZ
              have WV := Aside0.mk (Q_WV (hoff 14 (by kernel_rfl)))
              have hc_p : w'.cell? ⟨bp, 0, none⟩ = some (.slice (some ad) rs.length cP) := (blk_cell (blk_low HPz.out BW.out) 0).trans rfl
              refine value_ (w1 := w') (v := .slice (some ad) rs.length cP) (by rfl) rfl ?_ ?_
              · go_simp
                (try simp only [i64_w])
                try rfl
              refine hK.out _ _ ⟨b70, b72, m11_, m13_, (by rw [ha.out]; exact putSel_upk 7 hb_ rfl rfl rfl), Q_BW, Q_SZ, Q_WV, fun h0_ _ => absurd ((hoff 14 (by kernel_rfl)).symm.trans h0_) (by decide), fun h0_ => absurd ((hoff 19 (by kernel_rfl)).symm.trans h0_) (by decide), fun h0_ _ => absurd ((hoff 11 (by kernel_rfl)).symm.trans h0_) (by decide), fun h0_ _ => absurd ((hoff 13 (by kernel_rfl)).symm.trans h0_) (by decide), fun h0_ _ => absurd ((hoff 13 (by kernel_rfl)).symm.trans h0_) (by decide), fun h0_ => absurd ((hoff 11 (by kernel_rfl)).symm.trans h0_) (by decide), fun h0_ => absurd ((hoff 13 (by kernel_rfl)).symm.trans h0_) (by decide)⟩
            refine steps_cons ?_ ?_
            · rintro b a w' ⟨b70, b72, m11_, m13_, ha, Q_BW, Q_SZ, Q_WV, Q_WA, Q_WB, Q_RB, Q_NX, Q_SEP, Q_X11_, Q_X13_⟩ hb_ hon hoff
              refine ⟨_, rfl, fun K hK => ?_⟩
              have e8 : a.tmps[8]? = some (.int .i64 (k : Int)) := by rw [ha]; exact (putSel_off rfl).trans rfl
              replace ha := Aside0.mk ha
              have BW := Aside0.mk Q_BW
              have SZ := Aside0.mk Q_SZ
              have WV := Aside0.mk (Q_WV (hoff 14 (by kernel_rfl)))
              refine value_ (w1 := w') (v := .int .i64 (k : Int)) (by rfl) rfl ?_ ?_
              · go_simp
                (try simp only [i64_w])
                try rfl
              refine hK.out _ _ ⟨b70, b72, m11_, m13_, (by rw [ha.out]; exact putSel_upk 8 hb_ rfl rfl rfl), Q_BW, Q_SZ, Q_WV, fun h0_ _ => absurd ((hoff 14 (by kernel_rfl)).symm.trans h0_) (by decide), fun h0_ => absurd ((hoff 19 (by kernel_rfl)).symm.trans h0_) (by decide), fun h0_ _ => absurd ((hoff 11 (by kernel_rfl)).symm.trans h0_) (by decide), fun h0_ _ => absurd ((hoff 13 (by kernel_rfl)).symm.trans h0_) (by decide), fun h0_ _ => absurd ((hoff 13 (by kernel_rfl)).symm.trans h0_) (by decide), fun h0_ => absurd ((hoff 11 (by kernel_rfl)).symm.trans h0_) (by decide), fun h0_ => absurd ((hoff 13 (by kernel_rfl)).symm.trans h0_) (by decide)⟩
            refine steps_cons ?_ ?_
            · rintro b a w' ⟨b70, b72, m11_, m13_, ha, Q_BW, Q_SZ, Q_WV, Q_WA, Q_WB, Q_RB, Q_NX, Q_SEP, Q_X11_, Q_X13_⟩ hb_ hon hoff
              refine ⟨_, rfl, fun K hK => ?_⟩
              have e66 : a.tmps[66]? = some (.slice (some ad) rs.length cP) := by rw [ha]; exact putSel_on (e := (7, 66, .slice (some ad) rs.length cP)) 7 rfl rfl (hon 7 (by kernel_rfl)) rfl
              have e67 : a.tmps[67]? = some (.int .i64 (k : Int)) := by rw [ha]; exact putSel_on (e := (8, 67, .int .i64 (k : Int))) 8 rfl rfl (hon 8 (by kernel_rfl)) rfl
              replace ha := Aside0.mk ha
              have BW := Aside0.mk Q_BW
              have SZ := Aside0.mk Q_SZ
              have WV := Aside0.mk (Q_WV (hoff 14 (by kernel_rfl)))
              refine value_ (w1 := w') (v := .pointer (some (ad.add k))) (by rfl) rfl ?_ ?_
              · go_simp
                (try simp only [i64_w])
                try rfl
              refine hK.out _ _ ⟨b70, b72, m11_, m13_, (by rw [ha.out]; exact putSel_upk 9 hb_ rfl rfl rfl), Q_BW, Q_SZ, Q_WV, fun h0_ _ => absurd ((hoff 14 (by kernel_rfl)).symm.trans h0_) (by decide), fun h0_ => absurd ((hoff 19 (by kernel_rfl)).symm.trans h0_) (by decide), fun h0_ _ => absurd ((hoff 11 (by kernel_rfl)).symm.trans h0_) (by decide), fun h0_ _ => absurd ((hoff 13 (by kernel_rfl)).symm.trans h0_) (by decide), fun h0_ _ => absurd ((hoff 13 (by kernel_rfl)).symm.trans h0_) (by decide), fun h0_ => absurd ((hoff 11 (by kernel_rfl)).symm.trans h0_) (by decide), fun h0_ => absurd ((hoff 13 (by kernel_rfl)).symm.trans h0_) (by decide)⟩
            refine steps_cons ?_ ?_
            · rintro b a w' ⟨b70, b72, m11_, m13_, ha, Q_BW, Q_SZ, Q_WV, Q_WA, Q_WB, Q_RB, Q_NX, Q_SEP, Q_X11_, Q_X13_⟩ hb_ hon hoff
              refine ⟨_, rfl, fun K hK => ?_⟩
              have e68 : a.tmps[68]? = some (.pointer (some (ad.add k))) := by rw [ha]; exact putSel_on (e := (9, 68, .pointer (some (ad.add k)))) 9 rfl rfl (hon 9 (by kernel_rfl)) rfl
              replace ha := Aside0.mk ha
              have BW := Aside0.mk Q_BW
              have SZ := Aside0.mk Q_SZ
              have WV := Aside0.mk (Q_WV (hoff 14 (by kernel_rfl)))
              have hc_j : w'.cell? (ad.add k) = some (.slice r0.A r0.l.length r0.c) := cell_low RJc.out BW.out
              refine value_ (w1 := w') (v := .slice r0.A r0.l.length r0.c) (by rfl) rfl ?_ ?_
              · go_simp
                (try simp only [i64_w])
                try rfl
              refine hK.out _ _ ⟨b70, b72, m11_, m13_, (by rw [ha.out]; exact putSel_upk 10 hb_ rfl rfl rfl), Q_BW, Q_SZ, Q_WV, fun h0_ _ => absurd ((hoff 14 (by kernel_rfl)).symm.trans h0_) (by decide), fun h0_ => absurd ((hoff 19 (by kernel_rfl)).symm.trans h0_) (by decide), fun h0_ _ => absurd ((hoff 11 (by kernel_rfl)).symm.trans h0_) (by decide), fun h0_ _ => absurd ((hoff 13 (by kernel_rfl)).symm.trans h0_) (by decide), fun h0_ _ => absurd ((hoff 13 (by kernel_rfl)).symm.trans h0_) (by decide), fun h0_ => absurd ((hoff 11 (by kernel_rfl)).symm.trans h0_) (by decide), fun h0_ => absurd ((hoff 13 (by kernel_rfl)).symm.trans h0_) (by decide)⟩
            refine steps_cons ?_ ?_
            · rintro b a w' ⟨b70, b72, m11_, m13_, ha, Q_BW, Q_SZ, Q_WV, Q_WA, Q_WB, Q_RB, Q_NX, Q_SEP, Q_X11_, Q_X13_⟩ hb_ hon hoff
              refine ⟨_, rfl, fun K hK => ?_⟩
              have e69 : a.tmps[69]? = some (.slice r0.A r0.l.length r0.c) := by rw [ha]; exact putSel_on (e := (10, 69, .slice r0.A r0.l.length r0.c)) 10 rfl rfl (hon 10 (by kernel_rfl)) rfl
              replace ha := Aside0.mk ha
              have BW := Aside0.mk Q_BW
              have SZ := Aside0.mk Q_SZ
              have WV := Aside0.mk (Q_WV (hoff 14 (by kernel_rfl)))
              refine value_ (w1 := w'.alloc (.cells #[.slice r0.A r0.l.length r0.c] 27)) (v := .slice (some ⟨w'.heap.size, 0, none⟩) 1 1) (by rfl) rfl ?_ ?_
              · go_simp
                try rfl
              refine hK.out _ _ ⟨w'.heap.size, b72, (.slice (some ⟨w'.heap.size, 0, none⟩) 1 1), m13_, (by rw [ha.out]; exact putSel_upk 11 hb_ rfl rfl rfl), bw_alloc BW.out SZ.out HBz.out _, (by have h_ := SZ.out; simp; omega), fun _ => WV.out.alloc _, fun h0_ _ => absurd ((hoff 14 (by kernel_rfl)).symm.trans h0_) (by decide), fun h0_ => absurd ((hoff 19 (by kernel_rfl)).symm.trans h0_) (by decide), fun _ _ => rows1 (row_low RJo.out BW.out), fun h0_ _ => absurd ((hoff 13 (by kernel_rfl)).symm.trans h0_) (by decide), fun h0_ _ => absurd ((hoff 13 (by kernel_rfl)).symm.trans h0_) (by decide), fun _ => rfl, fun h0_ => absurd ((hoff 13 (by kernel_rfl)).symm.trans h0_) (by decide)⟩
            refine steps_cons ?_ ?_
            · rintro b a w' ⟨b70, b72, m11_, m13_, ha, Q_BW, Q_SZ, Q_WV, Q_WA, Q_WB, Q_RB, Q_NX, Q_SEP, Q_X11_, Q_X13_⟩ hb_ hon hoff
              refine ⟨_, rfl, fun K hK => ?_⟩
              have e70 : a.tmps[70]? = some (m11_) := by rw [ha]; exact putSel_on (e := (11, 70, m11_)) 11 rfl rfl (hon 11 (by kernel_rfl)) rfl
              rw [Q_X11_ (hon 11 (by kernel_rfl))] at e70
              replace ha := Aside0.mk ha
              have BW := Aside0.mk Q_BW
              have SZ := Aside0.mk Q_SZ
              have WV := Aside0.mk (Q_WV (hoff 14 (by kernel_rfl)))
              have RB := Aside0.mk (Q_RB (hon 11 (by kernel_rfl)) hb_)
              refine goes_ Try.func8 (by kernel_rfl) rfl #[.slice (some ⟨b70, 0, none⟩) 1 1] (by rfl) rfl rfl (by first | (simp only [List.map_toArray, List.map_cons, List.map_nil, Act.eval, Array.getD_eq_getD_getElem?, Option.getD_some, e70]; done) | (simp only [List.map_toArray, List.map_cons, List.map_nil, Act.eval, Array.getD_eq_getD_getElem?, Option.getD_some, e70]; rfl)) ?_
              refine (Sum_any [(⟨r0.A, r0.c, r0.l⟩ : Row)] (some ⟨b70, 0, none⟩) 1 1 w' rfl RB.out).mono ?_
              rintro e w1 ⟨he, hn⟩
              rw [show (ll [(⟨r0.A, r0.c, r0.l⟩ : Row)]).flatten = r0.l by simp [ll]] at he
              subst he
              refine ⟨_, rfl, ?_⟩
              refine hK.out _ _ ⟨b70, b72, m11_, m13_, (by rw [ha.out]; exact putSel_upk 12 hb_ rfl rfl rfl), bw_below BW.out SZ.out HBz.out hn.below, Nat.le_trans SZ.out hn.below.size, fun _ => WV.out.below hn.below, fun h0_ _ => absurd ((hoff 14 (by kernel_rfl)).symm.trans h0_) (by decide), fun h0_ => absurd ((hoff 19 (by kernel_rfl)).symm.trans h0_) (by decide), fun _ h1_ => absurd ((up_self b 12).symm.trans h1_) (by decide), fun h0_ _ => absurd ((hoff 13 (by kernel_rfl)).symm.trans h0_) (by decide), fun h0_ _ => absurd ((hoff 13 (by kernel_rfl)).symm.trans h0_) (by decide), Q_X11_, fun h0_ => absurd ((hoff 13 (by kernel_rfl)).symm.trans h0_) (by decide)⟩
            refine steps_cons ?_ ?_
            · rintro b a w' ⟨b70, b72, m11_, m13_, ha, Q_BW, Q_SZ, Q_WV, Q_WA, Q_WB, Q_RB, Q_NX, Q_SEP, Q_X11_, Q_X13_⟩ hb_ hon hoff
              refine ⟨_, rfl, fun K hK => ?_⟩
              have e65 : a.tmps[65]? = some (.int .u32 (r0.l.length : Int)) := by rw [ha]; exact putSel_on (e := (6, 65, .int .u32 (r0.l.length : Int))) 6 rfl rfl (hon 6 (by kernel_rfl)) rfl
              have e71 : a.tmps[71]? = some (.int .u32 (crcOf r0.l)) := by rw [ha]; exact putSel_on (e := (12, 71, .int .u32 (crcOf r0.l))) 12 rfl rfl (hon 12 (by kernel_rfl)) rfl
              replace ha := Aside0.mk ha
              have BW := Aside0.mk Q_BW
              have SZ := Aside0.mk Q_SZ
              have WV := Aside0.mk (Q_WV (hoff 14 (by kernel_rfl)))
              refine value_ (w1 := w'.alloc (.cells #[.int .u32 (r0.l.length : Int), .int .u32 (crcOf r0.l)] 23)) (v := .slice (some ⟨w'.heap.size, 0, none⟩) 2 2) (by rfl) rfl ?_ ?_
              · go_simp
                try rfl
              refine hK.out _ _ ⟨b70, w'.heap.size, m11_, (.slice (some ⟨w'.heap.size, 0, none⟩) 2 2), (by rw [ha.out]; exact putSel_upk 13 hb_ rfl rfl rfl), bw_alloc BW.out SZ.out HBz.out _, (by have h_ := SZ.out; simp; omega), fun _ => WV.out.alloc _, fun h0_ _ => absurd ((hoff 14 (by kernel_rfl)).symm.trans h0_) (by decide), fun h0_ => absurd ((hoff 19 (by kernel_rfl)).symm.trans h0_) (by decide), fun _ h1_ => absurd ((hon 12 (by kernel_rfl)).symm.trans h1_) (by decide), fun _ _ => reads_box w' .u32 [(r0.l.length : Int), crcOf r0.l] 2 23 rfl (by omega), fun _ _ => ⟨Nat.ne_of_gt WV.out.lt, fun e => Nat.lt_irrefl _ (WV.out.own.lt _ e.symm).2⟩, Q_X11_, fun _ => rfl⟩
            refine steps_cons ?_ ?_
            · rintro b a w' ⟨b70, b72, m11_, m13_, ha, Q_BW, Q_SZ, Q_WV, Q_WA, Q_WB, Q_RB, Q_NX, Q_SEP, Q_X11_, Q_X13_⟩ hb_ hon hoff
              refine ⟨_, rfl, fun K hK => ?_⟩
              have e59 : a.tmps[59]? = some (.pointer (some ⟨wb, 0, none⟩)) := by rw [ha]; exact putSel_on (e := (0, 59, .pointer (some ⟨wb, 0, none⟩))) 0 rfl rfl (hon 0 (by kernel_rfl)) rfl
              have e72 : a.tmps[72]? = some (m13_) := by rw [ha]; exact putSel_on (e := (13, 72, m13_)) 13 rfl rfl (hon 13 (by kernel_rfl)) rfl
              rw [Q_X13_ (hon 13 (by kernel_rfl))] at e72
              replace ha := Aside0.mk ha
              have BW := Aside0.mk Q_BW
              have SZ := Aside0.mk Q_SZ
              have WV := Aside0.mk (Q_WV hb_)
              have NX := Aside0.mk (Q_NX (hon 13 (by kernel_rfl)) hb_)
              have SEP := Aside0.mk (Q_SEP (hon 13 (by kernel_rfl)) hb_)
              refine goes_ Try.func7 (by kernel_rfl) rfl #[.pointer (some ⟨wb, 0, none⟩), .slice (some ⟨b72, 0, none⟩) 2 2] (by rfl) rfl rfl (by first | (simp only [List.map_toArray, List.map_cons, List.map_nil, Act.eval, Array.getD_eq_getD_getElem?, Option.getD_some, e59, e72]; done) | (simp only [List.map_toArray, List.map_cons, List.map_nil, Act.eval, Array.getD_eq_getD_getElem?, Option.getD_some, e59, e72]; rfl)) ?_
              refine (U32_any wb wb v L [(r0.l.length : Int), crcOf r0.l] (some ⟨b72, 0, none⟩) 2 w' WV.out (Nat.le_refl _) (Nat.le_trans HBz.out SZ.out) NX.out HX2.out (fun _ a ha => by obtain rfl := Option.some.inj ha; exact SEP.out) (by have h_ := HLL.out; simp only [List.length_cons, List.length_nil]; omega)).mono ?_
              rintro e w1 ⟨rfl, hs⟩
              obtain ⟨v1, g1, g2, g3, g4⟩ := hs
              have hsz1 := g4.size
              refine ⟨_, rfl, ?_⟩
              refine hK.out _ _ ⟨b70, b72, m11_, m13_, (by rw [ha.out]; exact putSel_upk 14 hb_ rfl rfl rfl), BW.out.trans g4, Nat.le_trans SZ.out hsz1, fun h0_ => absurd ((up_self b 14).symm.trans h0_) (by decide), fun _ _ => ⟨v1, g1⟩, fun h0_ => absurd ((hoff 19 (by kernel_rfl)).symm.trans h0_) (by decide), fun _ h1_ => absurd ((hon 12 (by kernel_rfl)).symm.trans h1_) (by decide), fun _ h1_ => absurd ((up_self b 14).symm.trans h1_) (by decide), fun _ h1_ => absurd ((up_self b 14).symm.trans h1_) (by decide), Q_X11_, Q_X13_⟩
            refine steps_cons ?_ ?_
            · rintro b a w' ⟨b70, b72, m11_, m13_, ha, Q_BW, Q_SZ, Q_WV, Q_WA, Q_WB, Q_RB, Q_NX, Q_SEP, Q_X11_, Q_X13_⟩ hb_ hon hoff
              refine ⟨_, rfl, fun K hK => ?_⟩
              have e3 : a.tmps[3]? = some (.pointer (some ⟨bp, 0, none⟩)) := by rw [ha]; exact (putSel_off rfl).trans rfl
              replace ha := Aside0.mk ha
              have BW := Aside0.mk Q_BW
              have SZ := Aside0.mk Q_SZ
              have hc_p : w'.cell? ⟨bp, 0, none⟩ = some (.slice (some ad) rs.length cP) := (blk_cell (blk_low HPz.out BW.out) 0).trans rfl
              refine value_ (w1 := w') (v := .slice (some ad) rs.length cP) (by rfl) rfl ?_ ?_
              · go_simp
                (try simp only [i64_w])
                try rfl
              refine hK.out _ _ ⟨b70, b72, m11_, m13_, (by rw [ha.out]; exact putSel_upk 15 hb_ rfl rfl rfl), Q_BW, Q_SZ, Q_WV, Q_WA, fun h0_ => absurd ((hoff 19 (by kernel_rfl)).symm.trans h0_) (by decide), Q_RB, Q_NX, Q_SEP, Q_X11_, Q_X13_⟩
            refine steps_cons ?_ ?_
            · rintro b a w' ⟨b70, b72, m11_, m13_, ha, Q_BW, Q_SZ, Q_WV, Q_WA, Q_WB, Q_RB, Q_NX, Q_SEP, Q_X11_, Q_X13_⟩ hb_ hon hoff
              refine ⟨_, rfl, fun K hK => ?_⟩
              have e8 : a.tmps[8]? = some (.int .i64 (k : Int)) := by rw [ha]; exact (putSel_off rfl).trans rfl
              replace ha := Aside0.mk ha
              have BW := Aside0.mk Q_BW
              have SZ := Aside0.mk Q_SZ
              refine value_ (w1 := w') (v := .int .i64 (k : Int)) (by rfl) rfl ?_ ?_
              · go_simp
                (try simp only [i64_w])
                try rfl
              refine hK.out _ _ ⟨b70, b72, m11_, m13_, (by rw [ha.out]; exact putSel_upk 16 hb_ rfl rfl rfl), Q_BW, Q_SZ, Q_WV, Q_WA, fun h0_ => absurd ((hoff 19 (by kernel_rfl)).symm.trans h0_) (by decide), Q_RB, Q_NX, Q_SEP, Q_X11_, Q_X13_⟩
            refine steps_cons ?_ ?_
            · rintro b a w' ⟨b70, b72, m11_, m13_, ha, Q_BW, Q_SZ, Q_WV, Q_WA, Q_WB, Q_RB, Q_NX, Q_SEP, Q_X11_, Q_X13_⟩ hb_ hon hoff
              refine ⟨_, rfl, fun K hK => ?_⟩
              have e74 : a.tmps[74]? = some (.slice (some ad) rs.length cP) := by rw [ha]; exact putSel_on (e := (15, 74, .slice (some ad) rs.length cP)) 15 rfl rfl (hon 15 (by kernel_rfl)) rfl
              have e75 : a.tmps[75]? = some (.int .i64 (k : Int)) := by rw [ha]; exact putSel_on (e := (16, 75, .int .i64 (k : Int))) 16 rfl rfl (hon 16 (by kernel_rfl)) rfl
              replace ha := Aside0.mk ha
              have BW := Aside0.mk Q_BW
              have SZ := Aside0.mk Q_SZ
              refine value_ (w1 := w') (v := .pointer (some (ad.add k))) (by rfl) rfl ?_ ?_
              · go_simp
                (try simp only [i64_w])
                try rfl
              refine hK.out _ _ ⟨b70, b72, m11_, m13_, (by rw [ha.out]; exact putSel_upk 17 hb_ rfl rfl rfl), Q_BW, Q_SZ, Q_WV, Q_WA, fun h0_ => absurd ((hoff 19 (by kernel_rfl)).symm.trans h0_) (by decide), Q_RB, Q_NX, Q_SEP, Q_X11_, Q_X13_⟩
            refine steps_cons ?_ ?_
            · rintro b a w' ⟨b70, b72, m11_, m13_, ha, Q_BW, Q_SZ, Q_WV, Q_WA, Q_WB, Q_RB, Q_NX, Q_SEP, Q_X11_, Q_X13_⟩ hb_ hon hoff
              refine ⟨_, rfl, fun K hK => ?_⟩
              have e76 : a.tmps[76]? = some (.pointer (some (ad.add k))) := by rw [ha]; exact putSel_on (e := (17, 76, .pointer (some (ad.add k)))) 17 rfl rfl (hon 17 (by kernel_rfl)) rfl
              replace ha := Aside0.mk ha
              have BW := Aside0.mk Q_BW
              have SZ := Aside0.mk Q_SZ
              have hc_j : w'.cell? (ad.add k) = some (.slice r0.A r0.l.length r0.c) := cell_low RJc.out BW.out
              refine value_ (w1 := w') (v := .slice r0.A r0.l.length r0.c) (by rfl) rfl ?_ ?_
              · go_simp
                (try simp only [i64_w])
                try rfl
              refine hK.out _ _ ⟨b70, b72, m11_, m13_, (by rw [ha.out]; exact putSel_upk 18 hb_ rfl rfl rfl), Q_BW, Q_SZ, Q_WV, Q_WA, fun h0_ => absurd ((hoff 19 (by kernel_rfl)).symm.trans h0_) (by decide), Q_RB, Q_NX, Q_SEP, Q_X11_, Q_X13_⟩
            refine steps_cons ?_ ?_
            · rintro b a w' ⟨b70, b72, m11_, m13_, ha, Q_BW, Q_SZ, Q_WV, Q_WA, Q_WB, Q_RB, Q_NX, Q_SEP, Q_X11_, Q_X13_⟩ hb_ hon hoff
              refine ⟨_, rfl, fun K hK => ?_⟩
              have e73 : a.tmps[73]? = some (.pointer (some ⟨wb, 0, none⟩)) := by rw [ha]; exact putSel_on (e := (14, 73, .pointer (some ⟨wb, 0, none⟩))) 14 rfl rfl (hon 14 (by kernel_rfl)) rfl
              have e77 : a.tmps[77]? = some (.slice r0.A r0.l.length r0.c) := by rw [ha]; exact putSel_on (e := (18, 77, .slice r0.A r0.l.length r0.c)) 18 rfl rfl (hon 18 (by kernel_rfl)) rfl
              replace ha := Aside0.mk ha
              have BW := Aside0.mk Q_BW
              have SZ := Aside0.mk Q_SZ
              have WA := Aside0.mk (Q_WA (hon 14 (by kernel_rfl)) hb_)
              obtain ⟨v1, gv⟩ := WA.out
              refine goes_ Try.func9 (by kernel_rfl) rfl #[.pointer (some ⟨wb, 0, none⟩), .slice r0.A r0.l.length r0.c] (by rfl) rfl rfl (by first | (simp only [List.map_toArray, List.map_cons, List.map_nil, Act.eval, Array.getD_eq_getD_getElem?, Option.getD_some, e73, e77]; done) | (simp only [List.map_toArray, List.map_cons, List.map_nil, Act.eval, Array.getD_eq_getD_getElem?, Option.getD_some, e73, e77]; rfl)) ?_
              refine (Raw_any wb wb v1 (L ++ les 4 [(r0.l.length : Int), crcOf r0.l]) r0.l r0.A r0.l.length r0.c w' gv (Nat.le_refl _) (Nat.le_trans HBz.out SZ.out) (row_low RJo.out BW.out).2.1 (by have h_ := HLL.out; have h2_ := HR3.out; simp only [List.length_append, les_length, List.length_cons, List.length_nil]; omega)).mono ?_
              rintro e w1 ⟨rfl, hs⟩
              obtain ⟨v2, k1, k2, k3, k4⟩ := hs
              have hsz1 := k4.size
              refine ⟨_, rfl, ?_⟩
              refine hK.out _ _ ⟨b70, b72, m11_, m13_, (by rw [ha.out]; exact putSel_upk 19 hb_ rfl rfl rfl), BW.out.trans k4, Nat.le_trans SZ.out hsz1, fun h0_ => absurd ((hon 14 (by kernel_rfl)).symm.trans h0_) (by decide), fun _ h1_ => absurd ((up_self b 19).symm.trans h1_) (by decide), fun _ => ⟨v2, by rw [frame_les] at k1; exact k1⟩, fun _ h1_ => absurd ((hon 12 (by kernel_rfl)).symm.trans h1_) (by decide), fun _ h1_ => absurd ((hon 14 (by kernel_rfl)).symm.trans h1_) (by decide), fun _ h1_ => absurd ((hon 14 (by kernel_rfl)).symm.trans h1_) (by decide), Q_X11_, Q_X13_⟩
            exact steps_nil
          · rintro b a w' hall ⟨b70, b72, m11_, m13_, ha, Q_BW, Q_SZ, Q_WV, Q_WA, Q_WB, Q_RB, Q_NX, Q_SEP, Q_X11_, Q_X13_⟩
            clear BW SZ WV
            have hb0_ := hall 0 (by kernel_rfl)
            have hb1_ := hall 1 (by kernel_rfl)
            have hb2_ := hall 2 (by kernel_rfl)
            have hb3_ := hall 3 (by kernel_rfl)
            have hb4_ := hall 4 (by kernel_rfl)
            have hb5_ := hall 5 (by kernel_rfl)
            have hb6_ := hall 6 (by kernel_rfl)
            have hb7_ := hall 7 (by kernel_rfl)
            have hb8_ := hall 8 (by kernel_rfl)
            have hb9_ := hall 9 (by kernel_rfl)
            have hb10_ := hall 10 (by kernel_rfl)
            have hb11_ := hall 11 (by kernel_rfl)
            have hb12_ := hall 12 (by kernel_rfl)
            have hb13_ := hall 13 (by kernel_rfl)
            have hb14_ := hall 14 (by kernel_rfl)
            have hb15_ := hall 15 (by kernel_rfl)
            have hb16_ := hall 16 (by kernel_rfl)
            have hb17_ := hall 17 (by kernel_rfl)
            have hb18_ := hall 18 (by kernel_rfl)
            have hb19_ := hall 19 (by kernel_rfl)
            subst ha
            obtain rfl := Q_X11_ hb11_
            obtain rfl := Q_X13_ hb13_
            simp only [putSel, hb0_, hb1_, hb2_, hb3_, hb4_, hb5_, hb6_, hb7_, hb8_, hb9_, hb10_, hb11_, hb12_, hb13_, hb14_, hb15_, hb16_, hb17_, hb18_, hb19_, if_true, Act.put, List.setIfInBounds_toArray, List.set_cons_zero, List.set_cons_succ]
            have BW := Aside0.mk Q_BW
            clear Q_BW
            have SZ := Aside0.mk Q_SZ
            clear Q_SZ
            clear Q_WV
            clear Q_WA
            have WB := Aside0.mk (Q_WB hb19_)
            clear Q_WB
            clear Q_RB
            clear Q_NX
            clear Q_SEP
            clear hall hb0_ hb1_ hb2_ hb3_ hb4_ hb5_ hb6_ hb7_ hb8_ hb9_ hb10_ hb11_ hb12_ hb13_ hb14_ hb15_ hb16_ hb17_ hb18_ hb19_
            obtain ⟨v1, k1⟩ := WB.out
            have HS1 := Lib.hid k1
            have HB1 := Lib.hid ((show Below wb w3 wr from HB.out).trans (DZ.out _ BW.out))
            clear k1 WB
            go_wp2_with fail
            go_roundw
            case rel =>
              refine ⟨k + 1, v1, by omega, by go_num, Lib.hid ?_, Lib.hid ?_, Lib.hid ?_, HB1⟩
              · rw [HFS.out, List.length_append, frameL_length]
                have h1_ := HFL.out; have h2_ := HR3.out
                omega
              · intro j hj
                by_cases e : j = k
                · rw [e, HR0.out]; exact HR3.out
                · exact H300.out j (by omega)
              · rw [HFS.out]; exact HS1.out
            case measure => simp [intOf]; omega
      · obtain rfl : k = rs.length := by omega
        have hkn : (ll rs).take rs.length = ll rs := List.take_of_length_le (by rw [HLLN.out]; omega)
        rw [hkn] at HFL HS
        have HA3 : Hid (∀ r ∈ rs, r.l.length ≤ 300) := Lib.hid (fun r hr => by
          obtain ⟨j, hj, rfl⟩ := List.getElem_of_mem hr
          have h_ := H300.out j hj
          rwa [List.getD_eq_getElem?_getD, List.getElem?_eq_getElem hj] at h_)
        have hLl : (framesL (ll rs)).length ≤ 10000 := by have h1_ := HFL.out; have h2_ := HL20.out; have h3_ : rs.length * 308 ≤ 20 * 308 := Nat.mul_le_mul_right _ (by omega); omega
        have TR := Lib.hid hTr
        have HWR : Hid (wb < wr.heap.size) := Lib.hid HS.out.lt
        clear hkn H300 HFL hTr HPr
        go_wp2_with fail
        have hbs : ((wr.alloc (.cells #[.bool true] 4)).alloc (.cells #[.int .i64 0] 3)).heap[wr.heap.size]? = some (.cells #[.bool true] 4 (0, 0)) := blk_alloc (heap_alloc_new wr _) _
        have hbe : ((wr.alloc (.cells #[.bool true] 4)).alloc (.cells #[.int .i64 0] 3)).heap[wr.heap.size + 1]? = some (.cells #[.int .i64 0] 3 (0, 0)) := by
          have h_ := heap_alloc_new (wr.alloc (.cells #[.bool true] 4)) (.cells #[.int .i64 0] 3)
          simpa using h_
        have hbw : Below wr.heap.size wr ((wr.alloc (.cells #[.bool true] 4)).alloc (.cells #[.int .i64 0] 3)) := bl_alloc (bl_alloc (Below.refl _ _) _) _
        have hsv : ((wr.alloc (.cells #[.bool true] 4)).alloc (.cells #[.int .i64 0] 3)).heap.size = wr.heap.size + 2 := by simp
        have hls := HS.out.below hbw
        obtain ⟨V, hV⟩ : ∃ V, ((wr.alloc (.cells #[.bool true] 4)).alloc (.cells #[.int .i64 0] 3)) = V := ⟨_, rfl⟩
        rw [hV] at hbs hbe hbw hsv hls ⊢
        have HV := Lib.hid (And.intro hbs (And.intro hbe (And.intro hbw hsv)))
        have HLS := Lib.hid hls
        have BXV := Lib.hid (And.intro (blk_below (blk_low ⟨LT3.out.1, BX3.out.1⟩ HB.out) hbw) (And.intro (blk_below (blk_low ⟨LT3.out.2.1, BX3.out.2.1⟩ HB.out) hbw) (And.intro (blk_below (blk_low ⟨LT3.out.2.2.1, BX3.out.2.2.1⟩ HB.out) hbw) (blk_below (blk_low ⟨LT3.out.2.2.2, BX3.out.2.2.2⟩ HB.out) hbw))))
        clear hbs hbe hbw hsv hls hV zp HB HS
        refine (Bytes_any wb wb v (framesL (ll rs)) V HLS.out (by omega)).mono ?_
        rintro e w5 ⟨v5, rfl, hn5⟩
        have hn5 : New V w5 v5 (framesL (ll rs)) := hn5
        obtain ⟨A5, c5, rfl, hc5⟩ := hn5.slice
        have N5 := Lib.hid hn5
        have T5 : Hid (Below w.heap.size w w5) := Lib.hid (bl_seq (bl_seq TR.out HV.out.2.2.1) hn5.bel)
        have b5s := Lib.hid (blk_below HV.out.1 hn5.bel)
        have b5e := Lib.hid (blk_below HV.out.2.1 hn5.bel)
        have BX5 := Lib.hid (And.intro (blk_below BXV.out.1 hn5.bel) (And.intro (blk_below BXV.out.2.1 hn5.bel) (And.intro (blk_below BXV.out.2.2.1 hn5.bel) (blk_below BXV.out.2.2.2 hn5.bel))))
        have sz5 : Hid (wb < wr.heap.size ∧ wr.heap.size + 2 ≤ w5.heap.size ∧ w.heap.size ≤ wb) := Lib.hid ⟨HWR.out, by have h2 := hn5.bel.size; have h3 := HV.out.2.2.2; omega, by have h1_ := HWB.out; have h2_ := T3.out.size; omega⟩
        clear hn5 BXV
        go_wp2_with fail
        refine (read_mods A5 (framesL (ll rs)).length c5 11 #[.pointer (some ⟨wr.heap.size, 0, none⟩), .pointer (some ⟨wr.heap.size + 1, 0, none⟩), .pointer (some ⟨bp, 0, none⟩), .pointer (some ⟨bw, 0, none⟩), .pointer (some ⟨bb, 0, none⟩), .pointer (some ⟨ba, 0, none⟩)] w5 (fun i => i = wr.heap.size ∨ i = wr.heap.size + 1) (fun w' => w'.heap[wr.heap.size]? = some (.cells #[.bool true] 4 (0, 0)) ∧ w'.heap[wr.heap.size + 1]? = some (.cells #[.int .i64 (rs.length : Int)] 3 (0, 0))) (fun _ => False) Try.f11 Try.func11 (by kernel_rfl) (by kernel_rfl) (by have h_ := sz5.out; rintro i (rfl | rfl) <;> omega) (fun wa wc h k => by have h_ := sz5.out; exact ⟨k.blk h.1 (by omega) (by simp), k.blk h.2 (by omega) (by simp)⟩) (fun _ _ h _ => h) ?_).mono ?_
        · intro wc he hrd hbl hsz
          have h_ := sz5.out
          have l_ := LT3.out
          have hfar := fun q hq => N5.out.far (k := q) hq
          have hlt5 := fun q hq => (N5.out.1.lt q hq).2
          have hA5 : ∀ a, A5 = some a → wr.heap.size + 2 ≤ a.block ∧ a.block < w5.heap.size := fun a ha => by
            have e1 := hfar a.block (by rw [ha]; rfl)
            have e2 := hlt5 a.block (by rw [ha]; rfl)
            have e3 := HV.out.2.2.2
            omega
          refine (topc_any (w5.heap.size + 1) wr.heap.size (wr.heap.size + 1) bp bw bb ba A5 AP (framesL (ll rs)).length c5 cP bt wh at0 rs wc ?_ ⟨hrd, Mods.refl _ _, blk_below b5s.out hbl, by simpa using blk_below b5e.out hbl⟩ hc5 (by omega) (by omega) (by omega) (fun a ha => by have h2_ := hA5 a ha; omega) HA3.out (by have h2_ := HL20.out; omega) HBT.out (by omega)).mono ?_
          · intro W hM
            refine ⟨hM.blk (blk_below BX5.out.1 hbl) (by omega), hM.blk (blk_below BX5.out.2.1 hbl) (by omega), hM.blk (blk_below BX5.out.2.2.2 hbl) (by omega), hM.blk (blk_below BX5.out.2.2.1 hbl) (by omega), HR.out.below ((bl_seq T5.out hbl).trans (hM.below (B := w.heap.size) (by have h2_ := T5.out.size; have h3_ := hbl.size; omega) (by rintro i (rfl | rfl | rfl) <;> omega))), hM.reads (N5.out.reads.below hbl) (fun a ha => by have h2_ := hA5 a ha; omega)⟩
          · rintro e w' ⟨he2, kk, hG⟩
            exact ⟨hG.2.1.mono (fun i hi => by rcases hi with e | e | e; exact .inl e; exact .inr (.inl e); exact .inr (.inr e)), .inl ⟨he2, hG.2.2.1, hG.2.2.2⟩⟩
        · rintro e w6 ⟨hM, ⟨rfl, hP1, hP2⟩ | ⟨_, hF⟩⟩
          · have hz0 : w6.cell? ⟨wr.heap.size, 0, none⟩ = some (.bool true) := (blk_cell hP1 0).trans rfl
            have hz1 : w6.cell? ⟨wr.heap.size + 1, 0, none⟩ = some (.int .i64 (rs.length : Int)) := (blk_cell hP2 0).trans rfl
            have hz2 : w6.cell? ⟨bp, 0, none⟩ = some (.slice AP rs.length cP) := (blk_cell (hM.blk BX5.out.1 (by have h_ := sz5.out; have l_ := LT3.out; omega)) 0).trans rfl
            have T6 : Hid (Below w.heap.size w w6) := Lib.hid (T5.out.trans (hM.below (B := w.heap.size) (by have h_ := T5.out.size; omega) (by have h_ := sz5.out; rintro i (rfl | rfl) <;> omega)))
            clear hM hP1 hP2
            go_wp2_with fail
            go_ret
            exact ⟨by simp, T6.out⟩
          · exact hF.elim
end Go.Proofs.Ytffalemndjampaa
