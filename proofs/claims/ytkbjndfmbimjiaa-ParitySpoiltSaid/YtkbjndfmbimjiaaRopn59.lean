import Derived.Test.YtkbjndfmbimjiaaRref9
import Derived.Test.YtkbjndfmbimjiaaRcom
import Derived.Test.YtkbjndfmbimjiaaChain
/-! gabionref05.Open. -/
set_option linter.unusedVariables false
set_option linter.unusedSimpArgs false
namespace Go.Proofs.Ytkbjndfmbimjiaa
open Go.RowKit Go.Proofs.YtkbjndfmbimjiaaW.PrintWords Go.Proofs.YtkbjndfmbimjiaaW.PrintLast
def Rop5.T3 : Bool × List (List Nat × List Nat) := (true, [([], []), ([0], [0]), ([1], [1]), ([2], [2]), ([], []), ([4], [4]), ([5], [5]), ([], []), ([7, 5], [7]), ([8], [8]), ([], []), ([10, 8], [10]), ([11], [11]), ([], []), ([13, 11], [13]), ([14], [14]), ([], []), ([16, 14], [16]), ([17], [17]), ([], []), ([19, 17], [19]), ([20], [20]), ([3, 6, 9, 12, 15, 18, 21], [3, 6, 9, 12, 15, 18, 21]), ([], []), ([23, 22, 20, 0, 1, 2, 3, 4, 5, 6, 7, 8, 9, 10, 11, 12, 13, 14, 15, 16, 17, 18, 19, 20, 21, 22, 23], [22, 23])])
def Rop5.B3 : List Nat := [0, 1, 3, 7, 0, 16, 48, 0, 176, 432, 0, 1456, 3504, 0, 11696, 28080, 0, 93616, 224688, 0, 748976, 1797552, 4194303, 0, 16777215]
theorem Rop5.tab3 : rtab .any (opsOf Try.f28 3) = Rop5.T3 := by kernel_rfl
theorem Rop5.bits3 : waitsOk Rop5.T3.2 Rop5.B3 = true := by kernel_rfl
def Rop5.T4 : Bool × List (List Nat × List Nat) := (true, [([], []), ([0], [0]), ([1], [1]), ([2], [2]), ([3], [3]), ([4, 3], [3, 4]), ([5, 3], [3, 5]), ([3, 6], [3, 6]), ([7, 3], [7]), ([8], [8]), ([8], [8]), ([8], [8]), ([11, 8], [8, 11]), ([9, 10, 12, 8, 8], [8, 9, 10, 12]), ([8], [8]), ([13, 14, 13, 8], [8, 13, 14]), ([15, 8], [8, 15]), ([8, 16], [8, 16])])
def Rop5.B4 : List Nat := [0, 1, 3, 7, 15, 31, 63, 127, 255, 511, 511, 511, 2559, 8191, 511, 32767, 65535, 131071]
theorem Rop5.tab4 : rtab .any (opsOf Try.f28 4) = Rop5.T4 := by kernel_rfl
theorem Rop5.bits4 : waitsOk Rop5.T4.2 Rop5.B4 = true := by kernel_rfl
abbrev hd64 (h : Hd) : Array Value := #[.int .i64 h.k, .int .i64 h.e, .int .i64 h.b, .int .i64 h.i, .int .i64 h.c, .int .i64 h.l, .int .i64 h.m]
theorem i64w {i : Int} (h0 : -9223372036854775808 ≤ i) (h1 : i ≤ 9223372036854775807) : IntKind.i64.wrap i = i := by rw [i64_w]; exact w64 h0 h1
theorem at_one (xs : List Int) (k : Nat) (h : k < xs.length) : at_ xs k 1 = xs.getD k 0 := by
  rw [at_, List.drop_eq_getElem_cons h]
  show num [xs[k]] = _
  rw [List.getD_eq_getElem?_getD, List.getElem?_eq_getElem h]
  simp [num]
theorem rNum64 (xs : List Int) (A : Option Addr) (c a n : Nat) (w : World) (hl : xs.length = 64) (hr : ReadsInt w .u8 A 64 xs) (hb : Byt xs) (hn : n ≤ 4) (h : a + n ≤ 64) :
    Calls Try.prog 43 #[.slice A 64 c, .int .i64 (a : Int), .int .i64 (n : Int)] w fun e w' => e = .returned (.int .u64 (at_ xs a n)) ∧ Drawn0 w w' := by
  have h_ := rNum_any xs A c (a : Int) n w (by rw [hl]; exact hr) hb (by omega) hn (by omega)
  rw [hl, Int.toNat_natCast] at h_
  exact h_
set_option maxHeartbeats 8000000 in
set_option maxRecDepth 100000 in
theorem rOpen05 (A B : Option Addr) (c n d m : Nat) (xs ys : List Int) (w : World) (hr : ReadsInt w .u8 A m xs) (hb : Byt xs) (hc : m ≤ c) (hs : ReadsInt w .u8 B n ys) (by_ : Byt ys) (hd : n ≤ d) (hl : n ≤ 900000) :
    Calls Try.prog 28 #[.slice B n d, .slice A m c] w fun e w' => Below w.heap.size w w' ∧ e = .returned (.tuple #[.agg (hd64 (openR ys xs)), .bool (openB ys xs)]) := by
  have HR := Lib.hid hr
  have HY := Lib.hid hb
  have HS := Lib.hid hs
  have HX := Lib.hid by_
  have HL := Lib.hid hr.1
  have hm := hr.2.1
  clear hr hb hs by_
  by_cases h64 : m = 64
  · subst h64
    have b64 : (((64 : Nat) : Int) != 64) = false := by simp
    obtain ⟨a0, rfl, -⟩ := HR.out.2.2 (by omega)
    have HO := Lib.hid (openH_ok HY.out)
    have E0 : Hid (IntKind.i64.wrap (at_ xs 2 1) = at_ xs 2 1) := Lib.hid (i64w (by have := HO.out.k0; simp [openH] at this; omega) (by have := HO.out.k1; simp [openH] at this; omega))
    have E1 : Hid (IntKind.i64.wrap (at_ xs 4 4) = at_ xs 4 4) := Lib.hid (i64w (by have := HO.out.e0; simp [openH] at this; omega) (by have := HO.out.e1; simp [openH] at this; omega))
    have E2 : Hid (IntKind.i64.wrap (at_ xs 8 4) = at_ xs 8 4) := Lib.hid (i64w (by have := HO.out.b0; simp [openH] at this; omega) (by have := HO.out.b1; simp [openH] at this; omega))
    have E3 : Hid (IntKind.i64.wrap (at_ xs 12 2) = at_ xs 12 2) := Lib.hid (i64w (by have := HO.out.i0; simp [openH] at this; omega) (by have := HO.out.i1; simp [openH] at this; omega))
    have E4 : Hid (IntKind.i64.wrap (at_ xs 14 2) = at_ xs 14 2) := Lib.hid (i64w (by have := HO.out.c0; simp [openH] at this; omega) (by have := HO.out.c1; simp [openH] at this; omega))
    have E5 : Hid (IntKind.i64.wrap (at_ xs 16 4) = at_ xs 16 4) := Lib.hid (i64w (by have := HO.out.l0; simp [openH] at this; omega) (by have := HO.out.l1; simp [openH] at this; omega))
    have E6 : Hid (IntKind.i64.wrap (at_ xs 20 4) = at_ xs 20 4) := Lib.hid (i64w (by have := HO.out.m0; simp [openH] at this; omega) (by have := HO.out.m1; simp [openH] at this; omega))
    have C2 : Hid (∀ W, Below w.heap.size w W → W.cell? ⟨a0.block, a0.off + 2, none⟩ = some (.int .u8 (at_ xs 2 1))) := Lib.hid (fun W hW => by
      obtain ⟨ad, he, hc_⟩ := (HR.out.below hW).at_ 2 (by omega) (by omega)
      obtain rfl := Option.some.inj he
      rw [at_one xs 2 (by rw [HL.out]; omega)]
      exact hc_)
    go_enter Try.func28, Try.ntmps28
    go_wp2_with fail
    have RS : Hid ((w.alloc (.cells #[.int .i64 0, .int .i64 0, .int .i64 0, .int .i64 0, .int .i64 0, .int .i64 0, .int .i64 0] 48)).heap[w.heap.size]? = some (.cells #[.int .i64 0, .int .i64 0, .int .i64 0, .int .i64 0, .int .i64 0, .int .i64 0, .int .i64 0] 48 (0, 0))) := Lib.hid (heap_alloc_new w _)
    have BB : Hid (Below w.heap.size w (w.alloc (.cells #[.int .i64 0, .int .i64 0, .int .i64 0, .int .i64 0, .int .i64 0, .int .i64 0, .int .i64 0] 48))) := Lib.hid (bl_alloc (Below.refl _ _) _)
    have SZ : Hid ((w.alloc (.cells #[.int .i64 0, .int .i64 0, .int .i64 0, .int .i64 0, .int .i64 0, .int .i64 0, .int .i64 0] 48)).heap.size = w.heap.size + 1) := Lib.hid (by simp)
    generalize w.alloc (.cells #[.int .i64 0, .int .i64 0, .int .i64 0, .int .i64 0, .int .i64 0, .int .i64 0, .int .i64 0] 48) = w0 at RS BB SZ ⊢
    refine start_ (n := 25) (S := fun w' => True) (ds := []) #[false, false, false, false, false, false, false, false, false, false, false, false, false, false, false, false, false, false, false, false, false, false, false, false, false] (by kernel_rfl) rfl rfl trivial (fun hHeld => ?_)
    refine with_tabW Rop5.tab3 Rop5.bits3 (fun HT_ HW_ => ?_)
    have BB := Lib.hid (bl_drew BB.out)
    have RS := Lib.hid (show w0.drew.heap[w.heap.size]? = _ from RS.out)
    have SZ := Lib.hid (show w0.drew.heap.size = w.heap.size + 1 from SZ.out)
    generalize w0.drew = wz at BB RS SZ hHeld ⊢
    refine pure_ (i := 0) (N := some 11) (v := ?_) (a' := ?_) #[true, false, false, false, false, false, false, false, false, false, false, false, false, false, false, false, false, false, false, false, false, false, false, false, false] rfl rfl (any_of HT_.out (by kernel_rfl)) (fun _ _ _ h => h) (Or.inl ⟨by rfl, ?_⟩) ?_ ?_
    rotate_left
    · intro w'
      go_simp
      with_reducible rfl
    rotate_left
    · simp only [Act.put, List.setIfInBounds_toArray, List.set_cons_zero, List.set_cons_succ, i64_w, i32_w]
      rfl
    refine pure_ (i := 4) (N := some 15) (v := ?_) (a' := ?_) #[true, false, false, false, true, false, false, false, false, false, false, false, false, false, false, false, false, false, false, false, false, false, false, false, false] rfl rfl (any_of HT_.out (by kernel_rfl)) (fun _ _ _ h => h) (Or.inl ⟨by rfl, ?_⟩) ?_ ?_
    rotate_left
    · intro w'
      go_simp
      with_reducible rfl
    rotate_left
    · simp only [Act.put, List.setIfInBounds_toArray, List.set_cons_zero, List.set_cons_succ, i64_w, i32_w]
      rfl
    refine pure_ (i := 7) (N := some 18) (v := ?_) (a' := ?_) #[true, false, false, false, true, false, false, true, false, false, false, false, false, false, false, false, false, false, false, false, false, false, false, false, false] rfl rfl (any_of HT_.out (by kernel_rfl)) (fun _ _ _ h => h) (Or.inl ⟨by rfl, ?_⟩) ?_ ?_
    rotate_left
    · intro w'
      go_simp
      with_reducible rfl
    rotate_left
    · simp only [Act.put, List.setIfInBounds_toArray, List.set_cons_zero, List.set_cons_succ, i64_w, i32_w]
      rfl
    refine pure_ (i := 10) (N := some 21) (v := ?_) (a' := ?_) #[true, false, false, false, true, false, false, true, false, false, true, false, false, false, false, false, false, false, false, false, false, false, false, false, false] rfl rfl (any_of HT_.out (by kernel_rfl)) (fun _ _ _ h => h) (Or.inl ⟨by rfl, ?_⟩) ?_ ?_
    rotate_left
    · intro w'
      go_simp
      with_reducible rfl
    rotate_left
    · simp only [Act.put, List.setIfInBounds_toArray, List.set_cons_zero, List.set_cons_succ, i64_w, i32_w]
      rfl
    refine pure_ (i := 13) (N := some 24) (v := ?_) (a' := ?_) #[true, false, false, false, true, false, false, true, false, false, true, false, false, true, false, false, false, false, false, false, false, false, false, false, false] rfl rfl (any_of HT_.out (by kernel_rfl)) (fun _ _ _ h => h) (Or.inl ⟨by rfl, ?_⟩) ?_ ?_
    rotate_left
    · intro w'
      go_simp
      with_reducible rfl
    rotate_left
    · simp only [Act.put, List.setIfInBounds_toArray, List.set_cons_zero, List.set_cons_succ, i64_w, i32_w]
      rfl
    refine pure_ (i := 16) (N := some 27) (v := ?_) (a' := ?_) #[true, false, false, false, true, false, false, true, false, false, true, false, false, true, false, false, true, false, false, false, false, false, false, false, false] rfl rfl (any_of HT_.out (by kernel_rfl)) (fun _ _ _ h => h) (Or.inl ⟨by rfl, ?_⟩) ?_ ?_
    rotate_left
    · intro w'
      go_simp
      with_reducible rfl
    rotate_left
    · simp only [Act.put, List.setIfInBounds_toArray, List.set_cons_zero, List.set_cons_succ, i64_w, i32_w]
      rfl
    refine pure_ (i := 19) (N := some 30) (v := ?_) (a' := ?_) #[true, false, false, false, true, false, false, true, false, false, true, false, false, true, false, false, true, false, false, true, false, false, false, false, false] rfl rfl (any_of HT_.out (by kernel_rfl)) (fun _ _ _ h => h) (Or.inl ⟨by rfl, ?_⟩) ?_ ?_
    rotate_left
    · intro w'
      go_simp
      with_reducible rfl
    rotate_left
    · simp only [Act.put, List.setIfInBounds_toArray, List.set_cons_zero, List.set_cons_succ, i64_w, i32_w]
      rfl
    refine inv_at [1, 2, 3, 5, 6, 8, 9, 11, 12, 14, 15, 17, 18, 20, 21, 22, 23, 24] (fun a0_ b a w' => a = putSel a0_ b [(1, 12, .pointer (some (a0.add 2))), (2, 13, .int .u8 (at_ xs 2 1)), (3, 14, .int .i64 (at_ xs 2 1)), (5, 16, .int .u64 (at_ xs 4 4)), (6, 17, .int .i64 (at_ xs 4 4)), (8, 19, .int .u64 (at_ xs 8 4)), (9, 20, .int .i64 (at_ xs 8 4)), (11, 22, .int .u64 (at_ xs 12 2)), (12, 23, .int .i64 (at_ xs 12 2)), (14, 25, .int .u64 (at_ xs 14 2)), (15, 26, .int .i64 (at_ xs 14 2)), (17, 28, .int .u64 (at_ xs 16 4)), (18, 29, .int .i64 (at_ xs 16 4)), (20, 31, .int .u64 (at_ xs 20 4)), (21, 32, .int .i64 (at_ xs 20 4)), (22, 33, .agg #[.int .i64 (at_ xs 2 1), .int .i64 (at_ xs 4 4), .int .i64 (at_ xs 8 4), .int .i64 (at_ xs 12 2), .int .i64 (at_ xs 14 2), .int .i64 (at_ xs 16 4), .int .i64 (at_ xs 20 4)]), (23, 6, .pointer (some ⟨w.heap.size + 1, 0, none⟩))] ∧ (Below w.heap.size w w') ∧ (w'.heap[w.heap.size]? = some (.cells #[.int .i64 0, .int .i64 0, .int .i64 0, .int .i64 0, .int .i64 0, .int .i64 0, .int .i64 0] 48 (0, 0))) ∧ (b 23 = false → w'.heap.size = w.heap.size + 1) ∧ (b 23 = true → b 24 = false → w'.heap[w.heap.size + 1]? = some (.cells #[.int .i64 0, .int .i64 0, .int .i64 0, .int .i64 0, .int .i64 0, .int .i64 0, .int .i64 0] 48 (0, 0))) ∧ (b 24 = true → w'.heap[w.heap.size + 1]? = some (.cells #[.int .i64 (at_ xs 2 1), .int .i64 (at_ xs 4 4), .int .i64 (at_ xs 8 4), .int .i64 (at_ xs 12 2), .int .i64 (at_ xs 14 2), .int .i64 (at_ xs 16 4), .int .i64 (at_ xs 20 4)] 48 (0, 0)))) HT_.out HW_.out (by kernel_rfl) (by kernel_rfl) ?_ ?_ ?_
    · exact ⟨by simp only [putSel, Bool.false_eq_true, if_false], BB.out, RS.out, fun _ => SZ.out, fun h_ => absurd h_ (by decide), fun h_ => absurd h_ (by decide)⟩
    · skip
      clear BB RS SZ
      refine steps_cons ?_ ?_
      · rintro b a w' ⟨ha, Q_BB, Q_RS, Q_SZ, Q_HZ, Q_HB⟩ hb_ hon hoff
        refine ⟨_, rfl, fun K hK => ?_⟩
        have e11 : a.tmps[11]? = some (.slice (some a0) 64 c) := by rw [ha]; exact (putSel_off rfl).trans rfl
        replace ha := Aside0.mk ha
        have BB := Aside0.mk Q_BB
        have RS := Aside0.mk Q_RS
        refine value_ (w1 := w') (v := .pointer (some (a0.add 2))) (by rfl) rfl ?_ ?_
        · go_simp
          (try simp only [i64_w])
          try rfl
        refine hK.out _ _ ⟨(by rw [ha.out]; exact putSel_upk 0 hb_ rfl rfl rfl), Q_BB, Q_RS, Q_SZ, Q_HZ, fun h0_ => absurd ((hoff 24 (by kernel_rfl)).symm.trans h0_) (by decide)⟩
      refine steps_cons ?_ ?_
      · rintro b a w' ⟨ha, Q_BB, Q_RS, Q_SZ, Q_HZ, Q_HB⟩ hb_ hon hoff
        refine ⟨_, rfl, fun K hK => ?_⟩
        have e12 : a.tmps[12]? = some (.pointer (some (a0.add 2))) := by rw [ha]; exact putSel_on (e := (1, 12, .pointer (some (a0.add 2)))) 0 rfl rfl (hon 1 (by kernel_rfl)) rfl
        replace ha := Aside0.mk ha
        have BB := Aside0.mk Q_BB
        have RS := Aside0.mk Q_RS
        have hc_ : w'.cell? ⟨a0.block, a0.off + 2, none⟩ = some (.int .u8 (at_ xs 2 1)) := C2.out w' BB.out
        refine value_ (w1 := w') (v := .int .u8 (at_ xs 2 1)) (by rfl) rfl ?_ ?_
        · go_simp
          (try simp only [i64_w])
          try rfl
        refine hK.out _ _ ⟨(by rw [ha.out]; exact putSel_upk 1 hb_ rfl rfl rfl), Q_BB, Q_RS, Q_SZ, Q_HZ, fun h0_ => absurd ((hoff 24 (by kernel_rfl)).symm.trans h0_) (by decide)⟩
      refine steps_cons ?_ ?_
      · rintro b a w' ⟨ha, Q_BB, Q_RS, Q_SZ, Q_HZ, Q_HB⟩ hb_ hon hoff
        refine ⟨_, rfl, fun K hK => ?_⟩
        have e13 : a.tmps[13]? = some (.int .u8 (at_ xs 2 1)) := by rw [ha]; exact putSel_on (e := (2, 13, .int .u8 (at_ xs 2 1))) 1 rfl rfl (hon 2 (by kernel_rfl)) rfl
        replace ha := Aside0.mk ha
        have BB := Aside0.mk Q_BB
        have RS := Aside0.mk Q_RS
        refine value_ (w1 := w') (v := .int .i64 (at_ xs 2 1)) (by rfl) rfl ?_ ?_
        · go_simp
          exact E0.out
        refine hK.out _ _ ⟨(by rw [ha.out]; exact putSel_upk 2 hb_ rfl rfl rfl), BB.out, RS.out, fun h0_ => (Q_SZ h0_), fun h0_ h1_ => (Q_HZ h0_ h1_), fun h0_ => absurd ((hoff 24 (by kernel_rfl)).symm.trans h0_) (by decide)⟩
      refine steps_cons ?_ ?_
      · rintro b a w' ⟨ha, Q_BB, Q_RS, Q_SZ, Q_HZ, Q_HB⟩ hb_ hon hoff
        refine ⟨_, rfl, fun K hK => ?_⟩
        have e15 : a.tmps[15]? = some (.slice (some a0) 64 c) := by rw [ha]; exact (putSel_off rfl).trans rfl
        replace ha := Aside0.mk ha
        have BB := Aside0.mk Q_BB
        have RS := Aside0.mk Q_RS
        refine goes_ Try.func43 (by kernel_rfl) rfl #[.slice (some a0) 64 c, .int .i64 4, .int .i64 4] (by rfl) rfl rfl (by first | (simp only [List.map_toArray, List.map_cons, List.map_nil, Act.eval, Array.getD_eq_getD_getElem?, Option.getD_some, e15]; done) | (simp only [List.map_toArray, List.map_cons, List.map_nil, Act.eval, Array.getD_eq_getD_getElem?, Option.getD_some, e15]; rfl)) ?_
        refine (rNum64 xs (some a0) c 4 4 w' HL.out (HR.out.below BB.out) HY.out (by omega) (by omega)).mono ?_
        rintro e w1 ⟨rfl, g1⟩
        refine ⟨_, rfl, ?_⟩
        refine hK.out _ _ ⟨(by rw [ha.out]; exact putSel_upk 3 hb_ rfl rfl rfl), bl_seq BB.out g1.below, blk_below RS.out g1.below, fun h0_ => (by obtain ⟨n_, rfl⟩ := g1.out; exact (Q_SZ h0_)), fun h0_ h1_ => blk_below (Q_HZ h0_ h1_) g1.below, fun h0_ => absurd ((hoff 24 (by kernel_rfl)).symm.trans h0_) (by decide)⟩
      refine steps_cons ?_ ?_
      · rintro b a w' ⟨ha, Q_BB, Q_RS, Q_SZ, Q_HZ, Q_HB⟩ hb_ hon hoff
        refine ⟨_, rfl, fun K hK => ?_⟩
        have e16 : a.tmps[16]? = some (.int .u64 (at_ xs 4 4)) := by rw [ha]; exact putSel_on (e := (5, 16, .int .u64 (at_ xs 4 4))) 3 rfl rfl (hon 5 (by kernel_rfl)) rfl
        replace ha := Aside0.mk ha
        have BB := Aside0.mk Q_BB
        have RS := Aside0.mk Q_RS
        refine value_ (w1 := w') (v := .int .i64 (at_ xs 4 4)) (by rfl) rfl ?_ ?_
        · go_simp
          exact E1.out
        refine hK.out _ _ ⟨(by rw [ha.out]; exact putSel_upk 4 hb_ rfl rfl rfl), BB.out, RS.out, fun h0_ => (Q_SZ h0_), fun h0_ h1_ => (Q_HZ h0_ h1_), fun h0_ => absurd ((hoff 24 (by kernel_rfl)).symm.trans h0_) (by decide)⟩
      refine steps_cons ?_ ?_
      · rintro b a w' ⟨ha, Q_BB, Q_RS, Q_SZ, Q_HZ, Q_HB⟩ hb_ hon hoff
        refine ⟨_, rfl, fun K hK => ?_⟩
        have e18 : a.tmps[18]? = some (.slice (some a0) 64 c) := by rw [ha]; exact (putSel_off rfl).trans rfl
        replace ha := Aside0.mk ha
        have BB := Aside0.mk Q_BB
        have RS := Aside0.mk Q_RS
        refine goes_ Try.func43 (by kernel_rfl) rfl #[.slice (some a0) 64 c, .int .i64 8, .int .i64 4] (by rfl) rfl rfl (by first | (simp only [List.map_toArray, List.map_cons, List.map_nil, Act.eval, Array.getD_eq_getD_getElem?, Option.getD_some, e18]; done) | (simp only [List.map_toArray, List.map_cons, List.map_nil, Act.eval, Array.getD_eq_getD_getElem?, Option.getD_some, e18]; rfl)) ?_
        refine (rNum64 xs (some a0) c 8 4 w' HL.out (HR.out.below BB.out) HY.out (by omega) (by omega)).mono ?_
        rintro e w1 ⟨rfl, g1⟩
        refine ⟨_, rfl, ?_⟩
        refine hK.out _ _ ⟨(by rw [ha.out]; exact putSel_upk 5 hb_ rfl rfl rfl), bl_seq BB.out g1.below, blk_below RS.out g1.below, fun h0_ => (by obtain ⟨n_, rfl⟩ := g1.out; exact (Q_SZ h0_)), fun h0_ h1_ => blk_below (Q_HZ h0_ h1_) g1.below, fun h0_ => absurd ((hoff 24 (by kernel_rfl)).symm.trans h0_) (by decide)⟩
      refine steps_cons ?_ ?_
      · rintro b a w' ⟨ha, Q_BB, Q_RS, Q_SZ, Q_HZ, Q_HB⟩ hb_ hon hoff
        refine ⟨_, rfl, fun K hK => ?_⟩
        have e19 : a.tmps[19]? = some (.int .u64 (at_ xs 8 4)) := by rw [ha]; exact putSel_on (e := (8, 19, .int .u64 (at_ xs 8 4))) 5 rfl rfl (hon 8 (by kernel_rfl)) rfl
        replace ha := Aside0.mk ha
        have BB := Aside0.mk Q_BB
        have RS := Aside0.mk Q_RS
        refine value_ (w1 := w') (v := .int .i64 (at_ xs 8 4)) (by rfl) rfl ?_ ?_
        · go_simp
          exact E2.out
        refine hK.out _ _ ⟨(by rw [ha.out]; exact putSel_upk 6 hb_ rfl rfl rfl), BB.out, RS.out, fun h0_ => (Q_SZ h0_), fun h0_ h1_ => (Q_HZ h0_ h1_), fun h0_ => absurd ((hoff 24 (by kernel_rfl)).symm.trans h0_) (by decide)⟩
      refine steps_cons ?_ ?_
      · rintro b a w' ⟨ha, Q_BB, Q_RS, Q_SZ, Q_HZ, Q_HB⟩ hb_ hon hoff
        refine ⟨_, rfl, fun K hK => ?_⟩
        have e21 : a.tmps[21]? = some (.slice (some a0) 64 c) := by rw [ha]; exact (putSel_off rfl).trans rfl
        replace ha := Aside0.mk ha
        have BB := Aside0.mk Q_BB
        have RS := Aside0.mk Q_RS
        refine goes_ Try.func43 (by kernel_rfl) rfl #[.slice (some a0) 64 c, .int .i64 12, .int .i64 2] (by rfl) rfl rfl (by first | (simp only [List.map_toArray, List.map_cons, List.map_nil, Act.eval, Array.getD_eq_getD_getElem?, Option.getD_some, e21]; done) | (simp only [List.map_toArray, List.map_cons, List.map_nil, Act.eval, Array.getD_eq_getD_getElem?, Option.getD_some, e21]; rfl)) ?_
        refine (rNum64 xs (some a0) c 12 2 w' HL.out (HR.out.below BB.out) HY.out (by omega) (by omega)).mono ?_
        rintro e w1 ⟨rfl, g1⟩
        refine ⟨_, rfl, ?_⟩
        refine hK.out _ _ ⟨(by rw [ha.out]; exact putSel_upk 7 hb_ rfl rfl rfl), bl_seq BB.out g1.below, blk_below RS.out g1.below, fun h0_ => (by obtain ⟨n_, rfl⟩ := g1.out; exact (Q_SZ h0_)), fun h0_ h1_ => blk_below (Q_HZ h0_ h1_) g1.below, fun h0_ => absurd ((hoff 24 (by kernel_rfl)).symm.trans h0_) (by decide)⟩
      refine steps_cons ?_ ?_
      · rintro b a w' ⟨ha, Q_BB, Q_RS, Q_SZ, Q_HZ, Q_HB⟩ hb_ hon hoff
        refine ⟨_, rfl, fun K hK => ?_⟩
        have e22 : a.tmps[22]? = some (.int .u64 (at_ xs 12 2)) := by rw [ha]; exact putSel_on (e := (11, 22, .int .u64 (at_ xs 12 2))) 7 rfl rfl (hon 11 (by kernel_rfl)) rfl
        replace ha := Aside0.mk ha
        have BB := Aside0.mk Q_BB
        have RS := Aside0.mk Q_RS
        refine value_ (w1 := w') (v := .int .i64 (at_ xs 12 2)) (by rfl) rfl ?_ ?_
        · go_simp
          exact E3.out
        refine hK.out _ _ ⟨(by rw [ha.out]; exact putSel_upk 8 hb_ rfl rfl rfl), BB.out, RS.out, fun h0_ => (Q_SZ h0_), fun h0_ h1_ => (Q_HZ h0_ h1_), fun h0_ => absurd ((hoff 24 (by kernel_rfl)).symm.trans h0_) (by decide)⟩
      refine steps_cons ?_ ?_
      · rintro b a w' ⟨ha, Q_BB, Q_RS, Q_SZ, Q_HZ, Q_HB⟩ hb_ hon hoff
        refine ⟨_, rfl, fun K hK => ?_⟩
        have e24 : a.tmps[24]? = some (.slice (some a0) 64 c) := by rw [ha]; exact (putSel_off rfl).trans rfl
        replace ha := Aside0.mk ha
        have BB := Aside0.mk Q_BB
        have RS := Aside0.mk Q_RS
        refine goes_ Try.func43 (by kernel_rfl) rfl #[.slice (some a0) 64 c, .int .i64 14, .int .i64 2] (by rfl) rfl rfl (by first | (simp only [List.map_toArray, List.map_cons, List.map_nil, Act.eval, Array.getD_eq_getD_getElem?, Option.getD_some, e24]; done) | (simp only [List.map_toArray, List.map_cons, List.map_nil, Act.eval, Array.getD_eq_getD_getElem?, Option.getD_some, e24]; rfl)) ?_
        refine (rNum64 xs (some a0) c 14 2 w' HL.out (HR.out.below BB.out) HY.out (by omega) (by omega)).mono ?_
        rintro e w1 ⟨rfl, g1⟩
        refine ⟨_, rfl, ?_⟩
        refine hK.out _ _ ⟨(by rw [ha.out]; exact putSel_upk 9 hb_ rfl rfl rfl), bl_seq BB.out g1.below, blk_below RS.out g1.below, fun h0_ => (by obtain ⟨n_, rfl⟩ := g1.out; exact (Q_SZ h0_)), fun h0_ h1_ => blk_below (Q_HZ h0_ h1_) g1.below, fun h0_ => absurd ((hoff 24 (by kernel_rfl)).symm.trans h0_) (by decide)⟩
      refine steps_cons ?_ ?_
      · rintro b a w' ⟨ha, Q_BB, Q_RS, Q_SZ, Q_HZ, Q_HB⟩ hb_ hon hoff
        refine ⟨_, rfl, fun K hK => ?_⟩
        have e25 : a.tmps[25]? = some (.int .u64 (at_ xs 14 2)) := by rw [ha]; exact putSel_on (e := (14, 25, .int .u64 (at_ xs 14 2))) 9 rfl rfl (hon 14 (by kernel_rfl)) rfl
        replace ha := Aside0.mk ha
        have BB := Aside0.mk Q_BB
        have RS := Aside0.mk Q_RS
        refine value_ (w1 := w') (v := .int .i64 (at_ xs 14 2)) (by rfl) rfl ?_ ?_
        · go_simp
          exact E4.out
        refine hK.out _ _ ⟨(by rw [ha.out]; exact putSel_upk 10 hb_ rfl rfl rfl), BB.out, RS.out, fun h0_ => (Q_SZ h0_), fun h0_ h1_ => (Q_HZ h0_ h1_), fun h0_ => absurd ((hoff 24 (by kernel_rfl)).symm.trans h0_) (by decide)⟩
      refine steps_cons ?_ ?_
      · rintro b a w' ⟨ha, Q_BB, Q_RS, Q_SZ, Q_HZ, Q_HB⟩ hb_ hon hoff
        refine ⟨_, rfl, fun K hK => ?_⟩
        have e27 : a.tmps[27]? = some (.slice (some a0) 64 c) := by rw [ha]; exact (putSel_off rfl).trans rfl
        replace ha := Aside0.mk ha
        have BB := Aside0.mk Q_BB
        have RS := Aside0.mk Q_RS
        refine goes_ Try.func43 (by kernel_rfl) rfl #[.slice (some a0) 64 c, .int .i64 16, .int .i64 4] (by rfl) rfl rfl (by first | (simp only [List.map_toArray, List.map_cons, List.map_nil, Act.eval, Array.getD_eq_getD_getElem?, Option.getD_some, e27]; done) | (simp only [List.map_toArray, List.map_cons, List.map_nil, Act.eval, Array.getD_eq_getD_getElem?, Option.getD_some, e27]; rfl)) ?_
        refine (rNum64 xs (some a0) c 16 4 w' HL.out (HR.out.below BB.out) HY.out (by omega) (by omega)).mono ?_
        rintro e w1 ⟨rfl, g1⟩
        refine ⟨_, rfl, ?_⟩
        refine hK.out _ _ ⟨(by rw [ha.out]; exact putSel_upk 11 hb_ rfl rfl rfl), bl_seq BB.out g1.below, blk_below RS.out g1.below, fun h0_ => (by obtain ⟨n_, rfl⟩ := g1.out; exact (Q_SZ h0_)), fun h0_ h1_ => blk_below (Q_HZ h0_ h1_) g1.below, fun h0_ => absurd ((hoff 24 (by kernel_rfl)).symm.trans h0_) (by decide)⟩
      refine steps_cons ?_ ?_
      · rintro b a w' ⟨ha, Q_BB, Q_RS, Q_SZ, Q_HZ, Q_HB⟩ hb_ hon hoff
        refine ⟨_, rfl, fun K hK => ?_⟩
        have e28 : a.tmps[28]? = some (.int .u64 (at_ xs 16 4)) := by rw [ha]; exact putSel_on (e := (17, 28, .int .u64 (at_ xs 16 4))) 11 rfl rfl (hon 17 (by kernel_rfl)) rfl
        replace ha := Aside0.mk ha
        have BB := Aside0.mk Q_BB
        have RS := Aside0.mk Q_RS
        refine value_ (w1 := w') (v := .int .i64 (at_ xs 16 4)) (by rfl) rfl ?_ ?_
        · go_simp
          exact E5.out
        refine hK.out _ _ ⟨(by rw [ha.out]; exact putSel_upk 12 hb_ rfl rfl rfl), BB.out, RS.out, fun h0_ => (Q_SZ h0_), fun h0_ h1_ => (Q_HZ h0_ h1_), fun h0_ => absurd ((hoff 24 (by kernel_rfl)).symm.trans h0_) (by decide)⟩
      refine steps_cons ?_ ?_
      · rintro b a w' ⟨ha, Q_BB, Q_RS, Q_SZ, Q_HZ, Q_HB⟩ hb_ hon hoff
        refine ⟨_, rfl, fun K hK => ?_⟩
        have e30 : a.tmps[30]? = some (.slice (some a0) 64 c) := by rw [ha]; exact (putSel_off rfl).trans rfl
        replace ha := Aside0.mk ha
        have BB := Aside0.mk Q_BB
        have RS := Aside0.mk Q_RS
        refine goes_ Try.func43 (by kernel_rfl) rfl #[.slice (some a0) 64 c, .int .i64 20, .int .i64 4] (by rfl) rfl rfl (by first | (simp only [List.map_toArray, List.map_cons, List.map_nil, Act.eval, Array.getD_eq_getD_getElem?, Option.getD_some, e30]; done) | (simp only [List.map_toArray, List.map_cons, List.map_nil, Act.eval, Array.getD_eq_getD_getElem?, Option.getD_some, e30]; rfl)) ?_
        refine (rNum64 xs (some a0) c 20 4 w' HL.out (HR.out.below BB.out) HY.out (by omega) (by omega)).mono ?_
        rintro e w1 ⟨rfl, g1⟩
        refine ⟨_, rfl, ?_⟩
        refine hK.out _ _ ⟨(by rw [ha.out]; exact putSel_upk 13 hb_ rfl rfl rfl), bl_seq BB.out g1.below, blk_below RS.out g1.below, fun h0_ => (by obtain ⟨n_, rfl⟩ := g1.out; exact (Q_SZ h0_)), fun h0_ h1_ => blk_below (Q_HZ h0_ h1_) g1.below, fun h0_ => absurd ((hoff 24 (by kernel_rfl)).symm.trans h0_) (by decide)⟩
      refine steps_cons ?_ ?_
      · rintro b a w' ⟨ha, Q_BB, Q_RS, Q_SZ, Q_HZ, Q_HB⟩ hb_ hon hoff
        refine ⟨_, rfl, fun K hK => ?_⟩
        have e31 : a.tmps[31]? = some (.int .u64 (at_ xs 20 4)) := by rw [ha]; exact putSel_on (e := (20, 31, .int .u64 (at_ xs 20 4))) 13 rfl rfl (hon 20 (by kernel_rfl)) rfl
        replace ha := Aside0.mk ha
        have BB := Aside0.mk Q_BB
        have RS := Aside0.mk Q_RS
        refine value_ (w1 := w') (v := .int .i64 (at_ xs 20 4)) (by rfl) rfl ?_ ?_
        · go_simp
          exact E6.out
        refine hK.out _ _ ⟨(by rw [ha.out]; exact putSel_upk 14 hb_ rfl rfl rfl), BB.out, RS.out, fun h0_ => (Q_SZ h0_), fun h0_ h1_ => (Q_HZ h0_ h1_), fun h0_ => absurd ((hoff 24 (by kernel_rfl)).symm.trans h0_) (by decide)⟩
      refine steps_cons ?_ ?_
      · rintro b a w' ⟨ha, Q_BB, Q_RS, Q_SZ, Q_HZ, Q_HB⟩ hb_ hon hoff
        refine ⟨_, rfl, fun K hK => ?_⟩
        have e14 : a.tmps[14]? = some (.int .i64 (at_ xs 2 1)) := by rw [ha]; exact putSel_on (e := (3, 14, .int .i64 (at_ xs 2 1))) 2 rfl rfl (hon 3 (by kernel_rfl)) rfl
        have e17 : a.tmps[17]? = some (.int .i64 (at_ xs 4 4)) := by rw [ha]; exact putSel_on (e := (6, 17, .int .i64 (at_ xs 4 4))) 4 rfl rfl (hon 6 (by kernel_rfl)) rfl
        have e20 : a.tmps[20]? = some (.int .i64 (at_ xs 8 4)) := by rw [ha]; exact putSel_on (e := (9, 20, .int .i64 (at_ xs 8 4))) 6 rfl rfl (hon 9 (by kernel_rfl)) rfl
        have e23 : a.tmps[23]? = some (.int .i64 (at_ xs 12 2)) := by rw [ha]; exact putSel_on (e := (12, 23, .int .i64 (at_ xs 12 2))) 8 rfl rfl (hon 12 (by kernel_rfl)) rfl
        have e26 : a.tmps[26]? = some (.int .i64 (at_ xs 14 2)) := by rw [ha]; exact putSel_on (e := (15, 26, .int .i64 (at_ xs 14 2))) 10 rfl rfl (hon 15 (by kernel_rfl)) rfl
        have e29 : a.tmps[29]? = some (.int .i64 (at_ xs 16 4)) := by rw [ha]; exact putSel_on (e := (18, 29, .int .i64 (at_ xs 16 4))) 12 rfl rfl (hon 18 (by kernel_rfl)) rfl
        have e32 : a.tmps[32]? = some (.int .i64 (at_ xs 20 4)) := by rw [ha]; exact putSel_on (e := (21, 32, .int .i64 (at_ xs 20 4))) 14 rfl rfl (hon 21 (by kernel_rfl)) rfl
        replace ha := Aside0.mk ha
        have BB := Aside0.mk Q_BB
        have RS := Aside0.mk Q_RS
        refine value_ (w1 := w') (v := .agg #[.int .i64 (at_ xs 2 1), .int .i64 (at_ xs 4 4), .int .i64 (at_ xs 8 4), .int .i64 (at_ xs 12 2), .int .i64 (at_ xs 14 2), .int .i64 (at_ xs 16 4), .int .i64 (at_ xs 20 4)]) (by rfl) rfl ?_ ?_
        · go_simp
          (try simp only [i64_w])
          try rfl
        refine hK.out _ _ ⟨(by rw [ha.out]; exact putSel_upk 15 hb_ rfl rfl rfl), Q_BB, Q_RS, Q_SZ, Q_HZ, fun h0_ => absurd ((hoff 24 (by kernel_rfl)).symm.trans h0_) (by decide)⟩
      refine steps_cons ?_ ?_
      · rintro b a w' ⟨ha, Q_BB, Q_RS, Q_SZ, Q_HZ, Q_HB⟩ hb_ hon hoff
        refine ⟨_, rfl, fun K hK => ?_⟩
        replace ha := Aside0.mk ha
        have BB := Aside0.mk Q_BB
        have RS := Aside0.mk Q_RS
        have SZ := Aside0.mk (Q_SZ hb_)
        refine value_ (w1 := w'.alloc (.cells #[.int .i64 0, .int .i64 0, .int .i64 0, .int .i64 0, .int .i64 0, .int .i64 0, .int .i64 0] 48)) (v := .pointer (some ⟨w.heap.size + 1, 0, none⟩)) (by rfl) rfl ?_ ?_
        · go_simp
          try rw [SZ.out]
          try rfl
        refine hK.out _ _ ⟨(by rw [ha.out]; exact putSel_upk 16 hb_ rfl rfl rfl), bl_alloc BB.out _, blk_alloc RS.out _, fun h0_ => absurd ((up_self b 23).symm.trans h0_) (by decide), fun _ _ => (by have h_ := heap_alloc_new w' (.cells #[.int .i64 0, .int .i64 0, .int .i64 0, .int .i64 0, .int .i64 0, .int .i64 0, .int .i64 0] 48); rw [SZ.out] at h_; exact h_), fun h0_ => absurd ((hoff 24 (by kernel_rfl)).symm.trans h0_) (by decide)⟩
      refine steps_cons ?_ ?_
      · rintro b a w' ⟨ha, Q_BB, Q_RS, Q_SZ, Q_HZ, Q_HB⟩ hb_ hon hoff
        refine ⟨_, rfl, fun K hK => ?_⟩
        have e6 : a.tmps[6]? = some (.pointer (some ⟨w.heap.size + 1, 0, none⟩)) := by rw [ha]; exact putSel_on (e := (23, 6, .pointer (some ⟨w.heap.size + 1, 0, none⟩))) 16 rfl rfl (hon 23 (by kernel_rfl)) rfl
        have e33 : a.tmps[33]? = some (.agg #[.int .i64 (at_ xs 2 1), .int .i64 (at_ xs 4 4), .int .i64 (at_ xs 8 4), .int .i64 (at_ xs 12 2), .int .i64 (at_ xs 14 2), .int .i64 (at_ xs 16 4), .int .i64 (at_ xs 20 4)]) := by rw [ha]; exact putSel_on (e := (22, 33, .agg #[.int .i64 (at_ xs 2 1), .int .i64 (at_ xs 4 4), .int .i64 (at_ xs 8 4), .int .i64 (at_ xs 12 2), .int .i64 (at_ xs 14 2), .int .i64 (at_ xs 16 4), .int .i64 (at_ xs 20 4)])) 15 rfl rfl (hon 22 (by kernel_rfl)) rfl
        replace ha := Aside0.mk ha
        have BB := Aside0.mk Q_BB
        have RS := Aside0.mk Q_RS
        have HZ := Aside0.mk (Q_HZ (hon 23 (by kernel_rfl)) hb_)
        have zc0 : w'.cell? ⟨w.heap.size + 1, 0, none⟩ = some (.int .i64 0) := (blk_cell HZ.out 0).trans rfl
        have zc1 : w'.cell? ⟨w.heap.size + 1, 1, none⟩ = some (.int .i64 0) := (blk_cell HZ.out 1).trans rfl
        have zc2 : w'.cell? ⟨w.heap.size + 1, 2, none⟩ = some (.int .i64 0) := (blk_cell HZ.out 2).trans rfl
        have zc3 : w'.cell? ⟨w.heap.size + 1, 3, none⟩ = some (.int .i64 0) := (blk_cell HZ.out 3).trans rfl
        have zc4 : w'.cell? ⟨w.heap.size + 1, 4, none⟩ = some (.int .i64 0) := (blk_cell HZ.out 4).trans rfl
        have zc5 : w'.cell? ⟨w.heap.size + 1, 5, none⟩ = some (.int .i64 0) := (blk_cell HZ.out 5).trans rfl
        have zc6 : w'.cell? ⟨w.heap.size + 1, 6, none⟩ = some (.int .i64 0) := (blk_cell HZ.out 6).trans rfl
        have zf0 := blk_frozen HZ.out 0
        have zf1 := blk_frozen HZ.out 1
        have zf2 := blk_frozen HZ.out 2
        have zf3 := blk_frozen HZ.out 3
        have zf4 := blk_frozen HZ.out 4
        have zf5 := blk_frozen HZ.out 5
        have zf6 := blk_frozen HZ.out 6
        refine skip_ (w1 := (((((((w'.setCell ⟨w.heap.size + 1, 0, none⟩ (.int .i64 (at_ xs 2 1))).setCell ⟨w.heap.size + 1, 1, none⟩ (.int .i64 (at_ xs 4 4))).setCell ⟨w.heap.size + 1, 2, none⟩ (.int .i64 (at_ xs 8 4))).setCell ⟨w.heap.size + 1, 3, none⟩ (.int .i64 (at_ xs 12 2))).setCell ⟨w.heap.size + 1, 4, none⟩ (.int .i64 (at_ xs 14 2))).setCell ⟨w.heap.size + 1, 5, none⟩ (.int .i64 (at_ xs 16 4))).setCell ⟨w.heap.size + 1, 6, none⟩ (.int .i64 (at_ xs 20 4)))) (by rfl) rfl ?_ ?_
        · go_simp
          try rfl
        refine hK.out _ _ ⟨(by rw [ha.out]; exact putSel_none (v := undef) rfl), bel7 BB.out (by omega) (.int .i64 (at_ xs 2 1)) (.int .i64 (at_ xs 4 4)) (.int .i64 (at_ xs 8 4)) (.int .i64 (at_ xs 12 2)) (.int .i64 (at_ xs 14 2)) (.int .i64 (at_ xs 16 4)) (.int .i64 (at_ xs 20 4)), far7 RS.out (by omega) (.int .i64 (at_ xs 2 1)) (.int .i64 (at_ xs 4 4)) (.int .i64 (at_ xs 8 4)) (.int .i64 (at_ xs 12 2)) (.int .i64 (at_ xs 14 2)) (.int .i64 (at_ xs 16 4)) (.int .i64 (at_ xs 20 4)), fun h0_ => absurd ((hon 23 (by kernel_rfl)).symm.trans h0_) (by decide), fun _ h1_ => absurd ((up_self b 24).symm.trans h1_) (by decide), fun _ => put7 HZ.out (.int .i64 (at_ xs 2 1)) (.int .i64 (at_ xs 4 4)) (.int .i64 (at_ xs 8 4)) (.int .i64 (at_ xs 12 2)) (.int .i64 (at_ xs 14 2)) (.int .i64 (at_ xs 16 4)) (.int .i64 (at_ xs 20 4))⟩
      exact steps_nil
    · rintro b a w' hall ⟨ha, Q_BB, Q_RS, Q_SZ, Q_HZ, Q_HB⟩
      clear BB RS SZ
      have hb1_ := hall 1 (by kernel_rfl)
      have hb2_ := hall 2 (by kernel_rfl)
      have hb3_ := hall 3 (by kernel_rfl)
      have hb5_ := hall 5 (by kernel_rfl)
      have hb6_ := hall 6 (by kernel_rfl)
      have hb8_ := hall 8 (by kernel_rfl)
      have hb9_ := hall 9 (by kernel_rfl)
      have hb11_ := hall 11 (by kernel_rfl)
      have hb12_ := hall 12 (by kernel_rfl)
      have hb14_ := hall 14 (by kernel_rfl)
      have hb15_ := hall 15 (by kernel_rfl)
      have hb17_ := hall 17 (by kernel_rfl)
      have hb18_ := hall 18 (by kernel_rfl)
      have hb20_ := hall 20 (by kernel_rfl)
      have hb21_ := hall 21 (by kernel_rfl)
      have hb22_ := hall 22 (by kernel_rfl)
      have hb23_ := hall 23 (by kernel_rfl)
      have hb24_ := hall 24 (by kernel_rfl)
      subst ha
      simp only [putSel, hb1_, hb2_, hb3_, hb5_, hb6_, hb8_, hb9_, hb11_, hb12_, hb14_, hb15_, hb17_, hb18_, hb20_, hb21_, hb22_, hb23_, hb24_, if_true, Act.put, List.setIfInBounds_toArray, List.set_cons_zero, List.set_cons_succ]
      have BB := Aside0.mk Q_BB
      clear Q_BB
      have RS := Aside0.mk Q_RS
      clear Q_RS
      clear Q_SZ
      clear Q_HZ
      have HB := Aside0.mk (Q_HB hb24_)
      clear Q_HB
      clear hall hb1_ hb2_ hb3_ hb5_ hb6_ hb8_ hb9_ hb11_ hb12_ hb14_ hb15_ hb17_ hb18_ hb20_ hb21_ hb22_ hb23_ hb24_
      replace BB := Lib.hid BB.out
      replace RS := Lib.hid RS.out
      replace HB := Lib.hid HB.out
      clear E0 E1 E2 E3 E4 E5 E6 C2
      have hob : openB ys xs = (rightO ys xs && (decide (1 ≤ at_ xs 2 1) && decide (at_ xs 2 1 ≤ 6))) := by rw [openB, HL.out]; rfl
      have hoh : openH xs = ⟨at_ xs 2 1, at_ xs 4 4, at_ xs 8 4, at_ xs 12 2, at_ xs 14 2, at_ xs 16 4, at_ xs 20 4⟩ := rfl
      obtain ⟨kd, hkd⟩ : ∃ kd, at_ xs 2 1 = kd := ⟨_, rfl⟩
      rw [hkd] at HB hob hoh
      clear hkd
      have HH := Lib.hid hoh
      clear hoh
      go_wp2_with fail
      obtain ⟨w5, hw5⟩ : ∃ w5, w5 = w' := ⟨_, rfl⟩
      rw [← hw5] at BB RS HB ⊢
      clear hw5
      by_cases h1 : kd < 1
      · have HN : Hid (openB ys xs = false) := Lib.hid (by rw [hob]; simp; omega)
        clear hob
        have z0 : w5.cell? ⟨w.heap.size + 1, 0, none⟩ = some (.int .i64 kd) := (blk_cell HB.out 0).trans rfl
        go_quiet (fail)
        have BB6 := bl_drewN BB.out nq
        have RS6 : (w5.drewN nq).heap[w.heap.size]? = some (.cells #[.int .i64 0, .int .i64 0, .int .i64 0, .int .i64 0, .int .i64 0, .int .i64 0, .int .i64 0] 48 (0, 0)) := RS.out
        generalize w5.drewN nq = w6 at BB6 RS6 ⊢
        replace BB := Lib.hid BB6
        replace RS := Lib.hid RS6
        clear BB6 RS6 z0
        have y0 := (blk_cell RS.out 0).trans rfl
        have q0 := blk_frozen RS.out 0
        have y1 := (blk_cell RS.out 1).trans rfl
        have q1 := blk_frozen RS.out 1
        have y2 := (blk_cell RS.out 2).trans rfl
        have q2 := blk_frozen RS.out 2
        have y3 := (blk_cell RS.out 3).trans rfl
        have q3 := blk_frozen RS.out 3
        have y4 := (blk_cell RS.out 4).trans rfl
        have q4 := blk_frozen RS.out 4
        have y5 := (blk_cell RS.out 5).trans rfl
        have q5 := blk_frozen RS.out 5
        have y6 := (blk_cell RS.out 6).trans rfl
        have q6 := blk_frozen RS.out 6
        go_wp2_with fail
        have hf := put7 (show w6.heap[w.heap.size]? = some (.cells #[.int .i64 0, .int .i64 0, .int .i64 0, .int .i64 0, .int .i64 0, .int .i64 0, .int .i64 0] 48 (0, 0)) from RS.out) (.int .i64 0) (.int .i64 0) (.int .i64 0) (.int .i64 0) (.int .i64 0) (.int .i64 0) (.int .i64 0)
        have T9 := bel7 BB.out (Nat.le_refl _) (.int .i64 0) (.int .i64 0) (.int .i64 0) (.int .i64 0) (.int .i64 0) (.int .i64 0) (.int .i64 0)
        obtain ⟨w9, hw9⟩ : ∃ w9, (((((((w6.setCell ⟨w.heap.size, 0, none⟩ (.int .i64 0)).setCell ⟨w.heap.size, 1, none⟩ (.int .i64 0)).setCell ⟨w.heap.size, 2, none⟩ (.int .i64 0)).setCell ⟨w.heap.size, 3, none⟩ (.int .i64 0)).setCell ⟨w.heap.size, 4, none⟩ (.int .i64 0)).setCell ⟨w.heap.size, 5, none⟩ (.int .i64 0)).setCell ⟨w.heap.size, 6, none⟩ (.int .i64 0)) = w9 := ⟨_, rfl⟩
        rw [hw9] at hf T9 ⊢
        have c0 : w9.cell? ⟨w.heap.size, 0, none⟩ = some (.int .i64 0) := (blk_cell hf 0).trans rfl
        have c1 : w9.cell? ⟨w.heap.size, 1, none⟩ = some (.int .i64 0) := (blk_cell hf 1).trans rfl
        have c2 : w9.cell? ⟨w.heap.size, 2, none⟩ = some (.int .i64 0) := (blk_cell hf 2).trans rfl
        have c3 : w9.cell? ⟨w.heap.size, 3, none⟩ = some (.int .i64 0) := (blk_cell hf 3).trans rfl
        have c4 : w9.cell? ⟨w.heap.size, 4, none⟩ = some (.int .i64 0) := (blk_cell hf 4).trans rfl
        have c5 : w9.cell? ⟨w.heap.size, 5, none⟩ = some (.int .i64 0) := (blk_cell hf 5).trans rfl
        have c6 : w9.cell? ⟨w.heap.size, 6, none⟩ = some (.int .i64 0) := (blk_cell hf 6).trans rfl
        clear hw9 hf
        refine bodyPost_ret (v := .tuple #[.agg #[.int .i64 0, .int .i64 0, .int .i64 0, .int .i64 0, .int .i64 0, .int .i64 0, .int .i64 0], .bool false]) (by simp [results, Try.results28, go_sem, c0, c1, c2, c3, c4, c5, c6]) rfl ⟨T9, ?_⟩
        rw [HN.out, openR_no HN.out]
        rfl
      · by_cases h6 : 6 < kd
        · have HN : Hid (openB ys xs = false) := Lib.hid (by rw [hob]; simp; omega)
          clear hob
          have z0 : w5.cell? ⟨w.heap.size + 1, 0, none⟩ = some (.int .i64 kd) := (blk_cell HB.out 0).trans rfl
          go_quiet (fail)
          have BB6 := bl_drewN BB.out nq
          have RS6 : (w5.drewN nq).heap[w.heap.size]? = some (.cells #[.int .i64 0, .int .i64 0, .int .i64 0, .int .i64 0, .int .i64 0, .int .i64 0, .int .i64 0] 48 (0, 0)) := RS.out
          generalize w5.drewN nq = w6 at BB6 RS6 ⊢
          replace BB := Lib.hid BB6
          replace RS := Lib.hid RS6
          clear BB6 RS6 z0
          have y0 := (blk_cell RS.out 0).trans rfl
          have q0 := blk_frozen RS.out 0
          have y1 := (blk_cell RS.out 1).trans rfl
          have q1 := blk_frozen RS.out 1
          have y2 := (blk_cell RS.out 2).trans rfl
          have q2 := blk_frozen RS.out 2
          have y3 := (blk_cell RS.out 3).trans rfl
          have q3 := blk_frozen RS.out 3
          have y4 := (blk_cell RS.out 4).trans rfl
          have q4 := blk_frozen RS.out 4
          have y5 := (blk_cell RS.out 5).trans rfl
          have q5 := blk_frozen RS.out 5
          have y6 := (blk_cell RS.out 6).trans rfl
          have q6 := blk_frozen RS.out 6
          go_wp2_with fail
          have hf := put7 (show w6.heap[w.heap.size]? = some (.cells #[.int .i64 0, .int .i64 0, .int .i64 0, .int .i64 0, .int .i64 0, .int .i64 0, .int .i64 0] 48 (0, 0)) from RS.out) (.int .i64 0) (.int .i64 0) (.int .i64 0) (.int .i64 0) (.int .i64 0) (.int .i64 0) (.int .i64 0)
          have T9 := bel7 BB.out (Nat.le_refl _) (.int .i64 0) (.int .i64 0) (.int .i64 0) (.int .i64 0) (.int .i64 0) (.int .i64 0) (.int .i64 0)
          obtain ⟨w9, hw9⟩ : ∃ w9, (((((((w6.setCell ⟨w.heap.size, 0, none⟩ (.int .i64 0)).setCell ⟨w.heap.size, 1, none⟩ (.int .i64 0)).setCell ⟨w.heap.size, 2, none⟩ (.int .i64 0)).setCell ⟨w.heap.size, 3, none⟩ (.int .i64 0)).setCell ⟨w.heap.size, 4, none⟩ (.int .i64 0)).setCell ⟨w.heap.size, 5, none⟩ (.int .i64 0)).setCell ⟨w.heap.size, 6, none⟩ (.int .i64 0)) = w9 := ⟨_, rfl⟩
          rw [hw9] at hf T9 ⊢
          have c0 : w9.cell? ⟨w.heap.size, 0, none⟩ = some (.int .i64 0) := (blk_cell hf 0).trans rfl
          have c1 : w9.cell? ⟨w.heap.size, 1, none⟩ = some (.int .i64 0) := (blk_cell hf 1).trans rfl
          have c2 : w9.cell? ⟨w.heap.size, 2, none⟩ = some (.int .i64 0) := (blk_cell hf 2).trans rfl
          have c3 : w9.cell? ⟨w.heap.size, 3, none⟩ = some (.int .i64 0) := (blk_cell hf 3).trans rfl
          have c4 : w9.cell? ⟨w.heap.size, 4, none⟩ = some (.int .i64 0) := (blk_cell hf 4).trans rfl
          have c5 : w9.cell? ⟨w.heap.size, 5, none⟩ = some (.int .i64 0) := (blk_cell hf 5).trans rfl
          have c6 : w9.cell? ⟨w.heap.size, 6, none⟩ = some (.int .i64 0) := (blk_cell hf 6).trans rfl
          clear hw9 hf
          refine bodyPost_ret (v := .tuple #[.agg #[.int .i64 0, .int .i64 0, .int .i64 0, .int .i64 0, .int .i64 0, .int .i64 0, .int .i64 0], .bool false]) (by simp [results, Try.results28, go_sem, c0, c1, c2, c3, c4, c5, c6]) rfl ⟨T9, ?_⟩
          rw [HN.out, openR_no HN.out]
          rfl
        · have hob2 : openB ys xs = rightO ys xs := by
            rw [hob, decide_eq_true (show 1 ≤ kd by omega), decide_eq_true (show kd ≤ 6 by omega)]
            simp
          have HN := Lib.hid hob2
          clear hob hob2
          have hos := open_seal (data := ys) HL.out HY.out
          have HB32 : Byt (xs.drop 32) := fun x hx => HY.out x (List.drop_subset _ _ hx)
          have hbs := sealL_byt (openH xs) ys HB32
          have SE : Hid (∀ W, Below w.heap.size w W → Calls Try.prog 21 #[.agg #[.int .i64 kd, .int .i64 (at_ xs 4 4), .int .i64 (at_ xs 8 4), .int .i64 (at_ xs 12 2), .int .i64 (at_ xs 14 2), .int .i64 (at_ xs 16 4), .int .i64 (at_ xs 20 4)], .slice B n d, .slice (some (a0.add 32)) 32 (c - 32)] W fun e W' => ∃ A' c', e = .returned (.slice A' 64 c') ∧ 64 ≤ c' ∧ ReadsInt W' .u8 A' 64 (sealL (openH xs) ys (xs.drop 32)) ∧ Below W.heap.size W W') := Lib.hid (fun W hW => by
            have h32 := (HR.out.below hW).drop_ 32 (by omega) hc
            rw [if_neg (by omega)] at h32
            have h_ := rSeal05 (openH xs) B (some (a0.add 32)) d (c - 32) n 32 ys (xs.drop 32) W HO.out (HS.out.below hW) hd HX.out hl h32 (by omega) HB32
            rw [HH.out] at h_ ⊢
            refine h_.mono ?_
            rintro e W' ⟨v, rfl, hn⟩
            obtain ⟨A', c', rfl, hc'⟩ := hn.shape 64 (sealL_length _ _ _)
            exact ⟨A', c', rfl, hc', (hn.read (sealL_length _ _ _)).1, hn.bel⟩)
          generalize sealL (openH xs) ys (xs.drop 32) = SL at hos hbs SE
          have BSL := Lib.hid hbs
          have HOS := Lib.hid hos
          clear hos hbs HB32
          refine start_ (n := 18) (S := fun w' => True) (ds := []) #[false, false, false, false, false, false, false, false, false, false, false, false, false, false, false, false, false, false] (by kernel_rfl) rfl rfl trivial (fun hHeld => ?_)
          refine with_tabW Rop5.tab4 Rop5.bits4 (fun HT_ HW_ => ?_)
          have BB := Lib.hid (bl_drew BB.out)
          have RS := Lib.hid (show w5.drew.heap[w.heap.size]? = _ from RS.out)
          have HB := Lib.hid (show w5.drew.heap[w.heap.size + 1]? = _ from HB.out)
          generalize w5.drew = wz at BB RS HB hHeld ⊢
          refine pure_ (i := 0) (N := some 34) (v := ?_) (a' := ?_) #[true, false, false, false, false, false, false, false, false, false, false, false, false, false, false, false, false, false] rfl rfl (any_of HT_.out (by kernel_rfl)) (fun _ _ _ h => h) (Or.inl ⟨by rfl, ?_⟩) ?_ ?_
          rotate_left
          · intro w'
            go_simp
            with_reducible rfl
          rotate_left
          · simp only [Act.put, List.setIfInBounds_toArray, List.set_cons_zero, List.set_cons_succ, i64_w, i32_w]
            rfl
          refine inv_at [1, 2, 3, 4, 5, 6, 7, 8, 9, 10, 11, 12, 13, 14, 15, 16, 17] (fun a0_ b a w' => ∃ (A13 : Option Addr) (c13 : Nat) (m13_ : Value), a = putSel a0_ b [(1, 35, .int .i64 kd), (2, 36, .bool false), (3, 37, .bool false), (4, 38, .pointer (some ⟨w.heap.size + 1, 0, none⟩)), (5, 39, .int .i64 kd), (6, 40, .bool false), (7, 41, .bool false), (8, 42, .bool false), (9, 43, .agg #[.int .i64 kd, .int .i64 (at_ xs 4 4), .int .i64 (at_ xs 8 4), .int .i64 (at_ xs 12 2), .int .i64 (at_ xs 14 2), .int .i64 (at_ xs 16 4), .int .i64 (at_ xs 20 4)]), (10, 44, .slice B n d), (11, 45, .slice (some a0) 64 c), (12, 46, .slice (some (a0.add 32)) 32 (c - 32)), (13, 47, m13_), (14, 48, .slice (some a0) 64 c), (15, 49, .bool (decide (SL = xs))), (16, 50, .bool (!decide (SL = xs))), (17, 51, .bool (!decide (SL = xs)))] ∧ (Below w.heap.size w w') ∧ (w'.heap[w.heap.size]? = some (.cells #[.int .i64 0, .int .i64 0, .int .i64 0, .int .i64 0, .int .i64 0, .int .i64 0, .int .i64 0] 48 (0, 0))) ∧ (w'.heap[w.heap.size + 1]? = some (.cells #[.int .i64 kd, .int .i64 (at_ xs 4 4), .int .i64 (at_ xs 8 4), .int .i64 (at_ xs 12 2), .int .i64 (at_ xs 14 2), .int .i64 (at_ xs 16 4), .int .i64 (at_ xs 20 4)] 48 (0, 0))) ∧ (b 13 = true → ReadsInt w' .u8 A13 64 SL ∧ 64 ≤ c13) ∧ (b 13 = true → (m13_ : Value) = .slice A13 64 c13)) HT_.out HW_.out (by kernel_rfl) (by kernel_rfl) ?_ ?_ ?_
          · exact ⟨none, 0, .bool false, by simp only [putSel, Bool.false_eq_true, if_false], BB.out, RS.out, HB.out, fun h_ => absurd h_ (by decide), fun h_ => absurd h_ (by decide)⟩
          · skip
            clear BB HB RS
            refine steps_cons ?_ ?_
            · rintro b a w' ⟨A13, c13, m13_, ha, Q_BB, Q_RS, Q_HB, Q_S13, Q_X13_⟩ hb_ hon hoff
              refine ⟨_, rfl, fun K hK => ?_⟩
              have e34 : a.tmps[34]? = some (.pointer (some ⟨w.heap.size + 1, 0, none⟩)) := by rw [ha]; exact (putSel_off rfl).trans rfl
              replace ha := Aside0.mk ha
              have BB := Aside0.mk Q_BB
              have RS := Aside0.mk Q_RS
              have HB := Aside0.mk Q_HB
              have hc_ : w'.cell? ⟨w.heap.size + 1, 0, none⟩ = some (.int .i64 kd) := (blk_cell HB.out 0).trans rfl
              refine value_ (w1 := w') (v := .int .i64 kd) (by rfl) rfl ?_ ?_
              · go_simp
                (try simp only [i64_w])
                try rfl
              refine hK.out _ _ ⟨A13, c13, m13_, (by rw [ha.out]; exact putSel_upk 0 hb_ rfl rfl rfl), Q_BB, Q_RS, Q_HB, fun h0_ => absurd ((hoff 13 (by kernel_rfl)).symm.trans h0_) (by decide), fun h0_ => absurd ((hoff 13 (by kernel_rfl)).symm.trans h0_) (by decide)⟩
            refine steps_cons ?_ ?_
            · rintro b a w' ⟨A13, c13, m13_, ha, Q_BB, Q_RS, Q_HB, Q_S13, Q_X13_⟩ hb_ hon hoff
              refine ⟨_, rfl, fun K hK => ?_⟩
              have e35 : a.tmps[35]? = some (.int .i64 kd) := by rw [ha]; exact putSel_on (e := (1, 35, .int .i64 kd)) 0 rfl rfl (hon 1 (by kernel_rfl)) rfl
              replace ha := Aside0.mk ha
              have BB := Aside0.mk Q_BB
              have RS := Aside0.mk Q_RS
              have HB := Aside0.mk Q_HB
              refine value_ (w1 := w') (v := .bool false) (by rfl) rfl ?_ ?_
              · go_simp
                first | done | rfl | omega | (simp; omega)
              refine hK.out _ _ ⟨A13, c13, m13_, (by rw [ha.out]; exact putSel_upk 1 hb_ rfl rfl rfl), BB.out, RS.out, HB.out, fun h0_ => absurd ((hoff 13 (by kernel_rfl)).symm.trans h0_) (by decide), fun h0_ => absurd ((hoff 13 (by kernel_rfl)).symm.trans h0_) (by decide)⟩
            refine steps_cons ?_ ?_
            · rintro b a w' ⟨A13, c13, m13_, ha, Q_BB, Q_RS, Q_HB, Q_S13, Q_X13_⟩ hb_ hon hoff
              refine ⟨_, rfl, fun K hK => ?_⟩
              have e36 : a.tmps[36]? = some (.bool false) := by rw [ha]; exact putSel_on (e := (2, 36, .bool false)) 1 rfl rfl (hon 2 (by kernel_rfl)) rfl
              replace ha := Aside0.mk ha
              have BB := Aside0.mk Q_BB
              have RS := Aside0.mk Q_RS
              have HB := Aside0.mk Q_HB
              refine value_ (w1 := w') (v := .bool false) (by rfl) rfl ?_ ?_
              · go_simp
                (try simp only [i64_w])
                try rfl
              refine hK.out _ _ ⟨A13, c13, m13_, (by rw [ha.out]; exact putSel_upk 2 hb_ rfl rfl rfl), Q_BB, Q_RS, Q_HB, fun h0_ => absurd ((hoff 13 (by kernel_rfl)).symm.trans h0_) (by decide), fun h0_ => absurd ((hoff 13 (by kernel_rfl)).symm.trans h0_) (by decide)⟩
            refine steps_cons ?_ ?_
            · rintro b a w' ⟨A13, c13, m13_, ha, Q_BB, Q_RS, Q_HB, Q_S13, Q_X13_⟩ hb_ hon hoff
              refine ⟨_, rfl, fun K hK => ?_⟩
              have e6 : a.tmps[6]? = some (.pointer (some ⟨w.heap.size + 1, 0, none⟩)) := by rw [ha]; exact (putSel_off rfl).trans rfl
              have e37 : a.tmps[37]? = some (.bool false) := by rw [ha]; exact putSel_on (e := (3, 37, .bool false)) 2 rfl rfl (hon 3 (by kernel_rfl)) rfl
              replace ha := Aside0.mk ha
              have BB := Aside0.mk Q_BB
              have RS := Aside0.mk Q_RS
              have HB := Aside0.mk Q_HB
              refine value_ (w1 := w') (v := .pointer (some ⟨w.heap.size + 1, 0, none⟩)) (wanted_on rfl rfl rfl (e37.trans (by first | rfl | (simp [*]; done)))) rfl ?_ ?_
              · go_simp
                (try simp only [i64_w])
                try rfl
              refine hK.out _ _ ⟨A13, c13, m13_, (by rw [ha.out]; exact putSel_upk 3 hb_ rfl rfl rfl), Q_BB, Q_RS, Q_HB, fun h0_ => absurd ((hoff 13 (by kernel_rfl)).symm.trans h0_) (by decide), fun h0_ => absurd ((hoff 13 (by kernel_rfl)).symm.trans h0_) (by decide)⟩
            refine steps_cons ?_ ?_
            · rintro b a w' ⟨A13, c13, m13_, ha, Q_BB, Q_RS, Q_HB, Q_S13, Q_X13_⟩ hb_ hon hoff
              refine ⟨_, rfl, fun K hK => ?_⟩
              have e38 : a.tmps[38]? = some (.pointer (some ⟨w.heap.size + 1, 0, none⟩)) := by rw [ha]; exact putSel_on (e := (4, 38, .pointer (some ⟨w.heap.size + 1, 0, none⟩))) 3 rfl rfl (hon 4 (by kernel_rfl)) rfl
              have e37 : a.tmps[37]? = some (.bool false) := by rw [ha]; exact putSel_on (e := (3, 37, .bool false)) 2 rfl rfl (hon 3 (by kernel_rfl)) rfl
              replace ha := Aside0.mk ha
              have BB := Aside0.mk Q_BB
              have RS := Aside0.mk Q_RS
              have HB := Aside0.mk Q_HB
              have hc_ : w'.cell? ⟨w.heap.size + 1, 0, none⟩ = some (.int .i64 kd) := (blk_cell HB.out 0).trans rfl
              refine value_ (w1 := w') (v := .int .i64 kd) (wanted_on rfl rfl rfl (e37.trans (by first | rfl | (simp [*]; done)))) rfl ?_ ?_
              · go_simp
                (try simp only [i64_w])
                try rfl
              refine hK.out _ _ ⟨A13, c13, m13_, (by rw [ha.out]; exact putSel_upk 4 hb_ rfl rfl rfl), Q_BB, Q_RS, Q_HB, fun h0_ => absurd ((hoff 13 (by kernel_rfl)).symm.trans h0_) (by decide), fun h0_ => absurd ((hoff 13 (by kernel_rfl)).symm.trans h0_) (by decide)⟩
            refine steps_cons ?_ ?_
            · rintro b a w' ⟨A13, c13, m13_, ha, Q_BB, Q_RS, Q_HB, Q_S13, Q_X13_⟩ hb_ hon hoff
              refine ⟨_, rfl, fun K hK => ?_⟩
              have e39 : a.tmps[39]? = some (.int .i64 kd) := by rw [ha]; exact putSel_on (e := (5, 39, .int .i64 kd)) 4 rfl rfl (hon 5 (by kernel_rfl)) rfl
              have e37 : a.tmps[37]? = some (.bool false) := by rw [ha]; exact putSel_on (e := (3, 37, .bool false)) 2 rfl rfl (hon 3 (by kernel_rfl)) rfl
              replace ha := Aside0.mk ha
              have BB := Aside0.mk Q_BB
              have RS := Aside0.mk Q_RS
              have HB := Aside0.mk Q_HB
              refine value_ (w1 := w') (v := .bool false) (wanted_on rfl rfl rfl (e37.trans (by first | rfl | (simp [*]; done)))) rfl ?_ ?_
              · go_simp
                first | done | rfl | omega | (simp; omega)
              refine hK.out _ _ ⟨A13, c13, m13_, (by rw [ha.out]; exact putSel_upk 5 hb_ rfl rfl rfl), BB.out, RS.out, HB.out, fun h0_ => absurd ((hoff 13 (by kernel_rfl)).symm.trans h0_) (by decide), fun h0_ => absurd ((hoff 13 (by kernel_rfl)).symm.trans h0_) (by decide)⟩
            refine steps_cons ?_ ?_
            · rintro b a w' ⟨A13, c13, m13_, ha, Q_BB, Q_RS, Q_HB, Q_S13, Q_X13_⟩ hb_ hon hoff
              refine ⟨_, rfl, fun K hK => ?_⟩
              have e37 : a.tmps[37]? = some (.bool false) := by rw [ha]; exact putSel_on (e := (3, 37, .bool false)) 2 rfl rfl (hon 3 (by kernel_rfl)) rfl
              have e40 : a.tmps[40]? = some (.bool false) := by rw [ha]; exact putSel_on (e := (6, 40, .bool false)) 5 rfl rfl (hon 6 (by kernel_rfl)) rfl
              replace ha := Aside0.mk ha
              have BB := Aside0.mk Q_BB
              have RS := Aside0.mk Q_RS
              have HB := Aside0.mk Q_HB
              refine value_ (w1 := w') (v := .bool false) (by rfl) rfl ?_ ?_
              · go_simp
                (try simp only [i64_w])
                try rfl
              refine hK.out _ _ ⟨A13, c13, m13_, (by rw [ha.out]; exact putSel_upk 6 hb_ rfl rfl rfl), Q_BB, Q_RS, Q_HB, fun h0_ => absurd ((hoff 13 (by kernel_rfl)).symm.trans h0_) (by decide), fun h0_ => absurd ((hoff 13 (by kernel_rfl)).symm.trans h0_) (by decide)⟩
            refine steps_cons ?_ ?_
            · rintro b a w' ⟨A13, c13, m13_, ha, Q_BB, Q_RS, Q_HB, Q_S13, Q_X13_⟩ hb_ hon hoff
              refine ⟨_, rfl, fun K hK => ?_⟩
              have e41 : a.tmps[41]? = some (.bool false) := by rw [ha]; exact putSel_on (e := (7, 41, .bool false)) 6 rfl rfl (hon 7 (by kernel_rfl)) rfl
              replace ha := Aside0.mk ha
              have BB := Aside0.mk Q_BB
              have RS := Aside0.mk Q_RS
              have HB := Aside0.mk Q_HB
              refine value_ (w1 := w') (v := .bool false) (by rfl) rfl ?_ ?_
              · go_simp
                (try simp only [i64_w])
                try rfl
              refine hK.out _ _ ⟨A13, c13, m13_, (by rw [ha.out]; exact putSel_upk 7 hb_ rfl rfl rfl), Q_BB, Q_RS, Q_HB, fun h0_ => absurd ((hoff 13 (by kernel_rfl)).symm.trans h0_) (by decide), fun h0_ => absurd ((hoff 13 (by kernel_rfl)).symm.trans h0_) (by decide)⟩
            refine steps_cons ?_ ?_
            · rintro b a w' ⟨A13, c13, m13_, ha, Q_BB, Q_RS, Q_HB, Q_S13, Q_X13_⟩ hb_ hon hoff
              refine ⟨_, rfl, fun K hK => ?_⟩
              have e6 : a.tmps[6]? = some (.pointer (some ⟨w.heap.size + 1, 0, none⟩)) := by rw [ha]; exact (putSel_off rfl).trans rfl
              have e42 : a.tmps[42]? = some (.bool false) := by rw [ha]; exact putSel_on (e := (8, 42, .bool false)) 7 rfl rfl (hon 8 (by kernel_rfl)) rfl
              replace ha := Aside0.mk ha
              have BB := Aside0.mk Q_BB
              have RS := Aside0.mk Q_RS
              have HB := Aside0.mk Q_HB
              have hc0_ : w'.cell? ⟨w.heap.size + 1, 0, none⟩ = some (.int .i64 kd) := (blk_cell HB.out 0).trans rfl
              have hc1_ : w'.cell? ⟨w.heap.size + 1, 1, none⟩ = some (.int .i64 (at_ xs 4 4)) := (blk_cell HB.out 1).trans rfl
              have hc2_ : w'.cell? ⟨w.heap.size + 1, 2, none⟩ = some (.int .i64 (at_ xs 8 4)) := (blk_cell HB.out 2).trans rfl
              have hc3_ : w'.cell? ⟨w.heap.size + 1, 3, none⟩ = some (.int .i64 (at_ xs 12 2)) := (blk_cell HB.out 3).trans rfl
              have hc4_ : w'.cell? ⟨w.heap.size + 1, 4, none⟩ = some (.int .i64 (at_ xs 14 2)) := (blk_cell HB.out 4).trans rfl
              have hc5_ : w'.cell? ⟨w.heap.size + 1, 5, none⟩ = some (.int .i64 (at_ xs 16 4)) := (blk_cell HB.out 5).trans rfl
              have hc6_ : w'.cell? ⟨w.heap.size + 1, 6, none⟩ = some (.int .i64 (at_ xs 20 4)) := (blk_cell HB.out 6).trans rfl
              refine value_ (w1 := w') (v := .agg #[.int .i64 kd, .int .i64 (at_ xs 4 4), .int .i64 (at_ xs 8 4), .int .i64 (at_ xs 12 2), .int .i64 (at_ xs 14 2), .int .i64 (at_ xs 16 4), .int .i64 (at_ xs 20 4)]) (wanted_on rfl rfl rfl (e42.trans (by first | rfl | (simp [*]; done)))) rfl ?_ ?_
              · go_simp
                (try simp only [i64_w])
                try rfl
              refine hK.out _ _ ⟨A13, c13, m13_, (by rw [ha.out]; exact putSel_upk 8 hb_ rfl rfl rfl), Q_BB, Q_RS, Q_HB, fun h0_ => absurd ((hoff 13 (by kernel_rfl)).symm.trans h0_) (by decide), fun h0_ => absurd ((hoff 13 (by kernel_rfl)).symm.trans h0_) (by decide)⟩
            refine steps_cons ?_ ?_
            · rintro b a w' ⟨A13, c13, m13_, ha, Q_BB, Q_RS, Q_HB, Q_S13, Q_X13_⟩ hb_ hon hoff
              refine ⟨_, rfl, fun K hK => ?_⟩
              have e0 : a.tmps[0]? = some (.slice B n d) := by rw [ha]; exact (putSel_off rfl).trans rfl
              have e42 : a.tmps[42]? = some (.bool false) := by rw [ha]; exact putSel_on (e := (8, 42, .bool false)) 7 rfl rfl (hon 8 (by kernel_rfl)) rfl
              replace ha := Aside0.mk ha
              have BB := Aside0.mk Q_BB
              have RS := Aside0.mk Q_RS
              have HB := Aside0.mk Q_HB
              refine value_ (w1 := w') (v := .slice B n d) (wanted_on rfl rfl rfl (e42.trans (by first | rfl | (simp [*]; done)))) rfl ?_ ?_
              · go_simp
                (try simp only [i64_w])
                try rfl
              refine hK.out _ _ ⟨A13, c13, m13_, (by rw [ha.out]; exact putSel_upk 9 hb_ rfl rfl rfl), Q_BB, Q_RS, Q_HB, fun h0_ => absurd ((hoff 13 (by kernel_rfl)).symm.trans h0_) (by decide), fun h0_ => absurd ((hoff 13 (by kernel_rfl)).symm.trans h0_) (by decide)⟩
            refine steps_cons ?_ ?_
            · rintro b a w' ⟨A13, c13, m13_, ha, Q_BB, Q_RS, Q_HB, Q_S13, Q_X13_⟩ hb_ hon hoff
              refine ⟨_, rfl, fun K hK => ?_⟩
              have e1 : a.tmps[1]? = some (.slice (some a0) 64 c) := by rw [ha]; exact (putSel_off rfl).trans rfl
              have e42 : a.tmps[42]? = some (.bool false) := by rw [ha]; exact putSel_on (e := (8, 42, .bool false)) 7 rfl rfl (hon 8 (by kernel_rfl)) rfl
              replace ha := Aside0.mk ha
              have BB := Aside0.mk Q_BB
              have RS := Aside0.mk Q_RS
              have HB := Aside0.mk Q_HB
              refine value_ (w1 := w') (v := .slice (some a0) 64 c) (wanted_on rfl rfl rfl (e42.trans (by first | rfl | (simp [*]; done)))) rfl ?_ ?_
              · go_simp
                (try simp only [i64_w])
                try rfl
              refine hK.out _ _ ⟨A13, c13, m13_, (by rw [ha.out]; exact putSel_upk 10 hb_ rfl rfl rfl), Q_BB, Q_RS, Q_HB, fun h0_ => absurd ((hoff 13 (by kernel_rfl)).symm.trans h0_) (by decide), fun h0_ => absurd ((hoff 13 (by kernel_rfl)).symm.trans h0_) (by decide)⟩
            refine steps_cons ?_ ?_
            · rintro b a w' ⟨A13, c13, m13_, ha, Q_BB, Q_RS, Q_HB, Q_S13, Q_X13_⟩ hb_ hon hoff
              refine ⟨_, rfl, fun K hK => ?_⟩
              have e45 : a.tmps[45]? = some (.slice (some a0) 64 c) := by rw [ha]; exact putSel_on (e := (11, 45, .slice (some a0) 64 c)) 10 rfl rfl (hon 11 (by kernel_rfl)) rfl
              have e42 : a.tmps[42]? = some (.bool false) := by rw [ha]; exact putSel_on (e := (8, 42, .bool false)) 7 rfl rfl (hon 8 (by kernel_rfl)) rfl
              replace ha := Aside0.mk ha
              have BB := Aside0.mk Q_BB
              have RS := Aside0.mk Q_RS
              have HB := Aside0.mk Q_HB
              refine value_ (w1 := w') (v := .slice (some (a0.add 32)) 32 (c - 32)) (wanted_on rfl rfl rfl (e42.trans (by first | rfl | (simp [*]; done)))) rfl ?_ ?_
              · go_simp
                intro h_
                exact absurd h_ (by omega)
              refine hK.out _ _ ⟨A13, c13, m13_, (by rw [ha.out]; exact putSel_upk 11 hb_ rfl rfl rfl), BB.out, RS.out, HB.out, fun h0_ => absurd ((hoff 13 (by kernel_rfl)).symm.trans h0_) (by decide), fun h0_ => absurd ((hoff 13 (by kernel_rfl)).symm.trans h0_) (by decide)⟩
            refine steps_cons ?_ ?_
            · rintro b a w' ⟨A13, c13, m13_, ha, Q_BB, Q_RS, Q_HB, Q_S13, Q_X13_⟩ hb_ hon hoff
              refine ⟨_, rfl, fun K hK => ?_⟩
              have e43 : a.tmps[43]? = some (.agg #[.int .i64 kd, .int .i64 (at_ xs 4 4), .int .i64 (at_ xs 8 4), .int .i64 (at_ xs 12 2), .int .i64 (at_ xs 14 2), .int .i64 (at_ xs 16 4), .int .i64 (at_ xs 20 4)]) := by rw [ha]; exact putSel_on (e := (9, 43, .agg #[.int .i64 kd, .int .i64 (at_ xs 4 4), .int .i64 (at_ xs 8 4), .int .i64 (at_ xs 12 2), .int .i64 (at_ xs 14 2), .int .i64 (at_ xs 16 4), .int .i64 (at_ xs 20 4)])) 8 rfl rfl (hon 9 (by kernel_rfl)) rfl
              have e44 : a.tmps[44]? = some (.slice B n d) := by rw [ha]; exact putSel_on (e := (10, 44, .slice B n d)) 9 rfl rfl (hon 10 (by kernel_rfl)) rfl
              have e46 : a.tmps[46]? = some (.slice (some (a0.add 32)) 32 (c - 32)) := by rw [ha]; exact putSel_on (e := (12, 46, .slice (some (a0.add 32)) 32 (c - 32))) 11 rfl rfl (hon 12 (by kernel_rfl)) rfl
              have e42 : a.tmps[42]? = some (.bool false) := by rw [ha]; exact putSel_on (e := (8, 42, .bool false)) 7 rfl rfl (hon 8 (by kernel_rfl)) rfl
              replace ha := Aside0.mk ha
              have BB := Aside0.mk Q_BB
              have RS := Aside0.mk Q_RS
              have HB := Aside0.mk Q_HB
              refine goes_ Try.func21 (by kernel_rfl) rfl #[.agg #[.int .i64 kd, .int .i64 (at_ xs 4 4), .int .i64 (at_ xs 8 4), .int .i64 (at_ xs 12 2), .int .i64 (at_ xs 14 2), .int .i64 (at_ xs 16 4), .int .i64 (at_ xs 20 4)], .slice B n d, .slice (some (a0.add 32)) 32 (c - 32)] (wanted_on rfl rfl rfl (e42.trans (by first | rfl | (simp [*]; done)))) rfl rfl (by first | (simp only [List.map_toArray, List.map_cons, List.map_nil, Act.eval, Array.getD_eq_getD_getElem?, Option.getD_some, e43, e44, e46, e42]; done) | (simp only [List.map_toArray, List.map_cons, List.map_nil, Act.eval, Array.getD_eq_getD_getElem?, Option.getD_some, e43, e44, e46, e42]; rfl)) ?_
              have hs_ := SE.out w' BB.out
              refine hs_.mono ?_
              rintro e w1 ⟨A_, c_, rfl, g0, g1, g2⟩
              refine ⟨_, rfl, ?_⟩
              refine hK.out _ _ ⟨A_, c_, (.slice A_ 64 c_), (by rw [ha.out]; exact putSel_upk 12 hb_ rfl rfl rfl), bl_seq BB.out g2, blk_below RS.out g2, blk_below HB.out g2, fun _ => ⟨g1, g0⟩, fun _ => rfl⟩
            refine steps_cons ?_ ?_
            · rintro b a w' ⟨A13, c13, m13_, ha, Q_BB, Q_RS, Q_HB, Q_S13, Q_X13_⟩ hb_ hon hoff
              refine ⟨_, rfl, fun K hK => ?_⟩
              have e1 : a.tmps[1]? = some (.slice (some a0) 64 c) := by rw [ha]; exact (putSel_off rfl).trans rfl
              have e42 : a.tmps[42]? = some (.bool false) := by rw [ha]; exact putSel_on (e := (8, 42, .bool false)) 7 rfl rfl (hon 8 (by kernel_rfl)) rfl
              replace ha := Aside0.mk ha
              have BB := Aside0.mk Q_BB
              have RS := Aside0.mk Q_RS
              have HB := Aside0.mk Q_HB
              refine value_ (w1 := w') (v := .slice (some a0) 64 c) (wanted_on rfl rfl rfl (e42.trans (by first | rfl | (simp [*]; done)))) rfl ?_ ?_
              · go_simp
                (try simp only [i64_w])
                try rfl
              refine hK.out _ _ ⟨A13, c13, m13_, (by rw [ha.out]; exact putSel_upk 13 hb_ rfl rfl rfl), Q_BB, Q_RS, Q_HB, Q_S13, Q_X13_⟩
            refine steps_cons ?_ ?_
            · rintro b a w' ⟨A13, c13, m13_, ha, Q_BB, Q_RS, Q_HB, Q_S13, Q_X13_⟩ hb_ hon hoff
              refine ⟨_, rfl, fun K hK => ?_⟩
              have e47 : a.tmps[47]? = some (m13_) := by rw [ha]; exact putSel_on (e := (13, 47, m13_)) 12 rfl rfl (hon 13 (by kernel_rfl)) rfl
              rw [Q_X13_ (hon 13 (by kernel_rfl))] at e47
              have e48 : a.tmps[48]? = some (.slice (some a0) 64 c) := by rw [ha]; exact putSel_on (e := (14, 48, .slice (some a0) 64 c)) 13 rfl rfl (hon 14 (by kernel_rfl)) rfl
              have e42 : a.tmps[42]? = some (.bool false) := by rw [ha]; exact putSel_on (e := (8, 42, .bool false)) 7 rfl rfl (hon 8 (by kernel_rfl)) rfl
              replace ha := Aside0.mk ha
              have BB := Aside0.mk Q_BB
              have RS := Aside0.mk Q_RS
              have HB := Aside0.mk Q_HB
              have S13 := Aside0.mk (Q_S13 (hon 13 (by kernel_rfl)))
              refine goes_ Try.func11 (by kernel_rfl) rfl #[.slice A13 64 c13, .slice (some a0) 64 c] (wanted_on rfl rfl rfl (e42.trans (by first | rfl | (simp [*]; done)))) rfl rfl (by first | (simp only [List.map_toArray, List.map_cons, List.map_nil, Act.eval, Array.getD_eq_getD_getElem?, Option.getD_some, e47, e48, e42]; done) | (simp only [List.map_toArray, List.map_cons, List.map_nil, Act.eval, Array.getD_eq_getD_getElem?, Option.getD_some, e47, e48, e42]; rfl)) ?_
              refine (rSame_any SL xs A13 (some a0) 64 64 c13 c w' S13.out.1 (HR.out.below BB.out) BSL.out HY.out).mono ?_
              rintro e w1 ⟨rfl, g1⟩
              refine ⟨_, rfl, ?_⟩
              refine hK.out _ _ ⟨A13, c13, m13_, (by rw [ha.out]; exact putSel_upk 14 hb_ rfl rfl rfl), bl_seq BB.out g1.below, blk_below RS.out g1.below, blk_below HB.out g1.below, fun _ => ⟨S13.out.1.below g1.below, S13.out.2⟩, Q_X13_⟩
            refine steps_cons ?_ ?_
            · rintro b a w' ⟨A13, c13, m13_, ha, Q_BB, Q_RS, Q_HB, Q_S13, Q_X13_⟩ hb_ hon hoff
              refine ⟨_, rfl, fun K hK => ?_⟩
              have e49 : a.tmps[49]? = some (.bool (decide (SL = xs))) := by rw [ha]; exact putSel_on (e := (15, 49, .bool (decide (SL = xs)))) 14 rfl rfl (hon 15 (by kernel_rfl)) rfl
              have e42 : a.tmps[42]? = some (.bool false) := by rw [ha]; exact putSel_on (e := (8, 42, .bool false)) 7 rfl rfl (hon 8 (by kernel_rfl)) rfl
              replace ha := Aside0.mk ha
              have BB := Aside0.mk Q_BB
              have RS := Aside0.mk Q_RS
              have HB := Aside0.mk Q_HB
              have S13 := Aside0.mk (Q_S13 (hon 13 (by kernel_rfl)))
              refine value_ (w1 := w') (v := .bool (!decide (SL = xs))) (wanted_on rfl rfl rfl (e42.trans (by first | rfl | (simp [*]; done)))) rfl ?_ ?_
              · go_simp
                try rfl
              refine hK.out _ _ ⟨A13, c13, m13_, (by rw [ha.out]; exact putSel_upk 15 hb_ rfl rfl rfl), BB.out, RS.out, HB.out, fun _ => S13.out, Q_X13_⟩
            refine steps_cons ?_ ?_
            · rintro b a w' ⟨A13, c13, m13_, ha, Q_BB, Q_RS, Q_HB, Q_S13, Q_X13_⟩ hb_ hon hoff
              refine ⟨_, rfl, fun K hK => ?_⟩
              have e42 : a.tmps[42]? = some (.bool false) := by rw [ha]; exact putSel_on (e := (8, 42, .bool false)) 7 rfl rfl (hon 8 (by kernel_rfl)) rfl
              have e50 : a.tmps[50]? = some (.bool (!decide (SL = xs))) := by rw [ha]; exact putSel_on (e := (16, 50, .bool (!decide (SL = xs)))) 15 rfl rfl (hon 16 (by kernel_rfl)) rfl
              replace ha := Aside0.mk ha
              have BB := Aside0.mk Q_BB
              have RS := Aside0.mk Q_RS
              have HB := Aside0.mk Q_HB
              have S13 := Aside0.mk (Q_S13 (hon 13 (by kernel_rfl)))
              refine value_ (w1 := w') (v := .bool (!decide (SL = xs))) (by rfl) rfl ?_ ?_
              · go_simp
                (try simp only [i64_w])
                try rfl
              refine hK.out _ _ ⟨A13, c13, m13_, (by rw [ha.out]; exact putSel_upk 16 hb_ rfl rfl rfl), Q_BB, Q_RS, Q_HB, Q_S13, Q_X13_⟩
            exact steps_nil
          · rintro b a w' hall ⟨A13, c13, m13_, ha, Q_BB, Q_RS, Q_HB, Q_S13, Q_X13_⟩
            clear BB HB RS
            have hb1_ := hall 1 (by kernel_rfl)
            have hb2_ := hall 2 (by kernel_rfl)
            have hb3_ := hall 3 (by kernel_rfl)
            have hb4_ := hall 4 (by kernel_rfl)
            have hb5_ := hall 5 (by kernel_rfl)
            have hb6_ := hall 6 (by kernel_rfl)
            have hb7_ := hall 7 (by kernel_rfl)
            have hb8_ := hall 8 (by kernel_rfl)
            have hb9_ := hall 9 (by kernel_rfl)
            have hb10_ := hall 10 (by kernel_rfl)
            have hb11_ := hall 11 (by kernel_rfl)
            have hb12_ := hall 12 (by kernel_rfl)
            have hb13_ := hall 13 (by kernel_rfl)
            have hb14_ := hall 14 (by kernel_rfl)
            have hb15_ := hall 15 (by kernel_rfl)
            have hb16_ := hall 16 (by kernel_rfl)
            have hb17_ := hall 17 (by kernel_rfl)
            subst ha
            obtain rfl := Q_X13_ hb13_
            simp only [putSel, hb1_, hb2_, hb3_, hb4_, hb5_, hb6_, hb7_, hb8_, hb9_, hb10_, hb11_, hb12_, hb13_, hb14_, hb15_, hb16_, hb17_, if_true, Act.put, List.setIfInBounds_toArray, List.set_cons_zero, List.set_cons_succ]
            have BB := Aside0.mk Q_BB
            clear Q_BB
            have RS := Aside0.mk Q_RS
            clear Q_RS
            have HB := Aside0.mk Q_HB
            clear Q_HB
            have S13 := Aside0.mk (Q_S13 hb13_)
            clear Q_S13
            clear hall hb1_ hb2_ hb3_ hb4_ hb5_ hb6_ hb7_ hb8_ hb9_ hb10_ hb11_ hb12_ hb13_ hb14_ hb15_ hb16_ hb17_
            replace BB := Lib.hid BB.out
            replace RS := Lib.hid RS.out
            replace HB := Lib.hid HB.out
            obtain ⟨w6, hw6⟩ : ∃ w6, w6 = w' := ⟨_, rfl⟩
            rw [← hw6] at BB RS HB ⊢
            clear hw6 SE
            cases hrb : rightO ys xs
            · have HN2 : Hid (openB ys xs = false) := Lib.hid (by rw [HN.out, hrb])
              have hne : ¬ SL = xs := fun e => by have h_ := HOS.out.1 e; rw [hrb] at h_; cases h_
              have bne : decide (SL = xs) = false := decide_eq_false hne
              simp only [bne, Bool.not_false]
              clear hrb hne
              have y0 := (blk_cell RS.out 0).trans rfl
              have q0 := blk_frozen RS.out 0
              have y1 := (blk_cell RS.out 1).trans rfl
              have q1 := blk_frozen RS.out 1
              have y2 := (blk_cell RS.out 2).trans rfl
              have q2 := blk_frozen RS.out 2
              have y3 := (blk_cell RS.out 3).trans rfl
              have q3 := blk_frozen RS.out 3
              have y4 := (blk_cell RS.out 4).trans rfl
              have q4 := blk_frozen RS.out 4
              have y5 := (blk_cell RS.out 5).trans rfl
              have q5 := blk_frozen RS.out 5
              have y6 := (blk_cell RS.out 6).trans rfl
              have q6 := blk_frozen RS.out 6
              go_wp2_with fail
              have hf := put7 (show w6.heap[w.heap.size]? = some (.cells #[.int .i64 0, .int .i64 0, .int .i64 0, .int .i64 0, .int .i64 0, .int .i64 0, .int .i64 0] 48 (0, 0)) from RS.out) (.int .i64 0) (.int .i64 0) (.int .i64 0) (.int .i64 0) (.int .i64 0) (.int .i64 0) (.int .i64 0)
              have T9 := bel7 BB.out (Nat.le_refl _) (.int .i64 0) (.int .i64 0) (.int .i64 0) (.int .i64 0) (.int .i64 0) (.int .i64 0) (.int .i64 0)
              obtain ⟨w9, hw9⟩ : ∃ w9, (((((((w6.setCell ⟨w.heap.size, 0, none⟩ (.int .i64 0)).setCell ⟨w.heap.size, 1, none⟩ (.int .i64 0)).setCell ⟨w.heap.size, 2, none⟩ (.int .i64 0)).setCell ⟨w.heap.size, 3, none⟩ (.int .i64 0)).setCell ⟨w.heap.size, 4, none⟩ (.int .i64 0)).setCell ⟨w.heap.size, 5, none⟩ (.int .i64 0)).setCell ⟨w.heap.size, 6, none⟩ (.int .i64 0)) = w9 := ⟨_, rfl⟩
              rw [hw9] at hf T9 ⊢
              have c0 : w9.cell? ⟨w.heap.size, 0, none⟩ = some (.int .i64 0) := (blk_cell hf 0).trans rfl
              have c1 : w9.cell? ⟨w.heap.size, 1, none⟩ = some (.int .i64 0) := (blk_cell hf 1).trans rfl
              have c2 : w9.cell? ⟨w.heap.size, 2, none⟩ = some (.int .i64 0) := (blk_cell hf 2).trans rfl
              have c3 : w9.cell? ⟨w.heap.size, 3, none⟩ = some (.int .i64 0) := (blk_cell hf 3).trans rfl
              have c4 : w9.cell? ⟨w.heap.size, 4, none⟩ = some (.int .i64 0) := (blk_cell hf 4).trans rfl
              have c5 : w9.cell? ⟨w.heap.size, 5, none⟩ = some (.int .i64 0) := (blk_cell hf 5).trans rfl
              have c6 : w9.cell? ⟨w.heap.size, 6, none⟩ = some (.int .i64 0) := (blk_cell hf 6).trans rfl
              clear hw9 hf
              refine bodyPost_ret (v := .tuple #[.agg #[.int .i64 0, .int .i64 0, .int .i64 0, .int .i64 0, .int .i64 0, .int .i64 0, .int .i64 0], .bool false]) (by simp [results, Try.results28, go_sem, c0, c1, c2, c3, c4, c5, c6]) rfl ⟨T9, ?_⟩
              rw [HN2.out, openR_no HN2.out]
              rfl
            · have HN2 : Hid (openB ys xs = true) := Lib.hid (by rw [HN.out, hrb])
              have beq : decide (SL = xs) = true := decide_eq_true (HOS.out.2 hrb)
              simp only [beq, Bool.not_true]
              clear hrb
              have y0 := (blk_cell RS.out 0).trans rfl
              have q0 := blk_frozen RS.out 0
              have y1 := (blk_cell RS.out 1).trans rfl
              have q1 := blk_frozen RS.out 1
              have y2 := (blk_cell RS.out 2).trans rfl
              have q2 := blk_frozen RS.out 2
              have y3 := (blk_cell RS.out 3).trans rfl
              have q3 := blk_frozen RS.out 3
              have y4 := (blk_cell RS.out 4).trans rfl
              have q4 := blk_frozen RS.out 4
              have y5 := (blk_cell RS.out 5).trans rfl
              have q5 := blk_frozen RS.out 5
              have y6 := (blk_cell RS.out 6).trans rfl
              have q6 := blk_frozen RS.out 6
              have x0 : w6.cell? ⟨w.heap.size + 1, 0, none⟩ = some (.int .i64 kd) := (blk_cell HB.out 0).trans rfl
              have x1 : w6.cell? ⟨w.heap.size + 1, 1, none⟩ = some (.int .i64 (at_ xs 4 4)) := (blk_cell HB.out 1).trans rfl
              have x2 : w6.cell? ⟨w.heap.size + 1, 2, none⟩ = some (.int .i64 (at_ xs 8 4)) := (blk_cell HB.out 2).trans rfl
              have x3 : w6.cell? ⟨w.heap.size + 1, 3, none⟩ = some (.int .i64 (at_ xs 12 2)) := (blk_cell HB.out 3).trans rfl
              have x4 : w6.cell? ⟨w.heap.size + 1, 4, none⟩ = some (.int .i64 (at_ xs 14 2)) := (blk_cell HB.out 4).trans rfl
              have x5 : w6.cell? ⟨w.heap.size + 1, 5, none⟩ = some (.int .i64 (at_ xs 16 4)) := (blk_cell HB.out 5).trans rfl
              have x6 : w6.cell? ⟨w.heap.size + 1, 6, none⟩ = some (.int .i64 (at_ xs 20 4)) := (blk_cell HB.out 6).trans rfl
              go_wp2_with fail
              have hf := put7 (show w6.heap[w.heap.size]? = some (.cells #[.int .i64 0, .int .i64 0, .int .i64 0, .int .i64 0, .int .i64 0, .int .i64 0, .int .i64 0] 48 (0, 0)) from RS.out) (.int .i64 kd) (.int .i64 (at_ xs 4 4)) (.int .i64 (at_ xs 8 4)) (.int .i64 (at_ xs 12 2)) (.int .i64 (at_ xs 14 2)) (.int .i64 (at_ xs 16 4)) (.int .i64 (at_ xs 20 4))
              have T9 := bel7 BB.out (Nat.le_refl _) (.int .i64 kd) (.int .i64 (at_ xs 4 4)) (.int .i64 (at_ xs 8 4)) (.int .i64 (at_ xs 12 2)) (.int .i64 (at_ xs 14 2)) (.int .i64 (at_ xs 16 4)) (.int .i64 (at_ xs 20 4))
              obtain ⟨w9, hw9⟩ : ∃ w9, (((((((w6.setCell ⟨w.heap.size, 0, none⟩ (.int .i64 kd)).setCell ⟨w.heap.size, 1, none⟩ (.int .i64 (at_ xs 4 4))).setCell ⟨w.heap.size, 2, none⟩ (.int .i64 (at_ xs 8 4))).setCell ⟨w.heap.size, 3, none⟩ (.int .i64 (at_ xs 12 2))).setCell ⟨w.heap.size, 4, none⟩ (.int .i64 (at_ xs 14 2))).setCell ⟨w.heap.size, 5, none⟩ (.int .i64 (at_ xs 16 4))).setCell ⟨w.heap.size, 6, none⟩ (.int .i64 (at_ xs 20 4))) = w9 := ⟨_, rfl⟩
              rw [hw9] at hf T9 ⊢
              have c0 : w9.cell? ⟨w.heap.size, 0, none⟩ = some (.int .i64 kd) := (blk_cell hf 0).trans rfl
              have c1 : w9.cell? ⟨w.heap.size, 1, none⟩ = some (.int .i64 (at_ xs 4 4)) := (blk_cell hf 1).trans rfl
              have c2 : w9.cell? ⟨w.heap.size, 2, none⟩ = some (.int .i64 (at_ xs 8 4)) := (blk_cell hf 2).trans rfl
              have c3 : w9.cell? ⟨w.heap.size, 3, none⟩ = some (.int .i64 (at_ xs 12 2)) := (blk_cell hf 3).trans rfl
              have c4 : w9.cell? ⟨w.heap.size, 4, none⟩ = some (.int .i64 (at_ xs 14 2)) := (blk_cell hf 4).trans rfl
              have c5 : w9.cell? ⟨w.heap.size, 5, none⟩ = some (.int .i64 (at_ xs 16 4)) := (blk_cell hf 5).trans rfl
              have c6 : w9.cell? ⟨w.heap.size, 6, none⟩ = some (.int .i64 (at_ xs 20 4)) := (blk_cell hf 6).trans rfl
              clear hw9 hf
              refine bodyPost_ret (v := .tuple #[.agg #[.int .i64 kd, .int .i64 (at_ xs 4 4), .int .i64 (at_ xs 8 4), .int .i64 (at_ xs 12 2), .int .i64 (at_ xs 14 2), .int .i64 (at_ xs 16 4), .int .i64 (at_ xs 20 4)], .bool true]) (by simp [results, Try.results28, go_sem, c0, c1, c2, c3, c4, c5, c6]) rfl ⟨T9, ?_⟩
              rw [HN2.out, openR_yes HN2.out, HH.out]
  · have b64 : ((m : Int) != 64) = true := by simp; omega
    have hob : openB ys xs = false := by rw [openB, HL.out, decide_eq_false h64]; rfl
    have HN := Lib.hid hob
    clear hob
    go_enter Try.func28, Try.ntmps28
    go_wp2_with fail
    have hf := heap_alloc_new w (.cells #[.int .i64 0, .int .i64 0, .int .i64 0, .int .i64 0, .int .i64 0, .int .i64 0, .int .i64 0] 48)
    have T9 : Below w.heap.size w (w.alloc (.cells #[.int .i64 0, .int .i64 0, .int .i64 0, .int .i64 0, .int .i64 0, .int .i64 0, .int .i64 0] 48)) := bl_alloc (Below.refl _ _) _
    generalize w.alloc (.cells #[.int .i64 0, .int .i64 0, .int .i64 0, .int .i64 0, .int .i64 0, .int .i64 0, .int .i64 0] 48) = w9 at hf T9 ⊢
    have c0 : w9.cell? ⟨w.heap.size, 0, none⟩ = some (.int .i64 0) := (blk_cell hf 0).trans rfl
    have c1 : w9.cell? ⟨w.heap.size, 1, none⟩ = some (.int .i64 0) := (blk_cell hf 1).trans rfl
    have c2 : w9.cell? ⟨w.heap.size, 2, none⟩ = some (.int .i64 0) := (blk_cell hf 2).trans rfl
    have c3 : w9.cell? ⟨w.heap.size, 3, none⟩ = some (.int .i64 0) := (blk_cell hf 3).trans rfl
    have c4 : w9.cell? ⟨w.heap.size, 4, none⟩ = some (.int .i64 0) := (blk_cell hf 4).trans rfl
    have c5 : w9.cell? ⟨w.heap.size, 5, none⟩ = some (.int .i64 0) := (blk_cell hf 5).trans rfl
    have c6 : w9.cell? ⟨w.heap.size, 6, none⟩ = some (.int .i64 0) := (blk_cell hf 6).trans rfl
    clear hf
    refine bodyPost_ret (v := .tuple #[.agg #[.int .i64 0, .int .i64 0, .int .i64 0, .int .i64 0, .int .i64 0, .int .i64 0, .int .i64 0], .bool false]) (by simp [results, Try.results28, go_sem, c0, c1, c2, c3, c4, c5, c6]) rfl ⟨T9, ?_⟩
    rw [HN.out, openR_no HN.out]
    rfl
end Go.Proofs.Ytkbjndfmbimjiaa
