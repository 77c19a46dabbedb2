import Derived.Test.YthmhbnpaalgdfaaCback
import Derived.Test.YthmhbnpaalgdfaaCnil
import Derived.Test.YthmhbnpaalgdfaaWTab
import Derived.Test.YthmhbnpaalgdfaaWInv
import Derived.Test.YthmhbnpaalgdfaaWInvWords
/-! The law CursorKeeps: its walk. -/
set_option linter.unusedVariables false
set_option linter.unusedSimpArgs false
namespace Go.Proofs.Ythmhbnpaalgdfaa
open Go.RowKit Go.Proofs.YthmhbnpaalgdfaaW.PrintWords Go.Proofs.YthmhbnpaalgdfaaW.PrintLast
def Kp.T13 : Bool × List (List Nat × List Nat) := (true, [([], []), ([], []), ([], []), ([], []), ([], []), ([], []), ([4, 5], [4, 5]), ([6], [6]), ([7], [7]), ([], []), ([], []), ([9, 10], [9, 10]), ([11], [11]), ([12], [12]), ([0, 1, 0, 1, 4, 5, 6, 7, 8, 12], [0, 1]), ([14, 8, 0, 1, 4, 5, 6, 7, 8, 12], [8, 14]), ([2, 3, 0, 1, 2, 3, 4, 5, 6, 7, 8, 9, 10, 11, 12, 13, 14, 15], [2, 3]), ([16, 13, 15, 0, 1, 2, 3, 4, 5, 6, 7, 8, 9, 10, 11, 12, 13, 14, 15], [13, 16])])
def Kp.B13 : List Nat := [0, 0, 0, 0, 0, 0, 48, 112, 240, 0, 0, 1536, 3584, 7680, 8179, 24563, 65535, 131071]
theorem Kp.tab13 : rtab .any (opsOf Try.f8 13) = Kp.T13 := by kernel_rfl
theorem Kp.bits13 : waitsOk Kp.T13.2 Kp.B13 = true := by kernel_rfl
theorem keeps_heavy (n : Nat) (A : Option Addr) (c : Nat) (x : Int) (w : World) (hm : n ≤ 9223372036854775807) (hl : 500 < n) :
    Calls Try.prog 8 #[.slice A n c, .int .u64 x] w fun e w' => e = .returned (.bool true) ∧ Below w.heap.size w w' := by
  have b2 : (500 : Int) < n := by omega
  go_enter Try.func8, Try.ntmps8
  go_wp2_with fail
  refine (laid_any _).mono ?_
  rintro e w1 ⟨rfl, hb1⟩
  have T1 := Lib.hid hb1
  clear hb1
  go_wp2_with fail
  refine (laid_any _).mono ?_
  rintro e w2 ⟨rfl, hb2⟩
  have T2 := Lib.hid (bl_seq T1.out hb2)
  clear hb2
  go_wp2_with fail
  go_ret
  exact ⟨by simp, T2.out⟩
set_option maxHeartbeats 4000000 in
set_option maxRecDepth 100000 in
theorem keeps_walk (xs : List Int) (A : Option Addr) (c : Nat) (x : Int) (w : World) (hr : ReadsInt w .u8 A xs.length xs) (hy : Byt xs) (hc : xs.length ≤ c) (fA : ∀ a, A = some a → a.block < w.heap.size) (hl : xs.length ≤ 500) :
    Calls Try.prog 8 #[.slice A xs.length c, .int .u64 x] w fun e w' => e = .returned (.bool true) ∧ Below w.heap.size w w' := by
  have b2 : ¬ (500 : Int) < xs.length := by omega
  have hmf := makeFunc_
  have HX := Lib.hid (And.intro hr (And.intro hy fA))
  clear hr hy fA
  go_enter Try.func8, Try.ntmps8
  go_wp2_with fail
  refine (laid_any _).mono ?_
  rintro e w1 ⟨rfl, hb1⟩
  have T1 := Lib.hid hb1
  clear hb1
  go_wp2_with fail
  refine (rPart_any xs A c 0 xs.length w1 (HX.out.1.below T1.out) hc (by omega) (by omega) (by omega) (by omega)).mono ?_
  rintro e w2 ⟨v2, rfl, hn2⟩
  have hE : (xs.take ((0 : Int) + (xs.length : Int)).toNat).drop (0 : Int).toNat = xs := by
    rw [Int.zero_add, Int.toNat_natCast, List.take_length]; rfl
  rw [hE] at hn2
  obtain ⟨Ac, cc, rfl, hcc⟩ := hn2.slice
  have N2 := Lib.hid hn2
  have T2 := Lib.hid (bl_seq T1.out hn2.bel)
  clear hn2 hE
  go_wp2_with fail
  have hq0 : ((w2.alloc (.cells #[.slice Ac xs.length cc] 22)).alloc (.cells #[.slice none 0 0] 31)).heap[w2.heap.size]? = some (.cells #[.slice Ac xs.length cc] 22 (0, 0)) := blk_alloc (heap_alloc_new w2 _) _
  have hb0 : Below w2.heap.size w2 ((w2.alloc (.cells #[.slice Ac xs.length cc] 22)).alloc (.cells #[.slice none 0 0] 31)) := bl_alloc (bl_alloc (Below.refl _ _) _) _
  have hs0 : ((w2.alloc (.cells #[.slice Ac xs.length cc] 22)).alloc (.cells #[.slice none 0 0] 31)).heap.size = w2.heap.size + 2 := by simp
  have hw0 := WrV.new (w2.alloc (.cells #[.slice Ac xs.length cc] 22))
  rw [show (w2.alloc (.cells #[.slice Ac xs.length cc] 22)).heap.size = w2.heap.size + 1 from by simp] at hw0
  obtain ⟨V, hV⟩ : ∃ V, ((w2.alloc (.cells #[.slice Ac xs.length cc] 22)).alloc (.cells #[.slice none 0 0] 31)) = V := ⟨_, rfl⟩
  rw [hV] at hq0 hb0 hs0 hw0 ⊢
  have B0 := Lib.hid (And.intro hq0 (And.intro hb0 (And.intro hs0 hw0)))
  clear hq0 hb0 hs0 hw0 hV
  refine (Raw_any (w2.heap.size + 1) (w2.heap.size + 1) (.slice none 0 0) [] xs Ac xs.length cc V B0.out.2.2.2 (Nat.le_refl _) (by have h_ := B0.out.2.2.1; omega) (N2.out.reads.below B0.out.2.1) (by simp; omega)).mono ?_
  rintro e w3 ⟨rfl, hw3⟩
  obtain ⟨v3, g3⟩ := hw3
  rw [List.nil_append] at g3
  have G3 := Lib.hid g3
  clear g3
  go_wp2_with fail
  refine (Bytes_any (w2.heap.size + 1) (w2.heap.size + 1) v3 xs w3 G3.out.1 (by omega)).mono ?_
  rintro e w4 ⟨v4, rfl, hn4⟩
  have hn4 : New w3 w4 v4 xs := hn4
  obtain ⟨Ax, cx, rfl, hcx⟩ := hn4.slice
  have N4 := Lib.hid hn4
  clear hn4
  have hb4 : Below (w2.heap.size + 1) V w4 := G3.out.2.2.2.trans (N4.out.bel.mono (by have h_ := G3.out.2.2.2.size; have h2 := B0.out.2.2.1; omega))
  have hqc4 : w4.heap[w2.heap.size]? = some (.cells #[.slice Ac xs.length cc] 22 (0, 0)) := (hb4.block w2.heap.size (by omega)).trans B0.out.1
  have hqp4 : (w4.alloc (.cells #[.slice none 0 0] 22)).heap[w4.heap.size]? = some (.cells #[.slice none 0 0] 22 (0, 0)) := heap_alloc_new w4 _
  have hqc5 := blk_alloc hqc4 (.cells #[.slice none 0 0] 22)
  have hb5 : Below w4.heap.size w4 (w4.alloc (.cells #[.slice none 0 0] 22)) := bl_alloc (Below.refl _ _) _
  have hs5 : (w4.alloc (.cells #[.slice none 0 0] 22)).heap.size = w4.heap.size + 1 := by simp
  have zc : (w4.alloc (.cells #[.slice none 0 0] 22)).cell? ⟨w2.heap.size, 0, none⟩ = some (.slice Ac xs.length cc) := (blk_cell hqc5 0).trans rfl
  have SZ : Hid (w.heap.size ≤ w2.heap.size ∧ w2.heap.size + 2 ≤ w3.heap.size ∧ w3.heap.size ≤ w4.heap.size) := Lib.hid (by have h1 := T2.out.size; have h2 := G3.out.2.2.2.size; have h3 := B0.out.2.2.1; have h4 := N4.out.bel.size; omega)
  go_wp2_with fail
  obtain ⟨U, hU⟩ : ∃ U, w4.alloc (.cells #[.slice none 0 0] 22) = U := ⟨_, rfl⟩
  rw [hU] at hqp4 hqc5 hb5 hs5 ⊢
  have B5 := Lib.hid (And.intro hqp4 (And.intro hqc5 (And.intro hb5 hs5)))
  have B4 := Lib.hid (And.intro hb4 hqc4)
  clear hqp4 hqc5 hb5 hs5 hb4 hqc4 zc hU
  have OC : Hid (U.ownsRow w1.heap.size 5 1 (.slice Ac xs.length cc) xs.length (nums .u8 xs)) := Lib.hid (own_move N2.out.1 (fun g hg => by
    have h1 := (N2.out.1.lt g hg).2
    have h2 := SZ.out
    exact ((B5.out.2.2.1.block g (by omega)).trans (B4.out.1.block g (by omega))).trans (B0.out.2.1.block g (by omega))))
  have RC : Hid (ReadsInt U .u8 Ac xs.length xs) := Lib.hid (own_reads' OC.out)
  refine (read_mods Ac xs.length cc 38 #[.pointer (some ⟨w2.heap.size, 0, none⟩), .pointer (some ⟨w4.heap.size, 0, none⟩)] U (fun i => i = w4.heap.size) (fun w' => ∃ v, w'.heap[w4.heap.size]? = some (.cells #[v] 22 (0, 0)) ∧ w'.ownsRow (U.heap.size + 2) 5 1 v xs.length (nums .u8 xs)) (fun _ => False) Try.f38 Try.func38 (by kernel_rfl) (by kernel_rfl) (by have h_ := B5.out.2.2.2; rintro i rfl; omega) (fun wa wb h k => ?_) (fun _ _ h _ => h) ?_).mono ?_
  · obtain ⟨v, h1, h2⟩ := h
    have h_ := B5.out.2.2.2
    refine ⟨v, k.blk h1 (by omega) (by simp), own_move h2 fun g hg => ?_⟩
    have h3 := h2.lt g hg
    have h4 : wa.heap[g]? = some wa.heap[g] := Array.getElem?_eq_getElem h3.2
    rw [h4]
    exact k.blk h4 (by omega) (by simp)
  · intro wc he hrd hbl hsz
    have h_ := B5.out.2.2.2
    refine (keeps1_any (U.heap.size + 1) w2.heap.size w4.heap.size Ac Ac xs.length cc cc xs wc hrd (RC.out.below hbl) hcc (by omega) (fun a ha => ?_) (blk_below B5.out.2.1 hbl) (blk_below B5.out.1 hbl) (by omega) (by have h1 := SZ.out; omega)).mono ?_
    · have e1 := (N2.out.1.lt a.block (by rw [ha]; rfl)).2
      have h1 := SZ.out
      omega
    · rintro e w' ⟨hM, he2, v, hq1, hq2⟩
      exact ⟨hM, .inl ⟨he2, v, hq1, by rw [← hsz]; exact hq2⟩⟩
  · rintro e w5 ⟨hM, ⟨rfl, v5, hP1, hP2⟩ | ⟨_, hF⟩⟩
    · obtain ⟨Ap, cp, rfl⟩ := own_slice hP2
      have lx := fun g hg => N4.out.1.lt g hg
      have OX : Hid (w5.ownsRow w3.heap.size 5 1 (.slice Ax xs.length cx) xs.length (nums .u8 xs)) := Lib.hid (own_move N4.out.1 (fun g hg => by
        have h1 := (lx g hg).2
        have h2 := B5.out.2.2.2
        exact (hM.block g (by omega) (by omega)).trans (B5.out.2.2.1.block g h1)))
      have OP := Lib.hid hP2
      have QP := Lib.hid hP1
      have QC : Hid (w5.heap[w2.heap.size]? = some (.cells #[.slice Ac xs.length cc] 22 (0, 0))) := Lib.hid (hM.blk B5.out.2.1 (by have h1 := SZ.out; omega))
      have S5 : Hid (U.heap.size ≤ w5.heap.size) := Lib.hid hM.size
      have HM := Lib.hid hM
      have zc : w5.cell? ⟨w2.heap.size, 0, none⟩ = some (.slice Ac xs.length cc) := (blk_cell QC.out 0).trans rfl
      have zp : w5.cell? ⟨w4.heap.size, 0, none⟩ = some (.slice Ap xs.length cp) := (blk_cell hP1 0).trans rfl
      clear hM hP1 hP2 lx
      go_wp2_with fail
      clear zc zp
      go_loopw [10] (fun i wr => ∃ (j : Nat) (ys zs : List Int), j ≤ xs.length ∧ i = .int .i64 (j : Int) ∧ Hid (wr.ownsRow w3.heap.size 5 1 (.slice Ax xs.length cx) xs.length (nums .u8 ys)) ∧ Hid (wr.ownsRow (U.heap.size + 2) 5 1 (.slice Ap xs.length cp) xs.length (nums .u8 zs)) ∧ Hid (Mods (fun g => some g = (Value.slice Ax xs.length cx).ownBlock ∨ some g = (Value.slice Ap xs.length cp).ownBlock) w5 wr)) (fun i _ => xs.length - (intOf i).toNat)
      case atStart => exact ⟨0, xs, xs, Nat.zero_le _, rfl, OX, OP, Lib.hid (Mods.refl _ _)⟩
      case round =>
        obtain ⟨j, ys, zs, hj, rfl, HA, HB, HW⟩ := hrel
        have FX : ∀ g, some g = (Value.slice Ax xs.length cx).ownBlock → w3.heap.size ≤ g ∧ g < w4.heap.size := fun g hg => N4.out.1.lt g hg.symm
        have FP : ∀ g, some g = (Value.slice Ap xs.length cp).ownBlock → U.heap.size + 2 ≤ g := fun g hg => (OP.out.lt g hg.symm).1
        have hqc : wr.heap[w2.heap.size]? = some (.cells #[.slice Ac xs.length cc] 22 (0, 0)) := HW.out.blk QC.out (by have h1 := SZ.out; have h2 := B5.out.2.2.2; rintro (e | e); have h3 := FX _ e; omega; have h3 := FP _ e; omega)
        have hqp : wr.heap[w4.heap.size]? = some (.cells #[.slice Ap xs.length cp] 22 (0, 0)) := HW.out.blk QP.out (by have h1 := SZ.out; have h2 := B5.out.2.2.2; rintro (e | e); have h3 := FX _ e; omega; have h3 := FP _ e; omega)
        have zc : wr.cell? ⟨w2.heap.size, 0, none⟩ = some (.slice Ac xs.length cc) := (blk_cell hqc 0).trans rfl
        have zp : wr.cell? ⟨w4.heap.size, 0, none⟩ = some (.slice Ap xs.length cp) := (blk_cell hqp 0).trans rfl
        by_cases hlt : j < xs.length
        · rcases HA.out.2 with ⟨_, h0⟩ | ⟨gx, kx, curx, ex, _⟩
          · omega
          rcases HB.out.2 with ⟨_, h0⟩ | ⟨gp, kp, curp, ep, _⟩
          · omega
          simp only [Value.slice.injEq] at ex ep
          obtain ⟨rfl, _, rfl⟩ := ex
          obtain ⟨rfl, _, rfl⟩ := ep
          obtain ⟨hx3, hfx⟩ := own_at HA.out (j : Int) (by omega) (by omega)
          obtain ⟨hp3, hfp⟩ := own_at HB.out (j : Int) (by omega) (by omega)
          rw [Int.toNat_natCast] at hx3 hfx hp3 hfp
          obtain ⟨ea, ha⟩ : ∃ a, rd ys (j : Int) = a := ⟨_, rfl⟩
          obtain ⟨eb, hb⟩ : ∃ b, rd zs (j : Int) = b := ⟨_, rfl⟩
          rw [ha] at hx3
          rw [hb] at hp3
          have hne : ¬ gp = gx := by have h1 := FX gx rfl; have h2 := FP gp rfl; have h3 := B5.out.2.2.2; omega
          have hne2 : ¬ gx = gp := Ne.symm hne
          have i0 : (0 : Int) ≤ (j : Int) := by omega
          have i1 : (j : Int) < (xs.length : Int) := by omega
          have HZ := Lib.hid (And.intro FX FP)
          have HNQ := Lib.hid (And.intro hqp (And.intro (show w4.heap.size ≠ gx from by have h1 := FX gx rfl; omega) (show w4.heap.size ≠ gp from by have h1 := FP gp rfl; have h2 := B5.out.2.2.2; omega)))
          clear hqc hqp FX FP
          go_wp2
          -- walk begins
          obtain ⟨a1, ha1⟩ : ∃ a1, IntKind.u8.wrap (ea + 1) = a1 := ⟨_, rfl⟩
          obtain ⟨b1, hb1⟩ : ∃ b1, IntKind.u8.wrap (eb + 1) = b1 := ⟨_, rfl⟩
          have KA := Lib.hid (And.intro ha1 hb1)
          have HAd : wr.drew.ownsRow w3.heap.size 5 1 (.slice (some ⟨gx, 0, none⟩) xs.length cx) xs.length (nums .u8 ys) := HA.out
          have HBd : wr.drew.ownsRow (U.heap.size + 2) 5 1 (.slice (some ⟨gp, 0, none⟩) xs.length cp) xs.length (nums .u8 zs) := HB.out
          have hqd : wr.drew.heap[w4.heap.size]? = some (.cells #[.slice (some ⟨gp, 0, none⟩) xs.length cp] 22 (0, 0)) := HNQ.out.1
          have HWd := Lib.hid (show Mods _ w5 wr.drew from ⟨HW.out.os, HW.out.tape, HW.out.output, HW.out.size, HW.out.block⟩)
          have f1 := own_at HAd (j : Int) (by omega) (by omega)
          have f2 := own_at HBd (j : Int) (by omega) (by omega)
          rw [Int.toNat_natCast, ha] at f1
          rw [Int.toNat_natCast, hb] at f2
          have oa := (own_store HAd (j : Int) a1).1
          rw [Int.toNat_natCast] at oa
          have ob := own_setCell (p := ⟨gx, j, none⟩) HBd (by simp [Value.ownBlock]; exact hne2) (.int .u8 a1)
          have f3 := own_at ob (j : Int) (by omega) (by omega)
          rw [Int.toNat_natCast, hb] at f3
          have ob2 := (own_store ob (j : Int) b1).1
          rw [Int.toNat_natCast] at ob2
          have oa2 := own_setCell (p := ⟨gp, j, none⟩) oa (by simp [Value.ownBlock]; exact hne) (.int .u8 b1)
          have hq1 := blk_far hqd (p := ⟨gx, j, none⟩) HNQ.out.2.1 (.int .u8 a1)
          have hq2 := blk_far hq1 (p := ⟨gp, j, none⟩) HNQ.out.2.2 (.int .u8 b1)
          have KX := Lib.hid (And.intro f1.1 (And.intro f1.2 (And.intro f2.1 (And.intro trivial (And.intro ((blk_cell hq1 0).trans rfl : (wr.drew.setCell ⟨gx, j, none⟩ (.int .u8 a1)).cell? ⟨w4.heap.size, 0, none⟩ = some (.slice (some ⟨gp, 0, none⟩) xs.length cp)) (And.intro f3.1 (And.intro f3.2 ((blk_cell hq2 0).trans rfl : ((wr.drew.setCell ⟨gx, j, none⟩ (.int .u8 a1)).setCell ⟨gp, j, none⟩ (.int .u8 b1)).cell? ⟨w4.heap.size, 0, none⟩ = some (.slice (some ⟨gp, 0, none⟩) xs.length cp)))))))))
          have KO := Lib.hid (And.intro oa2 ob2)
          have ZQ := Lib.hid ((blk_cell hqd 0).trans rfl : wr.drew.cell? ⟨w4.heap.size, 0, none⟩ = some (.slice (some ⟨gp, 0, none⟩) xs.length cp))
          clear f1 f2 f3 oa ob ob2 oa2 hq1 hq2 hqd HAd HBd ha1 hb1 ha hb hx3 hfx hp3 hfp zc zp
          refine start_ (n := 18) (S := fun w' => True) (ds := []) #[false, false, false, false, false, false, false, false, false, false, false, false, false, false, false, false, false, false] (by kernel_rfl) rfl rfl trivial (fun hHeld => ?_)
          refine with_tabW Kp.tab13 Kp.bits13 (fun HT_ HW_ => ?_)
          generalize wr.drew = wq at KX ZQ KO HWd hHeld ⊢
          refine pure_ (i := 0) (N := some 53) (v := ?_) (a' := ?_) #[true, false, false, false, false, false, false, false, false, false, false, false, false, false, false, false, false, false] rfl rfl (any_of HT_.out (by kernel_rfl)) (fun _ _ _ h => h) (Or.inl ⟨by rfl, ?_⟩) ?_ ?_
          rotate_left
          · intro w'
            go_simp
            with_reducible rfl
          rotate_left
          · simp only [Act.put, List.setIfInBounds_toArray, List.set_cons_zero, List.set_cons_succ, i64_w, i32_w]
            rfl
          refine pure_ (i := 1) (N := some 54) (v := ?_) (a' := ?_) #[true, true, false, false, false, false, false, false, false, false, false, false, false, false, false, false, false, false] rfl rfl (any_of HT_.out (by kernel_rfl)) (fun _ _ _ h => h) (Or.inl ⟨by rfl, ?_⟩) ?_ ?_
          rotate_left
          · intro w'
            go_simp
            with_reducible rfl
          rotate_left
          · simp only [Act.put, List.setIfInBounds_toArray, List.set_cons_zero, List.set_cons_succ, i64_w, i32_w]
            rfl
          refine inv_at [2, 3, 4, 5, 6, 7, 8, 9, 10, 11, 12, 13, 14, 15, 16, 17] (fun a0_ b a w' => a = putSel a0_ b [(2, 55, .slice (some ⟨gp, 0, none⟩) xs.length cp), (3, 56, .int .i64 (j : Int)), (4, 57, .slice (some ⟨gx, 0, none⟩) xs.length cx), (5, 58, .int .i64 (j : Int)), (6, 59, .pointer (some ⟨gx, j, none⟩)), (7, 60, .int .u8 ea), (8, 61, .int .u8 a1), (9, 62, .slice (some ⟨gp, 0, none⟩) xs.length cp), (10, 63, .int .i64 (j : Int)), (11, 64, .pointer (some ⟨gp, j, none⟩)), (12, 65, .int .u8 eb), (13, 66, .int .u8 b1), (14, 67, .pointer (some ⟨gx, j, none⟩)), (16, 68, .pointer (some ⟨gp, j, none⟩))] ∧ (w'.cell? ⟨w4.heap.size, 0, none⟩ = some (.slice (some ⟨gp, 0, none⟩) xs.length cp)) ∧ (b 15 = false → b 17 = false → w' = wq) ∧ (b 15 = true → b 17 = false → w' = (wq.setCell ⟨gx, j, none⟩ (.int .u8 a1))) ∧ (b 17 = true → w' = ((wq.setCell ⟨gx, j, none⟩ (.int .u8 a1)).setCell ⟨gp, j, none⟩ (.int .u8 b1)))) HT_.out HW_.out (by kernel_rfl) (by kernel_rfl) ?_ ?_ ?_
          · exact ⟨by simp only [putSel, Bool.false_eq_true, if_false], ZQ.out, fun _ _ => rfl, fun h_ => absurd h_ (by decide), fun h_ => absurd h_ (by decide)⟩
          · skip
            clear ZQ
            refine steps_cons ?_ ?_
            · rintro b a w' ⟨ha, Q_ZQ, Q_E0, Q_E1, Q_E2⟩ hb_ hon hoff
              refine ⟨_, rfl, fun K hK => ?_⟩
              have e8 : a.tmps[8]? = some (.pointer (some ⟨w4.heap.size, 0, none⟩)) := by rw [ha]; exact (putSel_off rfl).trans rfl
              replace ha := Aside0.mk ha
              have ZQ := Aside0.mk Q_ZQ
              have hq_ := ZQ.out
              refine value_ (w1 := w') (v := .slice (some ⟨gp, 0, none⟩) xs.length cp) (by rfl) rfl ?_ ?_
              · go_simp
                (try simp only [i64_w])
                try rfl
              refine hK.out _ _ ⟨(by rw [ha.out]; exact putSel_upk 0 hb_ rfl rfl rfl), Q_ZQ, Q_E0, Q_E1, fun h0_ => absurd ((hoff 17 (by kernel_rfl)).symm.trans h0_) (by decide)⟩
            refine steps_cons ?_ ?_
            · rintro b a w' ⟨ha, Q_ZQ, Q_E0, Q_E1, Q_E2⟩ hb_ hon hoff
              refine ⟨_, rfl, fun K hK => ?_⟩
              have e10 : a.tmps[10]? = some (.int .i64 (j : Int)) := by rw [ha]; exact (putSel_off rfl).trans rfl
              replace ha := Aside0.mk ha
              have ZQ := Aside0.mk Q_ZQ
              refine value_ (w1 := w') (v := .int .i64 (j : Int)) (by rfl) rfl ?_ ?_
              · go_simp
                (try simp only [i64_w])
                try rfl
              refine hK.out _ _ ⟨(by rw [ha.out]; exact putSel_upk 1 hb_ rfl rfl rfl), Q_ZQ, Q_E0, Q_E1, fun h0_ => absurd ((hoff 17 (by kernel_rfl)).symm.trans h0_) (by decide)⟩
            refine steps_cons ?_ ?_
            · rintro b a w' ⟨ha, Q_ZQ, Q_E0, Q_E1, Q_E2⟩ hb_ hon hoff
              refine ⟨_, rfl, fun K hK => ?_⟩
              have e7 : a.tmps[7]? = some (.slice (some ⟨gx, 0, none⟩) xs.length cx) := by rw [ha]; exact (putSel_off rfl).trans rfl
              replace ha := Aside0.mk ha
              have ZQ := Aside0.mk Q_ZQ
              have E0 := Aside0.mk (Q_E0 (hoff 15 (by kernel_rfl)) (hoff 17 (by kernel_rfl)))
              refine value_ (w1 := w') (v := .slice (some ⟨gx, 0, none⟩) xs.length cx) (by rfl) rfl ?_ ?_
              · go_simp
                (try simp only [i64_w])
                try rfl
              refine hK.out _ _ ⟨(by rw [ha.out]; exact putSel_upk 2 hb_ rfl rfl rfl), Q_ZQ, Q_E0, fun h0_ _ => absurd ((hoff 15 (by kernel_rfl)).symm.trans h0_) (by decide), fun h0_ => absurd ((hoff 17 (by kernel_rfl)).symm.trans h0_) (by decide)⟩
            refine steps_cons ?_ ?_
            · rintro b a w' ⟨ha, Q_ZQ, Q_E0, Q_E1, Q_E2⟩ hb_ hon hoff
              refine ⟨_, rfl, fun K hK => ?_⟩
              have e10 : a.tmps[10]? = some (.int .i64 (j : Int)) := by rw [ha]; exact (putSel_off rfl).trans rfl
              replace ha := Aside0.mk ha
              have ZQ := Aside0.mk Q_ZQ
              have E0 := Aside0.mk (Q_E0 (hoff 15 (by kernel_rfl)) (hoff 17 (by kernel_rfl)))
              refine value_ (w1 := w') (v := .int .i64 (j : Int)) (by rfl) rfl ?_ ?_
              · go_simp
                (try simp only [i64_w])
                try rfl
              refine hK.out _ _ ⟨(by rw [ha.out]; exact putSel_upk 3 hb_ rfl rfl rfl), Q_ZQ, Q_E0, fun h0_ _ => absurd ((hoff 15 (by kernel_rfl)).symm.trans h0_) (by decide), fun h0_ => absurd ((hoff 17 (by kernel_rfl)).symm.trans h0_) (by decide)⟩
            refine steps_cons ?_ ?_
            · rintro b a w' ⟨ha, Q_ZQ, Q_E0, Q_E1, Q_E2⟩ hb_ hon hoff
              refine ⟨_, rfl, fun K hK => ?_⟩
              have e57 : a.tmps[57]? = some (.slice (some ⟨gx, 0, none⟩) xs.length cx) := by rw [ha]; exact putSel_on (e := (4, 57, .slice (some ⟨gx, 0, none⟩) xs.length cx)) 2 rfl rfl (hon 4 (by kernel_rfl)) rfl
              have e58 : a.tmps[58]? = some (.int .i64 (j : Int)) := by rw [ha]; exact putSel_on (e := (5, 58, .int .i64 (j : Int))) 3 rfl rfl (hon 5 (by kernel_rfl)) rfl
              replace ha := Aside0.mk ha
              have ZQ := Aside0.mk Q_ZQ
              have E0 := Aside0.mk (Q_E0 (hoff 15 (by kernel_rfl)) (hoff 17 (by kernel_rfl)))
              refine value_ (w1 := w') (v := .pointer (some ⟨gx, j, none⟩)) (by rfl) rfl ?_ ?_
              · go_simp
                (try simp only [i64_w])
                try rfl
              refine hK.out _ _ ⟨(by rw [ha.out]; exact putSel_upk 4 hb_ rfl rfl rfl), Q_ZQ, Q_E0, fun h0_ _ => absurd ((hoff 15 (by kernel_rfl)).symm.trans h0_) (by decide), fun h0_ => absurd ((hoff 17 (by kernel_rfl)).symm.trans h0_) (by decide)⟩
            refine steps_cons ?_ ?_
            · rintro b a w' ⟨ha, Q_ZQ, Q_E0, Q_E1, Q_E2⟩ hb_ hon hoff
              refine ⟨_, rfl, fun K hK => ?_⟩
              have e59 : a.tmps[59]? = some (.pointer (some ⟨gx, j, none⟩)) := by rw [ha]; exact putSel_on (e := (6, 59, .pointer (some ⟨gx, j, none⟩))) 4 rfl rfl (hon 6 (by kernel_rfl)) rfl
              replace ha := Aside0.mk ha
              have ZQ := Aside0.mk Q_ZQ
              have E0 := Aside0.mk (Q_E0 (hoff 15 (by kernel_rfl)) (hoff 17 (by kernel_rfl)))
              have hx_ : w'.cell? ⟨gx, j, none⟩ = some (.int .u8 ea) := by rw [E0.out]; exact KX.out.1
              refine value_ (w1 := w') (v := .int .u8 ea) (by rfl) rfl ?_ ?_
              · go_simp
                (try simp only [i64_w])
                try rfl
              refine hK.out _ _ ⟨(by rw [ha.out]; exact putSel_upk 5 hb_ rfl rfl rfl), Q_ZQ, Q_E0, fun h0_ _ => absurd ((hoff 15 (by kernel_rfl)).symm.trans h0_) (by decide), fun h0_ => absurd ((hoff 17 (by kernel_rfl)).symm.trans h0_) (by decide)⟩
            refine steps_cons ?_ ?_
            · rintro b a w' ⟨ha, Q_ZQ, Q_E0, Q_E1, Q_E2⟩ hb_ hon hoff
              refine ⟨_, rfl, fun K hK => ?_⟩
              have e60 : a.tmps[60]? = some (.int .u8 ea) := by rw [ha]; exact putSel_on (e := (7, 60, .int .u8 ea)) 5 rfl rfl (hon 7 (by kernel_rfl)) rfl
              replace ha := Aside0.mk ha
              have ZQ := Aside0.mk Q_ZQ
              have E0 := Aside0.mk (Q_E0 (hoff 15 (by kernel_rfl)) (hoff 17 (by kernel_rfl)))
              have ha1_ := KA.out.1
              refine value_ (w1 := w') (v := .int .u8 a1) (by rfl) rfl ?_ ?_
              · go_simp
                (try simp only [i64_w])
                try rfl
              refine hK.out _ _ ⟨(by rw [ha.out]; exact putSel_upk 6 hb_ rfl rfl rfl), Q_ZQ, Q_E0, fun h0_ _ => absurd ((hoff 15 (by kernel_rfl)).symm.trans h0_) (by decide), fun h0_ => absurd ((hoff 17 (by kernel_rfl)).symm.trans h0_) (by decide)⟩
            refine steps_cons ?_ ?_
            · rintro b a w' ⟨ha, Q_ZQ, Q_E0, Q_E1, Q_E2⟩ hb_ hon hoff
              refine ⟨_, rfl, fun K hK => ?_⟩
              have e8 : a.tmps[8]? = some (.pointer (some ⟨w4.heap.size, 0, none⟩)) := by rw [ha]; exact (putSel_off rfl).trans rfl
              replace ha := Aside0.mk ha
              have ZQ := Aside0.mk Q_ZQ
              have E0 := Aside0.mk (Q_E0 (hoff 15 (by kernel_rfl)) (hoff 17 (by kernel_rfl)))
              have hq_ := ZQ.out
              refine value_ (w1 := w') (v := .slice (some ⟨gp, 0, none⟩) xs.length cp) (by rfl) rfl ?_ ?_
              · go_simp
                (try simp only [i64_w])
                try rfl
              refine hK.out _ _ ⟨(by rw [ha.out]; exact putSel_upk 7 hb_ rfl rfl rfl), Q_ZQ, Q_E0, fun h0_ _ => absurd ((hoff 15 (by kernel_rfl)).symm.trans h0_) (by decide), fun h0_ => absurd ((hoff 17 (by kernel_rfl)).symm.trans h0_) (by decide)⟩
            refine steps_cons ?_ ?_
            · rintro b a w' ⟨ha, Q_ZQ, Q_E0, Q_E1, Q_E2⟩ hb_ hon hoff
              refine ⟨_, rfl, fun K hK => ?_⟩
              have e10 : a.tmps[10]? = some (.int .i64 (j : Int)) := by rw [ha]; exact (putSel_off rfl).trans rfl
              replace ha := Aside0.mk ha
              have ZQ := Aside0.mk Q_ZQ
              have E0 := Aside0.mk (Q_E0 (hoff 15 (by kernel_rfl)) (hoff 17 (by kernel_rfl)))
              refine value_ (w1 := w') (v := .int .i64 (j : Int)) (by rfl) rfl ?_ ?_
              · go_simp
                (try simp only [i64_w])
                try rfl
              refine hK.out _ _ ⟨(by rw [ha.out]; exact putSel_upk 8 hb_ rfl rfl rfl), Q_ZQ, Q_E0, fun h0_ _ => absurd ((hoff 15 (by kernel_rfl)).symm.trans h0_) (by decide), fun h0_ => absurd ((hoff 17 (by kernel_rfl)).symm.trans h0_) (by decide)⟩
            refine steps_cons ?_ ?_
            · rintro b a w' ⟨ha, Q_ZQ, Q_E0, Q_E1, Q_E2⟩ hb_ hon hoff
              refine ⟨_, rfl, fun K hK => ?_⟩
              have e62 : a.tmps[62]? = some (.slice (some ⟨gp, 0, none⟩) xs.length cp) := by rw [ha]; exact putSel_on (e := (9, 62, .slice (some ⟨gp, 0, none⟩) xs.length cp)) 7 rfl rfl (hon 9 (by kernel_rfl)) rfl
              have e63 : a.tmps[63]? = some (.int .i64 (j : Int)) := by rw [ha]; exact putSel_on (e := (10, 63, .int .i64 (j : Int))) 8 rfl rfl (hon 10 (by kernel_rfl)) rfl
              replace ha := Aside0.mk ha
              have ZQ := Aside0.mk Q_ZQ
              have E0 := Aside0.mk (Q_E0 (hoff 15 (by kernel_rfl)) (hoff 17 (by kernel_rfl)))
              refine value_ (w1 := w') (v := .pointer (some ⟨gp, j, none⟩)) (by rfl) rfl ?_ ?_
              · go_simp
                (try simp only [i64_w])
                try rfl
              refine hK.out _ _ ⟨(by rw [ha.out]; exact putSel_upk 9 hb_ rfl rfl rfl), Q_ZQ, Q_E0, fun h0_ _ => absurd ((hoff 15 (by kernel_rfl)).symm.trans h0_) (by decide), fun h0_ => absurd ((hoff 17 (by kernel_rfl)).symm.trans h0_) (by decide)⟩
            refine steps_cons ?_ ?_
            · rintro b a w' ⟨ha, Q_ZQ, Q_E0, Q_E1, Q_E2⟩ hb_ hon hoff
              refine ⟨_, rfl, fun K hK => ?_⟩
              have e64 : a.tmps[64]? = some (.pointer (some ⟨gp, j, none⟩)) := by rw [ha]; exact putSel_on (e := (11, 64, .pointer (some ⟨gp, j, none⟩))) 9 rfl rfl (hon 11 (by kernel_rfl)) rfl
              replace ha := Aside0.mk ha
              have ZQ := Aside0.mk Q_ZQ
              have E0 := Aside0.mk (Q_E0 (hoff 15 (by kernel_rfl)) (hoff 17 (by kernel_rfl)))
              have hp_ : w'.cell? ⟨gp, j, none⟩ = some (.int .u8 eb) := by rw [E0.out]; exact KX.out.2.2.1
              refine value_ (w1 := w') (v := .int .u8 eb) (by rfl) rfl ?_ ?_
              · go_simp
                (try simp only [i64_w])
                try rfl
              refine hK.out _ _ ⟨(by rw [ha.out]; exact putSel_upk 10 hb_ rfl rfl rfl), Q_ZQ, Q_E0, fun h0_ _ => absurd ((hoff 15 (by kernel_rfl)).symm.trans h0_) (by decide), fun h0_ => absurd ((hoff 17 (by kernel_rfl)).symm.trans h0_) (by decide)⟩
            refine steps_cons ?_ ?_
            · rintro b a w' ⟨ha, Q_ZQ, Q_E0, Q_E1, Q_E2⟩ hb_ hon hoff
              refine ⟨_, rfl, fun K hK => ?_⟩
              have e65 : a.tmps[65]? = some (.int .u8 eb) := by rw [ha]; exact putSel_on (e := (12, 65, .int .u8 eb)) 10 rfl rfl (hon 12 (by kernel_rfl)) rfl
              replace ha := Aside0.mk ha
              have ZQ := Aside0.mk Q_ZQ
              have hb1_ := KA.out.2
              refine value_ (w1 := w') (v := .int .u8 b1) (by rfl) rfl ?_ ?_
              · go_simp
                (try simp only [i64_w])
                try rfl
              refine hK.out _ _ ⟨(by rw [ha.out]; exact putSel_upk 11 hb_ rfl rfl rfl), Q_ZQ, Q_E0, Q_E1, fun h0_ => absurd ((hoff 17 (by kernel_rfl)).symm.trans h0_) (by decide)⟩
            refine steps_cons ?_ ?_
            · rintro b a w' ⟨ha, Q_ZQ, Q_E0, Q_E1, Q_E2⟩ hb_ hon hoff
              refine ⟨_, rfl, fun K hK => ?_⟩
              have e53 : a.tmps[53]? = some (.slice (some ⟨gx, 0, none⟩) xs.length cx) := by rw [ha]; exact (putSel_off rfl).trans rfl
              have e54 : a.tmps[54]? = some (.int .i64 (j : Int)) := by rw [ha]; exact (putSel_off rfl).trans rfl
              replace ha := Aside0.mk ha
              have ZQ := Aside0.mk Q_ZQ
              have E0 := Aside0.mk (Q_E0 (hoff 15 (by kernel_rfl)) (hoff 17 (by kernel_rfl)))
              refine value_ (w1 := w') (v := .pointer (some ⟨gx, j, none⟩)) (by rfl) rfl ?_ ?_
              · go_simp
                (try simp only [i64_w])
                try rfl
              refine hK.out _ _ ⟨(by rw [ha.out]; exact putSel_upk 12 hb_ rfl rfl rfl), Q_ZQ, Q_E0, fun h0_ _ => absurd ((hoff 15 (by kernel_rfl)).symm.trans h0_) (by decide), fun h0_ => absurd ((hoff 17 (by kernel_rfl)).symm.trans h0_) (by decide)⟩
            refine steps_cons ?_ ?_
            · rintro b a w' ⟨ha, Q_ZQ, Q_E0, Q_E1, Q_E2⟩ hb_ hon hoff
              refine ⟨_, rfl, fun K hK => ?_⟩
              have e67 : a.tmps[67]? = some (.pointer (some ⟨gx, j, none⟩)) := by rw [ha]; exact putSel_on (e := (14, 67, .pointer (some ⟨gx, j, none⟩))) 12 rfl rfl (hon 14 (by kernel_rfl)) rfl
              have e61 : a.tmps[61]? = some (.int .u8 a1) := by rw [ha]; exact putSel_on (e := (8, 61, .int .u8 a1)) 6 rfl rfl (hon 8 (by kernel_rfl)) rfl
              replace ha := Aside0.mk ha
              have ZQ := Aside0.mk Q_ZQ
              have E0 := Aside0.mk (Q_E0 hb_ (hoff 17 (by kernel_rfl)))
              obtain rfl := E0.out
              have hx_ := KX.out.1
              have hf_ := KX.out.2.1
              refine skip_ (w1 := (w'.setCell ⟨gx, j, none⟩ (.int .u8 a1))) (by rfl) rfl ?_ ?_
              · go_simp
                try simp only [hx_, hf_]
                try rfl
              refine hK.out _ _ ⟨(by rw [ha.out]; exact putSel_none (v := undef) rfl), KX.out.2.2.2.2.1, fun h0_ _ => absurd ((up_self b 15).symm.trans h0_) (by decide), fun _ _ => rfl, fun h0_ => absurd ((hoff 17 (by kernel_rfl)).symm.trans h0_) (by decide)⟩
            refine steps_cons ?_ ?_
            · rintro b a w' ⟨ha, Q_ZQ, Q_E0, Q_E1, Q_E2⟩ hb_ hon hoff
              refine ⟨_, rfl, fun K hK => ?_⟩
              have e55 : a.tmps[55]? = some (.slice (some ⟨gp, 0, none⟩) xs.length cp) := by rw [ha]; exact putSel_on (e := (2, 55, .slice (some ⟨gp, 0, none⟩) xs.length cp)) 0 rfl rfl (hon 2 (by kernel_rfl)) rfl
              have e56 : a.tmps[56]? = some (.int .i64 (j : Int)) := by rw [ha]; exact putSel_on (e := (3, 56, .int .i64 (j : Int))) 1 rfl rfl (hon 3 (by kernel_rfl)) rfl
              replace ha := Aside0.mk ha
              have ZQ := Aside0.mk Q_ZQ
              have E1 := Aside0.mk (Q_E1 (hon 15 (by kernel_rfl)) (hoff 17 (by kernel_rfl)))
              refine value_ (w1 := w') (v := .pointer (some ⟨gp, j, none⟩)) (by rfl) rfl ?_ ?_
              · go_simp
                (try simp only [i64_w])
                try rfl
              refine hK.out _ _ ⟨(by rw [ha.out]; exact putSel_upk 13 hb_ rfl rfl rfl), Q_ZQ, fun h0_ _ => absurd ((hon 15 (by kernel_rfl)).symm.trans h0_) (by decide), Q_E1, fun h0_ => absurd ((hoff 17 (by kernel_rfl)).symm.trans h0_) (by decide)⟩
            refine steps_cons ?_ ?_
            · rintro b a w' ⟨ha, Q_ZQ, Q_E0, Q_E1, Q_E2⟩ hb_ hon hoff
              refine ⟨_, rfl, fun K hK => ?_⟩
              have e68 : a.tmps[68]? = some (.pointer (some ⟨gp, j, none⟩)) := by rw [ha]; exact putSel_on (e := (16, 68, .pointer (some ⟨gp, j, none⟩))) 13 rfl rfl (hon 16 (by kernel_rfl)) rfl
              have e66 : a.tmps[66]? = some (.int .u8 b1) := by rw [ha]; exact putSel_on (e := (13, 66, .int .u8 b1)) 11 rfl rfl (hon 13 (by kernel_rfl)) rfl
              replace ha := Aside0.mk ha
              have ZQ := Aside0.mk Q_ZQ
              have E1 := Aside0.mk (Q_E1 (hon 15 (by kernel_rfl)) hb_)
              obtain rfl := E1.out
              have hp_ := KX.out.2.2.2.2.2.1
              have hf_ := KX.out.2.2.2.2.2.2.1
              refine skip_ (w1 := ((wq.setCell ⟨gx, j, none⟩ (.int .u8 a1)).setCell ⟨gp, j, none⟩ (.int .u8 b1))) (by rfl) rfl ?_ ?_
              · go_simp
                try simp only [hp_, hf_]
                try rfl
              refine hK.out _ _ ⟨(by rw [ha.out]; exact putSel_none (v := undef) rfl), KX.out.2.2.2.2.2.2.2, fun _ h1_ => absurd ((up_self b 17).symm.trans h1_) (by decide), fun _ h1_ => absurd ((up_self b 17).symm.trans h1_) (by decide), fun _ => rfl⟩
            exact steps_nil
          · rintro b a w' hall ⟨ha, Q_ZQ, Q_E0, Q_E1, Q_E2⟩
            clear ZQ
            have hb2_ := hall 2 (by kernel_rfl)
            have hb3_ := hall 3 (by kernel_rfl)
            have hb4_ := hall 4 (by kernel_rfl)
            have hb5_ := hall 5 (by kernel_rfl)
            have hb6_ := hall 6 (by kernel_rfl)
            have hb7_ := hall 7 (by kernel_rfl)
            have hb8_ := hall 8 (by kernel_rfl)
            have hb9_ := hall 9 (by kernel_rfl)
            have hb10_ := hall 10 (by kernel_rfl)
            have hb11_ := hall 11 (by kernel_rfl)
            have hb12_ := hall 12 (by kernel_rfl)
            have hb13_ := hall 13 (by kernel_rfl)
            have hb14_ := hall 14 (by kernel_rfl)
            have hb15_ := hall 15 (by kernel_rfl)
            have hb16_ := hall 16 (by kernel_rfl)
            have hb17_ := hall 17 (by kernel_rfl)
            subst ha
            simp only [putSel, hb2_, hb3_, hb4_, hb5_, hb6_, hb7_, hb8_, hb9_, hb10_, hb11_, hb12_, hb13_, hb14_, hb15_, hb16_, hb17_, if_true, Act.put, List.setIfInBounds_toArray, List.set_cons_zero, List.set_cons_succ]
            have ZQ := Aside0.mk Q_ZQ
            clear Q_ZQ
            clear Q_E0
            clear Q_E1
            have E2 := Aside0.mk (Q_E2 hb17_)
            clear Q_E2
            clear hall hb2_ hb3_ hb4_ hb5_ hb6_ hb7_ hb8_ hb9_ hb10_ hb11_ hb12_ hb13_ hb14_ hb15_ hb16_ hb17_
            have e2 := E2.out
            clear ZQ E2
            subst e2
            go_wp2
            go_roundw
            case rel => exact ⟨j + 1, _, _, by omega, by go_num, Lib.hid KO.out.1, Lib.hid KO.out.2, Lib.hid ((HWd.out.at_ (.inl (.inl rfl)) j _).at_ (.inl (.inr rfl)) j _)⟩
            case measure => simp [intOf]; omega
          -- walk ends
        · have tb4 : Below w.heap.size w w4 := (bl_seq T2.out B0.out.2.1).trans (B4.out.1.mono (by have h1 := SZ.out; omega))
          have tb5 : Below w.heap.size w w5 := (bl_seq tb4 B5.out.2.2.1).trans (HM.out.below (B := w.heap.size) (by have h1 := SZ.out; have h2 := B5.out.2.2.2; omega) (by have h1 := SZ.out; rintro i rfl; omega))
          have tbr : Below w.heap.size w wr := tb5.trans (HW.out.below (B := w.heap.size) tb5.size (by have h1 := SZ.out; have h2 := B5.out.2.2.2; rintro i (e | e); have h3 := FX _ e; omega; have h3 := FP _ e; omega))
          have rc5 := HM.out.reads RC.out (fun a ha => by have h1 := (N2.out.1.lt a.block (by rw [ha]; rfl)).2; have h2 := SZ.out; omega)
          have rcr := HW.out.reads rc5 (fun a ha => by have h1 := (N2.out.1.lt a.block (by rw [ha]; rfl)).2; have h2 := SZ.out; have h5 := B5.out.2.2.2; rintro (e | e); have h3 := FX _ e; omega; have h3 := FP _ e; omega)
          have wu : WrV U (w2.heap.size + 1) (w2.heap.size + 1) v3 xs := (G3.out.1.below N4.out.bel).below B5.out.2.2.1
          have w3l : ∀ g, v3.ownBlock = some g → g < w3.heap.size := fun g hg => (G3.out.1.own.lt g hg).2
          have wwr : WrV wr (w2.heap.size + 1) (w2.heap.size + 1) v3 xs := by
            have h2 := SZ.out
            have h5 := B5.out.2.2.2
            have b5 := HM.out.blk wu.blk (by omega)
            refine ⟨HW.out.blk b5 (by rintro (e | e); have h3 := FX _ e; omega; have h3 := FP _ e; omega), own_move wu.own fun g hg => ?_⟩
            have h1 := w3l g hg
            have h6 := S5.out
            refine (HW.out.block g (by omega) (by rintro (e | e); have h3 := FX _ e; omega; have h3 := FP _ e; omega)).trans (HM.out.block g (by omega) (by omega))
          have HE := Lib.hid (And.intro tbr (And.intro rcr wwr))
          have HQC := Lib.hid hqc
          clear tb4 tb5 tbr rc5 rcr wu w3l wwr FX FP hqc hqp HA HB
          go_wp2_with fail
          refine (read_nil A xs.length c wr).mono ?_
          rintro e w6 ⟨rfl, hb6⟩
          have B6 := Lib.hid hb6
          have zc : w6.cell? ⟨w2.heap.size, 0, none⟩ = some (.slice Ac xs.length cc) := (blk_cell (blk_below HQC.out hb6) 0).trans rfl
          clear hb6
          go_wp2_with fail
          refine (same_self xs Ac A xs.length xs.length cc c w6 (HE.out.2.1.below B6.out) ((HX.out.1.below HE.out.1).below B6.out) HX.out.2.1).mono ?_
          rintro e w7 ⟨rfl, hd7⟩
          have T7 := Lib.hid (bl_seq B6.out hd7.below)
          clear hd7 zc
          go_wp2_with fail
          refine (Bytes_any (w2.heap.size + 1) (w2.heap.size + 1) v3 xs w7 (HE.out.2.2.below T7.out) (by omega)).mono ?_
          rintro e w8 ⟨v8, rfl, hn8⟩
          have hn8 : New w7 w8 v8 xs := hn8
          obtain ⟨A8, c8, rfl, _⟩ := hn8.slice
          have N8 := Lib.hid hn8
          have T8 := Lib.hid (bl_seq T7.out hn8.bel)
          clear hn8
          go_wp2_with fail
          refine (same_self xs A8 A xs.length xs.length c8 c w8 N8.out.reads ((HX.out.1.below HE.out.1).below T8.out) HX.out.2.1).mono ?_
          rintro e w9 ⟨rfl, hd9⟩
          have T9 := Lib.hid (bl_seq T8.out hd9.below)
          clear hd9
          go_wp2_with fail
          refine (U64_nil [x] (some ⟨w9.heap.size, 0, none⟩) 1 _ (reads_box w9 .u64 [x] 1 37 rfl (by omega))).mono ?_
          rintro e w10 ⟨rfl, hb10⟩
          have T10 := Lib.hid (bl_seq (bl_alloc T9.out (.cells #[.int .u64 x] 37)) hb10)
          clear hb10
          go_wp2_with fail
          refine (Raw_nil _ _ _ _).mono ?_
          rintro e w11 ⟨rfl, rfl⟩
          go_wp2_with fail
          refine (Pad_nil _ _).mono ?_
          rintro e w11 ⟨rfl, rfl⟩
          go_wp2_with fail
          refine (Text_nil _ _ (by decide) (by decide)).mono ?_
          rintro e w12 ⟨rfl, hb12⟩
          have T12 := Lib.hid (bl_seq T10.out hb12)
          clear hb12
          go_wp2_with fail
          refine (Bytes_nil _).mono ?_
          rintro e w13 ⟨rfl, rfl⟩
          go_wp2_with fail
          refine (mLeft_nil _).mono ?_
          rintro e w13 ⟨rfl, rfl⟩
          go_wp2_with fail
          refine (mZero_nil _).mono ?_
          rintro e w13 ⟨rfl, rfl⟩
          go_wp2_with fail
          go_ret
          exact ⟨by simp, bl_seq HE.out.1 T12.out⟩
    · exact hF.elim
theorem keeps_all (xs : List Int) (A : Option Addr) (c : Nat) (x : Int) (w : World) (hr : ReadsInt w .u8 A xs.length xs) (hy : Byt xs) (hc : xs.length ≤ c) (fA : ∀ a, A = some a → a.block < w.heap.size) :
    Calls Try.prog 8 #[.slice A xs.length c, .int .u64 x] w fun e w' => e = .returned (.bool true) ∧ Below w.heap.size w w' := by
  by_cases hl : 500 < xs.length
  · exact keeps_heavy xs.length A c x w hr.2.1 hl
  · exact keeps_walk xs A c x w hr hy hc fA (by omega)
end Go.Proofs.Ythmhbnpaalgdfaa
