import Derived.Test.YthmhbnpaalgdfaaLaid
namespace Go.Proofs.Ythmhbnpaalgdfaa
open Go.RowKit Go.Proofs.YthmhbnpaalgdfaaW.PrintWords
theorem WrV.below_at {w w' : World} {base p B : Nat} {v : Value} {l : List Int} (h : WrV w base p v l) (hB : w.heap.size = B) (hb : Below B w w') : WrV w' base p v l := by
  subst hB; exact h.below hb
theorem les_append (n : Nat) (xs ys : List Int) : les n (xs ++ ys) = les n xs ++ les n ys := by simp [les]
theorem les1 (xs : List Int) (h : Byt xs) : les 1 xs = xs := by
  induction xs with
  | nil => rfl
  | cons x xs ih =>
    have h1 := h x (by simp)
    have h2 := ih fun y hy => h y (by simp [hy])
    simp only [les, List.flatMap_cons, le] at h2 ⊢
    rw [h2, show x % 256 = x by omega]
    rfl
theorem les_byt (n : Nat) (xs : List Int) : Byt (les n xs) := by
  intro y hy
  simp only [les, List.mem_flatMap] at hy
  obtain ⟨x, _, hx⟩ := hy
  exact le_byt x n y hx
theorem Byt.append {xs ys : List Int} (h : Byt xs) (k : Byt ys) : Byt (xs ++ ys) := fun y hy => (List.mem_append.1 hy).elim (h y) (k y)
set_option maxHeartbeats 4000000 in
set_option maxRecDepth 100000 in
theorem many_walk (xs ys zs us : List Int) (A B C D : Option Addr) (ca cb cc cd : Nat) (w : World) (hx : ReadsInt w .u8 A xs.length xs) (hy : ReadsInt w .u16 B ys.length ys) (hz : ReadsInt w .u32 C zs.length zs) (hu : ReadsInt w .u64 D us.length us)
    (bx : ∀ x ∈ xs, 0 ≤ x ∧ x < 256) (by_ : ∀ x ∈ ys, 0 ≤ x ∧ x < 65536) (bz : ∀ x ∈ zs, 0 ≤ x ∧ x < 4294967296) (bu : ∀ x ∈ us, 0 ≤ x ∧ x < 18446744073709551616)
    (lx : xs.length ≤ 140737488351232) (ly : ys.length ≤ 140737488351232) (lz : zs.length ≤ 140737488351232) (lu : us.length ≤ 140737488351232) :
    Calls Try.prog 3 #[.agg #[.slice A xs.length ca, .slice B ys.length cb, .slice C zs.length cc, .slice D us.length cd]] w fun e w' => e = .returned (.bool true) ∧ Below w.heap.size w w' := by
  have HX := Lib.hid hx
  have HY := Lib.hid hy
  have HZ := Lib.hid hz
  have HU := Lib.hid hu
  have BX := Lib.hid bx
  have BY := Lib.hid by_
  have BZ := Lib.hid bz
  have BU := Lib.hid bu
  clear hx hy hz hu bx by_ bz bu
  go_enter Try.func3, Try.ntmps3
  go_wp2_with fail
  go_quiet (fail)
  go_wp2_with fail
  with_reducible refine (laid_any _).mono ?_
  rintro e w1 ⟨rfl, hb1⟩
  have H1 : Hid (Below w.heap.size w w1) := Lib.hid (bl_seq (by repeat (first | exact Below.refl _ _ | apply bl_alloc | apply bl_drew | apply bl_drewN)) hb1)
  clear hb1
  by_cases hlt : 200 < (xs.length : Int) + ys.length + zs.length + us.length
  · go_wp2_with fail
    with_reducible refine (laid_any _).mono ?_
    rintro e w2 ⟨rfl, hb2⟩
    have H2 := Lib.hid (bl_seq H1.out hb2)
    clear hb2
    go_wp2_with fail
    go_ret
    exact ⟨rfl, H2.out⟩
  · have l1 : xs.length ≤ 200 := by omega
    have l2 : ys.length ≤ 200 := by omega
    have l3 : zs.length ≤ 200 := by omega
    have l4 : us.length ≤ 200 := by omega
    go_wp2_with fail
    refine (U8_any w1.heap.size w1.heap.size (.slice none 0 0) [] xs A ca _ (WrV.new w1) (Nat.le_refl _) (by simp) (HX.out.below (bl_alloc H1.out _)) BX.out (reads_far HX.out H1.out.size (Nat.le_refl _) (WrV.new w1)) (by simp; omega)).mono ?_
    rintro e w2 ⟨rfl, hw2⟩
    obtain ⟨v2, g2⟩ := hw2
    have T2 := Lib.hid (bl_step (bl_alloc H1.out _) g2.2.2.2 H1.out.size)
    have G2 := Lib.hid g2
    clear g2
    go_wp2_with fail
    with_reducible refine (U16_any w1.heap.size w1.heap.size v2 _ ys B cb w2 G2.out.1 (Nat.le_refl _) (by have h_ := G2.out.2.2.2.size; simp at h_; omega) (HY.out.below T2.out) BY.out (reads_far HY.out H1.out.size (Nat.le_refl _) G2.out.1) (by simp [les_length]; omega)).mono ?_
    rintro e w3 ⟨rfl, hw3⟩
    obtain ⟨v3, g3⟩ := WrS.to G2.out hw3
    have T3 := Lib.hid (bl_step (bl_alloc H1.out _) g3.2.2.2 H1.out.size)
    have G3 := Lib.hid g3
    clear g3 hw3 G2 T2
    go_wp2_with fail
    with_reducible refine (U32_any w1.heap.size w1.heap.size v3 _ zs C cc w3 G3.out.1 (Nat.le_refl _) (by have h_ := G3.out.2.2.2.size; simp at h_; omega) (HZ.out.below T3.out) BZ.out (reads_far HZ.out H1.out.size (Nat.le_refl _) G3.out.1) (by simp [les_length]; omega)).mono ?_
    rintro e w4 ⟨rfl, hw4⟩
    obtain ⟨v4, g4⟩ := WrS.to G3.out hw4
    have T4 := Lib.hid (bl_step (bl_alloc H1.out _) g4.2.2.2 H1.out.size)
    have G4 := Lib.hid g4
    clear g4 hw4 G3 T3
    go_wp2_with fail
    with_reducible refine (U64_any w1.heap.size w1.heap.size v4 _ us D cd w4 G4.out.1 (Nat.le_refl _) (by have h_ := G4.out.2.2.2.size; simp at h_; omega) (HU.out.below T4.out) BU.out (reads_far HU.out H1.out.size (Nat.le_refl _) G4.out.1) (by simp [les_length]; omega)).mono ?_
    rintro e w5 ⟨rfl, hw5⟩
    obtain ⟨v5, g5⟩ := WrS.to G4.out hw5
    have T5 := Lib.hid (bl_step (bl_alloc H1.out _) g5.2.2.2 H1.out.size)
    have G5 := Lib.hid g5.1
    clear g5 hw5 G4 T4
    have S5 := T5.out.size
    go_wp2_with (at_builtin; refine print_append_row (w0 := w5) w5.heap.size rfl (.tmp 48) (.tmp 49) 22 5 .u8 1 rfl Try.underlying22 info5' (by decide) (.slice none 0 0) [] xs A _ ca rfl rfl (own_nil _ _ _ _) (HX.out.below T5.out) (Below.refl _ _) (Nat.le_refl _) (by simp; omega) ?_; intro v6 w6 ho hb hg hat; obtain ⟨A6, n6, c6, rfl⟩ := own_slice' ho; have O6 := Lib.hid (And.intro ho hb); clear ho hb hg hat)
    go_loopw [8, 9] (fun v i wr => ∃ (k : Nat) (m : List Int), k ≤ ys.length ∧ i = .int .i64 (k : Int) ∧ Hid (m = xs ++ les 2 (ys.take k)) ∧ Hid (wr.ownsRow w5.heap.size 5 1 v m.length (nums .u8 m)) ∧ Hid (Below w5.heap.size w5 wr)) (fun _ i _ => ys.length - (intOf i).toNat)
    case atStart => exact ⟨0, xs, Nat.zero_le _, rfl, Lib.hid (by simp [les]), by have h_ := O6.out.1; rw [List.nil_append] at h_; exact Lib.hid h_, Lib.hid O6.out.2⟩
    case round =>
      obtain ⟨k, m, hk, rfl, HM, HO, HB⟩ := hrel
      clear O6
      have hml : m.length ≤ 4000 := by
        rw [HM.out]
        simp only [List.length_append, les_length, List.length_take]
        omega
      by_cases hlt1 : k < ys.length
      · obtain ⟨A7, n7, c7, rfl⟩ := own_slice' HO.out
        have hr1 := HY.out.below (bl_seq T5.out HB.out)
        obtain ⟨ad, he, hc⟩ := hr1.at_ (k : Int) (by omega) (by omega)
        subst he
        rw [Int.toNat_natCast, rd_getD] at hc
        have hxb := BY.out (ys.getD k 0) (by rw [List.getD_eq_getElem?_getD, List.getElem?_eq_getElem hlt1]; simp)
        have HS := Lib.hid (les_snoc 2 ys k hlt1)
        obtain ⟨x0, hx0⟩ : ∃ x0, ys.getD k 0 = x0 := ⟨_, rfl⟩
        rw [hx0] at hc hxb HS
        obtain ⟨hxa, hxc⟩ := hxb
        clear hr1 hx0
        go_wp2_with fail
        refine (rBytes_any x0 2 _ hxa (by omega) (by omega)).mono ?_
        rintro e w7 ⟨v7, rfl, hn7⟩
        obtain ⟨A8, c8, rfl, _⟩ := hn7.slice
        have hl8 : (le x0 2).length = 2 := le_length _ _
        rw [hl8]
        have N7 := Lib.hid hn7
        clear hn7 hl8
        go_wp2_with (at_builtin; refine print_append_row (w0 := w5) w5.heap.size rfl (.tmp 57) (.tmp 63) 22 5 .u8 1 rfl Try.underlying22 info5' (by decide) (.slice A7 n7 c7) m (le x0 2) A8 _ c8 rfl rfl (own_move HO.out fun b hb => N7.out.bel.block b (HO.out.lt b hb).2) (by simpa [le_length] using N7.out.reads) (bl_seq HB.out N7.out.bel) (bl_seq HB.out N7.out.bel).size (by omega) ?_; intro v9 w9 ho hb hg hat; obtain ⟨A9, n9, c9, rfl⟩ := own_slice' ho; have O9 := Lib.hid (And.intro ho hb); clear ho hb hg hat)
        go_roundw
        case rel => exact ⟨k + 1, m ++ le x0 2, by omega, by go_num, Lib.hid (by rw [HM.out, List.append_assoc, ← HS.out]), Lib.hid O9.out.1, Lib.hid O9.out.2⟩
        case measure => simp [intOf]; omega
      · have hfin : m = xs ++ les 2 ys := by have h_ := HM.out; rwa [List.take_of_length_le (by omega)] at h_
        have O6 := Lib.hid (And.intro HO.out HB.out)
        rw [hfin] at O6
        clear hfin HO HB HM hk hml
        obtain ⟨A6, n6, c6, rfl⟩ := own_slice' O6.out.1
        go_wp2
        go_loopw [8, 10] (fun v i wr => ∃ (k : Nat) (m : List Int), k ≤ zs.length ∧ i = .int .i64 (k : Int) ∧ Hid (m = xs ++ les 2 ys ++ les 4 (zs.take k)) ∧ Hid (wr.ownsRow w5.heap.size 5 1 v m.length (nums .u8 m)) ∧ Hid (Below w5.heap.size w5 wr)) (fun _ i _ => zs.length - (intOf i).toNat)
        case atStart => exact ⟨0, xs ++ les 2 ys, Nat.zero_le _, rfl, Lib.hid (by simp [les]), Lib.hid O6.out.1, Lib.hid O6.out.2⟩
        case round =>
          obtain ⟨k, m, hk, rfl, HM, HO, HB⟩ := hrel
          clear O6
          have hml : m.length ≤ 4000 := by
            rw [HM.out]
            simp only [List.length_append, les_length, List.length_take]
            omega
          by_cases hlt2 : k < zs.length
          · obtain ⟨A7, n7, c7, rfl⟩ := own_slice' HO.out
            have hr1 := HZ.out.below (bl_seq T5.out HB.out)
            obtain ⟨ad, he, hc⟩ := hr1.at_ (k : Int) (by omega) (by omega)
            subst he
            rw [Int.toNat_natCast, rd_getD] at hc
            have hxb := BZ.out (zs.getD k 0) (by rw [List.getD_eq_getElem?_getD, List.getElem?_eq_getElem hlt2]; simp)
            have HS := Lib.hid (les_snoc 4 zs k hlt2)
            obtain ⟨x0, hx0⟩ : ∃ x0, zs.getD k 0 = x0 := ⟨_, rfl⟩
            rw [hx0] at hc hxb HS
            obtain ⟨hxa, hxc⟩ := hxb
            clear hr1 hx0
            go_wp2_with fail
            refine (rBytes_any x0 4 _ hxa (by omega) (by omega)).mono ?_
            rintro e w7 ⟨v7, rfl, hn7⟩
            obtain ⟨A8, c8, rfl, _⟩ := hn7.slice
            have hl8 : (le x0 4).length = 4 := le_length _ _
            rw [hl8]
            have N7 := Lib.hid hn7
            clear hn7 hl8
            go_wp2_with (at_builtin; refine print_append_row (w0 := w5) w5.heap.size rfl (.tmp 71) (.tmp 77) 22 5 .u8 1 rfl Try.underlying22 info5' (by decide) (.slice A7 n7 c7) m (le x0 4) A8 _ c8 rfl rfl (own_move HO.out fun b hb => N7.out.bel.block b (HO.out.lt b hb).2) (by simpa [le_length] using N7.out.reads) (bl_seq HB.out N7.out.bel) (bl_seq HB.out N7.out.bel).size (by omega) ?_; intro v9 w9 ho hb hg hat; obtain ⟨A9, n9, c9, rfl⟩ := own_slice' ho; have O9 := Lib.hid (And.intro ho hb); clear ho hb hg hat)
            go_roundw
            case rel => exact ⟨k + 1, m ++ le x0 4, by omega, by go_num, Lib.hid (by rw [HM.out, List.append_assoc, ← HS.out]), Lib.hid O9.out.1, Lib.hid O9.out.2⟩
            case measure => simp [intOf]; omega
          · have hfin : m = xs ++ les 2 ys ++ les 4 zs := by have h_ := HM.out; rwa [List.take_of_length_le (by omega)] at h_
            have O6 := Lib.hid (And.intro HO.out HB.out)
            rw [hfin] at O6
            clear hfin HO HB HM hk hml
            obtain ⟨A6, n6, c6, rfl⟩ := own_slice' O6.out.1
            go_wp2
            go_loopw [8, 11] (fun v i wr => ∃ (k : Nat) (m : List Int), k ≤ us.length ∧ i = .int .i64 (k : Int) ∧ Hid (m = xs ++ les 2 ys ++ les 4 zs ++ les 8 (us.take k)) ∧ Hid (wr.ownsRow w5.heap.size 5 1 v m.length (nums .u8 m)) ∧ Hid (Below w5.heap.size w5 wr)) (fun _ i _ => us.length - (intOf i).toNat)
            case atStart => exact ⟨0, xs ++ les 2 ys ++ les 4 zs, Nat.zero_le _, rfl, Lib.hid (by simp [les]), Lib.hid O6.out.1, Lib.hid O6.out.2⟩
            case round =>
              obtain ⟨k, m, hk, rfl, HM, HO, HB⟩ := hrel
              clear O6
              have hml : m.length ≤ 4000 := by
                rw [HM.out]
                simp only [List.length_append, les_length, List.length_take]
                omega
              by_cases hlt3 : k < us.length
              · obtain ⟨A7, n7, c7, rfl⟩ := own_slice' HO.out
                have hr1 := HU.out.below (bl_seq T5.out HB.out)
                obtain ⟨ad, he, hc⟩ := hr1.at_ (k : Int) (by omega) (by omega)
                subst he
                rw [Int.toNat_natCast, rd_getD] at hc
                have hxb := BU.out (us.getD k 0) (by rw [List.getD_eq_getElem?_getD, List.getElem?_eq_getElem hlt3]; simp)
                have HS := Lib.hid (les_snoc 8 us k hlt3)
                obtain ⟨x0, hx0⟩ : ∃ x0, us.getD k 0 = x0 := ⟨_, rfl⟩
                rw [hx0] at hc hxb HS
                obtain ⟨hxa, hxc⟩ := hxb
                clear hr1 hx0
                go_wp2_with fail
                refine (rBytes_any x0 8 _ hxa (by omega) (by omega)).mono ?_
                rintro e w7 ⟨v7, rfl, hn7⟩
                obtain ⟨A8, c8, rfl, _⟩ := hn7.slice
                have hl8 : (le x0 8).length = 8 := le_length _ _
                rw [hl8]
                have N7 := Lib.hid hn7
                clear hn7 hl8
                go_wp2_with (at_builtin; refine print_append_row (w0 := w5) w5.heap.size rfl (.tmp 85) (.tmp 90) 22 5 .u8 1 rfl Try.underlying22 info5' (by decide) (.slice A7 n7 c7) m (le x0 8) A8 _ c8 rfl rfl (own_move HO.out fun b hb => N7.out.bel.block b (HO.out.lt b hb).2) (by simpa [le_length] using N7.out.reads) (bl_seq HB.out N7.out.bel) (bl_seq HB.out N7.out.bel).size (by omega) ?_; intro v9 w9 ho hb hg hat; obtain ⟨A9, n9, c9, rfl⟩ := own_slice' ho; have O9 := Lib.hid (And.intro ho hb); clear ho hb hg hat)
                go_roundw
                case rel => exact ⟨k + 1, m ++ le x0 8, by omega, by go_num, Lib.hid (by rw [HM.out, List.append_assoc, ← HS.out]), Lib.hid O9.out.1, Lib.hid O9.out.2⟩
                case measure => simp [intOf]; omega
              · have hfin : m = xs ++ les 2 ys ++ les 4 zs ++ les 8 us := by have h_ := HM.out; rwa [List.take_of_length_le (by omega)] at h_
                have O6 := Lib.hid (And.intro HO.out HB.out)
                rw [hfin] at O6
                clear hfin HO HB HM hk hml
                obtain ⟨A6, n6, c6, rfl⟩ := own_slice' O6.out.1
                go_wp2_with fail
                have hll : ([] ++ les 1 xs ++ les 2 ys ++ les 4 zs ++ les 8 us) = xs ++ les 2 ys ++ les 4 zs ++ les 8 us := by rw [les1 xs BX.out, List.nil_append]
                have hbb : Byt (xs ++ les 2 ys ++ les 4 zs ++ les 8 us) := ((Byt.append BX.out (les_byt _ _)).append (les_byt _ _)).append (les_byt _ _)
                have hlen : (xs ++ les 2 ys ++ les 4 zs ++ les 8 us).length ≤ 4000 := by simp only [List.length_append, les_length]; omega
                have G6 := G5.out.below O6.out.2
                rw [hll] at G6
                obtain ⟨L, hL⟩ : ∃ L, xs ++ les 2 ys ++ les 4 zs ++ les 8 us = L := ⟨_, rfl⟩
                rw [hL] at G6 hbb hlen O6
                have GG := Lib.hid G6
                have BB := Lib.hid hbb
                clear G6 hbb hL hll G5
                with_reducible refine (Bytes_any w1.heap.size w1.heap.size v5 L _ GG.out (by omega)).mono ?_
                rintro e w8 ⟨v8, rfl, hn8⟩
                have hn8 : New _ w8 v8 L := hn8
                obtain ⟨A8, c8, rfl, _⟩ := hn8.slice
                have N8 := Lib.hid hn8
                clear hn8
                go_wp2_with fail
                have hn6 : n6 = L.length := by
                  obtain ⟨A', c', e⟩ := own_slice O6.out.1
                  injection e
                subst hn6
                with_reducible refine (rSame_any L L A8 A6 _ _ c8 c6 _ N8.out.reads ((own_reads' O6.out.1).below N8.out.bel) BB.out BB.out).mono ?_
                rintro e w9 ⟨rfl, hd9⟩
                have H9 := Lib.hid hd9.below
                clear hd9
                go_wp2_with fail
                go_ret
                exact ⟨by simp, bl_seq (bl_seq (bl_seq T5.out O6.out.2) N8.out.bel) H9.out⟩
end Go.Proofs.Ythmhbnpaalgdfaa
