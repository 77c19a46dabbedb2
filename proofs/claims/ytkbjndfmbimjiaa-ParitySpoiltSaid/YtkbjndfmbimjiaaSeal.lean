import Derived.Test.YtkbjndfmbimjiaaFields
import Derived.Test.YtkbjndfmbimjiaaSum
import Derived.Test.YtkbjndfmbimjiaaFar2
/-! record.Seal. -/
set_option linter.unusedVariables false
set_option linter.unusedSimpArgs false
namespace Go.Proofs.Ytkbjndfmbimjiaa
open Go.RowKit Go.Proofs.YtkbjndfmbimjiaaW.PrintWords Go.Proofs.YtkbjndfmbimjiaaW.PrintLast
theorem New.read {w w' : World} {A : Option Addr} {n c : Nat} {xs : List Int} (h : New w w' (.slice A n c) xs) (hn : xs.length = n) : ReadsInt w' .u8 A n xs ∧ n ≤ c := by
  subst hn
  obtain ⟨A', c', e, hc⟩ := h.slice
  injection e with e1 e2 e3
  exact ⟨h.reads, e3 ▸ hc⟩
theorem New.shape {w w' : World} {v : Value} {xs : List Int} (h : New w w' v xs) (n : Nat) (hn : xs.length = n) : ∃ A c, v = .slice A n c ∧ n ≤ c := by
  subst hn
  exact h.slice
set_option maxHeartbeats 8000000 in
set_option maxRecDepth 100000 in
theorem Seal_any (h : Hd) (A B : Option Addr) (c d n m : Nat) (xs ys : List Int) (w : World) (ho : h.ok) (hr : ReadsInt w .u8 A n xs) (hc : n ≤ c) (bx : Byt xs) (hl : n ≤ 1099511627776) (hs : ReadsInt w .u8 B m ys) (hd : m ≤ d) (by_ : Byt ys) :
    Calls Try.prog 25 #[.agg (hdC h), .slice A n c, .slice B m d] w fun e w' => ∃ v, e = .returned v ∧ New w w' v (sealL h xs ys) := by
  have HR := Lib.hid hr
  have HS := Lib.hid hs
  have HO := Lib.hid ho
  have hm := hs.2.1
  have HX := Lib.hid (And.intro bx by_)
  have HM := Lib.hid hs.1
  clear hr hs ho bx by_
  go_enter Try.func25, Try.ntmps25
  go_wp2_with fail
  have S0_ : WrV ((w.alloc (.cells (hdC h) 35)).alloc (.cells #[.slice none 0 0] 77)) w.heap.size (w.heap.size + 1) (.slice none 0 0) [] := WrV.first _ _ (by have h_ := heap_alloc_new (w.alloc (.cells (hdC h) 35)) (.cells #[.slice none 0 0] 77); simpa using h_) _
  have B0_ : Below w.heap.size w ((w.alloc (.cells (hdC h) 35)).alloc (.cells #[.slice none 0 0] 77)) := bl_alloc (bl_alloc (Below.refl _ _) _) _
  have Z0_ : ((w.alloc (.cells (hdC h) 35)).alloc (.cells #[.slice none 0 0] 77)).heap.size = w.heap.size + 2 := by simp
  refine (fields_any h _ HO.out).mono ?_
  rintro e w1 ⟨v1, rfl, hn1⟩
  obtain ⟨A1, c1, rfl, hc1⟩ := hn1.shape 24 (fieldsL_length h)
  have G1 := Lib.hid (show WrV w1 w.heap.size (w.heap.size + 1) (.slice none 0 0) [] from S0_.below hn1.bel)
  have B1 := Lib.hid (bl_seq B0_ hn1.bel)
  have R1 := Lib.hid (hn1.read (fieldsL_length h)).1
  have P1 := Lib.hid (show ∀ a, A1 = some a → a.block ≠ w.heap.size + 1 ∧ a.block < w1.heap.size from fun a ha => by have h_ := hn1.place a ha; rw [Z0_] at h_; omega)
  have Y1 := Lib.hid (show w.heap.size + 2 ≤ w1.heap.size from by have h_ := hn1.bel.size; rw [Z0_] at h_; exact h_)
  clear S0_ B0_ Z0_ hn1
  by_cases hlt : (32 : Int) < (m : Int)
  · have hs32 : ReadsInt w .u8 B 32 (ys.take 32) := HS.out.take_ 32 (by omega)
    have HZ := Lib.hid hs32
    have HQ : Hid (ys.take 32 = ys.take 32) := Lib.hid rfl
    have hq32 : (ys.take 32).length = 32 := hs32.1
    clear hs32
    go_wp2_with fail
    have W2_ : WrV (w1.alloc (.cells #[.slice none 0 0] 77)) w1.heap.size w1.heap.size (.slice none 0 0) [] := WrV.first _ _ (heap_alloc_new _ _) _
    have T0_ : Below w1.heap.size w1 (w1.alloc (.cells #[.slice none 0 0] 77)) := bl_alloc (Below.refl _ _) _
    refine (Raw_any w1.heap.size w1.heap.size (.slice none 0 0) [] (ys.take 32) B 32 d _ W2_ (Nat.le_refl _) (by simp) (HZ.out.below (bl_seq B1.out T0_)) (by simp <;> omega)).mono ?_
    rintro e w2 ⟨rfl, hw2⟩
    obtain ⟨v2, g2, f2, b2, r2, z2⟩ := hw2.next w1.heap.size (by simp) (FarO.nil _)
    have G2 := Lib.hid (And.intro g2 (T0_.trans b2))
    clear W2_ T0_ hw2 g2 f2 b2 r2
    go_wp2_with fail
    refine (Pad_any w1.heap.size w1.heap.size v2 _ 32 _ G2.out.1 (Nat.le_refl _) z2 (by decide) (by simp <;> omega)).mono ?_
    rintro e w3 ⟨rfl, hw3⟩
    obtain ⟨v3, g3, f3, b3, r3, z3⟩ := hw3.next 0 (Nat.zero_le _) (FarO.any _)
    have hT : ([] ++ ys.take 32) ++ List.replicate ((32 : Int).toNat - ([] ++ ys.take 32).length) 0 = tailL ys := by rw [tailL, padL]; simp
    rw [hT] at g3
    have G3 := Lib.hid (And.intro g3 (G2.out.2.trans b3))
    clear hT hw3 g3 f3 b3 r3
    go_wp2_with fail
    refine (Bytes_any _ _ v3 _ w3 G3.out.1 (by rw [tailL_length]; decide)).mono ?_
    rintro e w4 ⟨v4, rfl, h4, h5⟩
    have hn4 : New w3 w4 v4 (tailL ys) := ⟨h4, h5⟩
    obtain ⟨A4, c4, rfl, hc4⟩ := hn4.shape 32 (tailL_length ys)
    have B4_ : Below w1.heap.size w1 w4 := bl_seq G3.out.2 h5
    have G4 := Lib.hid (G1.out.below B4_)
    have B4 := Lib.hid (bl_seq B1.out B4_)
    have R4 := Lib.hid (hn4.read (tailL_length ys)).1
    have P4 := Lib.hid (show ∀ a, A4 = some a → a.block ≠ w.heap.size + 1 ∧ a.block < w4.heap.size from fun a ha => by have h_ := hn4.place a ha; have h2_ := G3.out.2.size; have h3_ := Y1.out; omega)
    have Q4 := Lib.hid (R1.out.below B4_)
    have P1b := Lib.hid (show ∀ a, A1 = some a → a.block ≠ w.heap.size + 1 ∧ a.block < w4.heap.size from fun a ha => by have h_ := P1.out a ha; have h2_ := B4_.size; omega)
    clear h4 h5 hn4 B4_ G2 G3 R1 P1 G1
    go_wp2_with fail
    refine (Raw_any w.heap.size (w.heap.size + 1) (.slice none 0 0) [] (fieldsL h) A1 24 c1 w4 G4.out (by omega) B4.out.size Q4.out (by simp)).mono ?_
    rintro e w5 ⟨rfl, hw5⟩
    obtain ⟨v5, g5, f5, b5, r5, z5⟩ := hw5.next w4.heap.size (Nat.le_refl _) (FarO.nil _)
    have G5 := Lib.hid (And.intro g5 (And.intro f5 z5))
    have B5 := Lib.hid (B4.out.trans b5)
    have R5 := Lib.hid (And.intro (r5 Q4.out (fun _ => P1b.out)) (r5 R4.out (fun _ => P4.out)))
    clear hw5 g5 f5 b5 r5 z5 R4 Q4 G4 B4
    go_wp2_with fail
    have hs_ := Sum_any [⟨A1, c1, fieldsL h⟩, ⟨A, c, xs⟩, ⟨A4, c4, tailL ys⟩] (some ⟨w5.heap.size, 0, none⟩) 3 3 (w5.alloc (.cells #[.slice A1 24 c1, .slice A n c, .slice A4 32 c4] 24)) rfl
      (rows3 (heap_alloc_new _ _) (R5.out.1.below (bl_alloc (Below.refl _ _) _)) ((HR.out.below B5.out).below (bl_alloc (Below.refl _ _) _)) (R5.out.2.below (bl_alloc (Below.refl _ _) _)) hc1 hc hc4 (fieldsL_byt h) HX.out.1 (tailL_byt HX.out.2))
    have hcr : crcOf (ll [⟨A1, c1, fieldsL h⟩, ⟨A, c, xs⟩, ⟨A4, c4, tailL ys⟩]).flatten = sumL h xs ys := by simp [ll, sumL]
    rw [hcr] at hs_
    refine hs_.mono ?_
    rintro e w6 ⟨rfl, hd6⟩
    have D6_ : Below w5.heap.size w5 w6 := bl_seq (bl_alloc (Below.refl _ _) _) hd6.below
    have G6 := Lib.hid (And.intro (G5.out.1.below D6_) (And.intro G5.out.2.1 (Nat.le_trans G5.out.2.2 D6_.size)))
    have B6 := Lib.hid (bl_seq B5.out D6_)
    have R6 := Lib.hid (R5.out.2.below D6_)
    have C6 := Lib.hid (show 0 ≤ sumL h xs ys ∧ sumL h xs ys < 4294967296 from crcOf_bound _)
    clear hs_ hcr hd6 D6_ G5 B5 R5
    go_wp2_with fail
    refine (U32_box w.heap.size (w.heap.size + 1) v5 _ [sumL h xs ys] 1 w6.heap.size w6 _ rfl rfl G6.out.1 (by omega) B6.out.size rfl (fun x hx => by rw [List.mem_singleton] at hx; subst hx; exact C6.out) (by simp [fieldsL_length])).mono ?_
    rintro e w7 ⟨rfl, hw7⟩
    obtain ⟨v7, g7, f7, b7, r7, z7⟩ := hw7.next w4.heap.size G6.out.2.2 G6.out.2.1
    have G7 := Lib.hid (And.intro g7 (And.intro f7 z7))
    have B7 := Lib.hid (B6.out.trans b7)
    have R7 := Lib.hid (r7 R6.out (fun _ => P4.out))
    clear hw7 g7 f7 b7 r7 z7 G6 B6 R6
    go_wp2_with fail
    refine (Pad_any w.heap.size (w.heap.size + 1) v7 _ 32 w7 G7.out.1 (by omega) B7.out.size (by decide) (by simp [fieldsL_length, les_length])).mono ?_
    rintro e w8 ⟨rfl, hw8⟩
    obtain ⟨v8, g8, f8, b8, r8, z8⟩ := hw8.next w4.heap.size G7.out.2.2 G7.out.2.1
    have G8 := Lib.hid g8
    have B8 := Lib.hid (B7.out.trans b8)
    have R8 := Lib.hid (r8 R7.out (fun _ => P4.out))
    clear hw8 g8 f8 b8 r8 z8 G7 B7 R7
    go_wp2_with fail
    refine (Raw_any w.heap.size (w.heap.size + 1) v8 _ (tailL ys) A4 32 c4 w8 G8.out (by omega) B8.out.size R8.out (by simp [fieldsL_length, les_length])).mono ?_
    rintro e w9 ⟨rfl, hw9⟩
    obtain ⟨v9, g9, f9, b9, r9, z9⟩ := hw9.next 0 (Nat.zero_le _) (FarO.any _)
    have hL : ([] ++ fieldsL h ++ les 4 [sumL h xs ys] ++ List.replicate ((32 : Int).toNat - ([] ++ fieldsL h ++ les 4 [sumL h xs ys]).length) 0) ++ tailL ys = sealL h xs ys := by
      simp [sealL, les, fieldsL_length, le_length]
      rfl
    rw [hL] at g9
    have G9 := Lib.hid g9
    have B9 := Lib.hid (B8.out.trans b9)
    clear hL hw9 g9 f9 b9 r9 z9 G8 B8 R8
    go_wp2_with fail
    refine (Bytes_any _ _ v9 _ w9 G9.out (by rw [sealL_length]; decide)).mono ?_
    rintro e w10 ⟨v10, rfl, h10, h11⟩
    have N10 := Lib.hid (And.intro (own_base h10 B9.out.size) (bl_seq B9.out h11))
    clear h10 h11 G9 B9
    go_wp2_with fail
    go_ret
    exact ⟨_, rfl, N10.out⟩
  · have hys : ys.take 32 = ys := List.take_of_length_le (by have h_ := HM.out; omega)
    have HZ := HS
    have HQ := Lib.hid hys
    clear hys
    have hq32 : ys.length = m := HM.out
    go_wp2_with fail
    have W2_ : WrV (w1.alloc (.cells #[.slice none 0 0] 77)) w1.heap.size w1.heap.size (.slice none 0 0) [] := WrV.first _ _ (heap_alloc_new _ _) _
    have T0_ : Below w1.heap.size w1 (w1.alloc (.cells #[.slice none 0 0] 77)) := bl_alloc (Below.refl _ _) _
    refine (Raw_any w1.heap.size w1.heap.size (.slice none 0 0) [] (ys) B m d _ W2_ (Nat.le_refl _) (by simp) (HZ.out.below (bl_seq B1.out T0_)) (by simp <;> omega)).mono ?_
    rintro e w2 ⟨rfl, hw2⟩
    obtain ⟨v2, g2, f2, b2, r2, z2⟩ := hw2.next w1.heap.size (by simp) (FarO.nil _)
    have G2 := Lib.hid (And.intro g2 (T0_.trans b2))
    clear W2_ T0_ hw2 g2 f2 b2 r2
    go_wp2_with fail
    refine (Pad_any w1.heap.size w1.heap.size v2 _ 32 _ G2.out.1 (Nat.le_refl _) z2 (by decide) (by simp <;> omega)).mono ?_
    rintro e w3 ⟨rfl, hw3⟩
    obtain ⟨v3, g3, f3, b3, r3, z3⟩ := hw3.next 0 (Nat.zero_le _) (FarO.any _)
    have hT : ([] ++ ys) ++ List.replicate ((32 : Int).toNat - ([] ++ ys).length) 0 = tailL ys := by rw [tailL, padL, HQ.out]; simp
    rw [hT] at g3
    have G3 := Lib.hid (And.intro g3 (G2.out.2.trans b3))
    clear hT hw3 g3 f3 b3 r3
    go_wp2_with fail
    refine (Bytes_any _ _ v3 _ w3 G3.out.1 (by rw [tailL_length]; decide)).mono ?_
    rintro e w4 ⟨v4, rfl, h4, h5⟩
    have hn4 : New w3 w4 v4 (tailL ys) := ⟨h4, h5⟩
    obtain ⟨A4, c4, rfl, hc4⟩ := hn4.shape 32 (tailL_length ys)
    have B4_ : Below w1.heap.size w1 w4 := bl_seq G3.out.2 h5
    have G4 := Lib.hid (G1.out.below B4_)
    have B4 := Lib.hid (bl_seq B1.out B4_)
    have R4 := Lib.hid (hn4.read (tailL_length ys)).1
    have P4 := Lib.hid (show ∀ a, A4 = some a → a.block ≠ w.heap.size + 1 ∧ a.block < w4.heap.size from fun a ha => by have h_ := hn4.place a ha; have h2_ := G3.out.2.size; have h3_ := Y1.out; omega)
    have Q4 := Lib.hid (R1.out.below B4_)
    have P1b := Lib.hid (show ∀ a, A1 = some a → a.block ≠ w.heap.size + 1 ∧ a.block < w4.heap.size from fun a ha => by have h_ := P1.out a ha; have h2_ := B4_.size; omega)
    clear h4 h5 hn4 B4_ G2 G3 R1 P1 G1
    go_wp2_with fail
    refine (Raw_any w.heap.size (w.heap.size + 1) (.slice none 0 0) [] (fieldsL h) A1 24 c1 w4 G4.out (by omega) B4.out.size Q4.out (by simp)).mono ?_
    rintro e w5 ⟨rfl, hw5⟩
    obtain ⟨v5, g5, f5, b5, r5, z5⟩ := hw5.next w4.heap.size (Nat.le_refl _) (FarO.nil _)
    have G5 := Lib.hid (And.intro g5 (And.intro f5 z5))
    have B5 := Lib.hid (B4.out.trans b5)
    have R5 := Lib.hid (And.intro (r5 Q4.out (fun _ => P1b.out)) (r5 R4.out (fun _ => P4.out)))
    clear hw5 g5 f5 b5 r5 z5 R4 Q4 G4 B4
    go_wp2_with fail
    have hs_ := Sum_any [⟨A1, c1, fieldsL h⟩, ⟨A, c, xs⟩, ⟨A4, c4, tailL ys⟩] (some ⟨w5.heap.size, 0, none⟩) 3 3 (w5.alloc (.cells #[.slice A1 24 c1, .slice A n c, .slice A4 32 c4] 24)) rfl
      (rows3 (heap_alloc_new _ _) (R5.out.1.below (bl_alloc (Below.refl _ _) _)) ((HR.out.below B5.out).below (bl_alloc (Below.refl _ _) _)) (R5.out.2.below (bl_alloc (Below.refl _ _) _)) hc1 hc hc4 (fieldsL_byt h) HX.out.1 (tailL_byt HX.out.2))
    have hcr : crcOf (ll [⟨A1, c1, fieldsL h⟩, ⟨A, c, xs⟩, ⟨A4, c4, tailL ys⟩]).flatten = sumL h xs ys := by simp [ll, sumL]
    rw [hcr] at hs_
    refine hs_.mono ?_
    rintro e w6 ⟨rfl, hd6⟩
    have D6_ : Below w5.heap.size w5 w6 := bl_seq (bl_alloc (Below.refl _ _) _) hd6.below
    have G6 := Lib.hid (And.intro (G5.out.1.below D6_) (And.intro G5.out.2.1 (Nat.le_trans G5.out.2.2 D6_.size)))
    have B6 := Lib.hid (bl_seq B5.out D6_)
    have R6 := Lib.hid (R5.out.2.below D6_)
    have C6 := Lib.hid (show 0 ≤ sumL h xs ys ∧ sumL h xs ys < 4294967296 from crcOf_bound _)
    clear hs_ hcr hd6 D6_ G5 B5 R5
    go_wp2_with fail
    refine (U32_box w.heap.size (w.heap.size + 1) v5 _ [sumL h xs ys] 1 w6.heap.size w6 _ rfl rfl G6.out.1 (by omega) B6.out.size rfl (fun x hx => by rw [List.mem_singleton] at hx; subst hx; exact C6.out) (by simp [fieldsL_length])).mono ?_
    rintro e w7 ⟨rfl, hw7⟩
    obtain ⟨v7, g7, f7, b7, r7, z7⟩ := hw7.next w4.heap.size G6.out.2.2 G6.out.2.1
    have G7 := Lib.hid (And.intro g7 (And.intro f7 z7))
    have B7 := Lib.hid (B6.out.trans b7)
    have R7 := Lib.hid (r7 R6.out (fun _ => P4.out))
    clear hw7 g7 f7 b7 r7 z7 G6 B6 R6
    go_wp2_with fail
    refine (Pad_any w.heap.size (w.heap.size + 1) v7 _ 32 w7 G7.out.1 (by omega) B7.out.size (by decide) (by simp [fieldsL_length, les_length])).mono ?_
    rintro e w8 ⟨rfl, hw8⟩
    obtain ⟨v8, g8, f8, b8, r8, z8⟩ := hw8.next w4.heap.size G7.out.2.2 G7.out.2.1
    have G8 := Lib.hid g8
    have B8 := Lib.hid (B7.out.trans b8)
    have R8 := Lib.hid (r8 R7.out (fun _ => P4.out))
    clear hw8 g8 f8 b8 r8 z8 G7 B7 R7
    go_wp2_with fail
    refine (Raw_any w.heap.size (w.heap.size + 1) v8 _ (tailL ys) A4 32 c4 w8 G8.out (by omega) B8.out.size R8.out (by simp [fieldsL_length, les_length])).mono ?_
    rintro e w9 ⟨rfl, hw9⟩
    obtain ⟨v9, g9, f9, b9, r9, z9⟩ := hw9.next 0 (Nat.zero_le _) (FarO.any _)
    have hL : ([] ++ fieldsL h ++ les 4 [sumL h xs ys] ++ List.replicate ((32 : Int).toNat - ([] ++ fieldsL h ++ les 4 [sumL h xs ys]).length) 0) ++ tailL ys = sealL h xs ys := by
      simp [sealL, les, fieldsL_length, le_length]
      rfl
    rw [hL] at g9
    have G9 := Lib.hid g9
    have B9 := Lib.hid (B8.out.trans b9)
    clear hL hw9 g9 f9 b9 r9 z9 G8 B8 R8
    go_wp2_with fail
    refine (Bytes_any _ _ v9 _ w9 G9.out (by rw [sealL_length]; decide)).mono ?_
    rintro e w10 ⟨v10, rfl, h10, h11⟩
    have N10 := Lib.hid (And.intro (own_base h10 B9.out.size) (bl_seq B9.out h11))
    clear h10 h11 G9 B9
    go_wp2_with fail
    go_ret
    exact ⟨_, rfl, N10.out⟩
end Go.Proofs.Ytkbjndfmbimjiaa
