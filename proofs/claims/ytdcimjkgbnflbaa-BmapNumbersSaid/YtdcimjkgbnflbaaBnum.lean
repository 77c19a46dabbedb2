import Derived.Test.YtdcimjkgbnflbaaBsets
import Derived.Test.YtdcimjkgbnflbaaBget
/-! The law BmapNumbers: its walk. -/
set_option linter.unusedVariables false
set_option linter.unusedSimpArgs false
namespace Go.Proofs.Ytdcimjkgbnflbaa
open Go.RowKit Go.Proofs.YtdcimjkgbnflbaaW.PrintWords
theorem part_all (xs : List Int) (A : Option Addr) (c : Nat) (w : World) (hr : ReadsInt w .u8 A xs.length xs) (hc : xs.length ≤ c) (hl : xs.length ≤ 1099511627776) :
    Calls Try.prog 14 #[.slice A xs.length c, .int .i64 0, .int .i64 xs.length] w fun e w' => ∃ v, e = .returned v ∧ New w w' v xs := by
  have h := rPart_any xs A c 0 xs.length w hr hc (by omega) (by omega) (by omega) hl
  have e1 : (xs.take (0 + (xs.length : Int)).toNat).drop (0 : Int).toNat = xs := by simp
  rwa [e1] at h
set_option maxHeartbeats 2000000 in
theorem num_heavy (xs : List Int) (A : Option Addr) (c : Nat) (i v : Int) (w : World) (hl : 1100 < xs.length) (hm : xs.length ≤ 9223372036854775807) :
    Calls Try.prog 7 #[.slice A xs.length c, .int .i64 i, .int .u32 v] w fun e w' => e = .returned (.bool true) ∧ Below w.heap.size w w' := by
  go_enter Try.func7, Try.ntmps7
  go_wp2_with fail
  refine (found_any _).mono ?_
  rintro e w1 ⟨rfl, hb1⟩
  have b2 : (1100 : Int) < xs.length := by omega
  have T1 := Lib.hid hb1
  clear hb1
  go_wp2_with fail
  refine (found_any _).mono ?_
  rintro e w2 ⟨rfl, hb2⟩
  have T2 := Lib.hid (bl_seq T1.out hb2)
  clear hb2
  go_wp2_with fail
  go_ret
  exact ⟨by simp, T2.out⟩
set_option maxHeartbeats 4000000 in
theorem num_out (xs : List Int) (A : Option Addr) (c : Nat) (i v : Int) (w : World) (hr : ReadsInt w .u8 A xs.length xs) (hb : Byt xs) (hc : xs.length ≤ c) (hl : xs.length ≤ 1100) (v0 : 0 ≤ v) (v1 : v < 4294967296) (hi : ¬ (0 ≤ i ∧ 4 * i + 4 ≤ xs.length)) :
    Calls Try.prog 7 #[.slice A xs.length c, .int .i64 i, .int .u32 v] w fun e w' => e = .returned (.bool true) ∧ Below w.heap.size w w' := by
  have HR := Lib.hid hr
  have HB := Lib.hid hb
  have HI := Lib.hid hi
  have hs : setL xs i v = xs := if_neg hi
  have HS := Lib.hid hs
  have b2 : ¬ (1100 : Int) < xs.length := by omega
  have hq : (xs.length : Int).tdiv 4 = (xs.length : Int) / 4 := Int.tdiv_eq_ediv_of_nonneg (by omega)
  clear hr hb hs
  go_enter Try.func7, Try.ntmps7
  go_wp2_with fail
  refine (found_any _).mono ?_
  rintro e w1 ⟨rfl, hb1⟩
  have T1 := Lib.hid hb1
  clear hb1
  go_wp2_with fail
  refine (part_all xs A c _ (HR.out.below T1.out) hc (by omega)).mono ?_
  rintro e w2 ⟨v2, rfl, hn2⟩
  obtain ⟨A2, c2, rfl, hc2⟩ := hn2.slice
  have N2 := Lib.hid hn2
  have T2 := Lib.hid (bl_seq T1.out hn2.bel)
  clear hn2
  go_wp2_with fail
  refine (set_any xs A2 c2 i v _ N2.out.reads (by omega) v0 v1).mono ?_
  rintro e w3 ⟨v3, rfl, hn3⟩
  rw [HS.out] at hn3
  obtain ⟨A3, c3, rfl, hc3⟩ := hn3.slice
  have N3 := Lib.hid hn3
  have T3 := Lib.hid (bl_seq T2.out hn3.bel)
  clear hn3
  go_wp2_with fail
  refine (rSame_any xs xs A2 A _ _ c2 c w3 (N2.out.reads.below N3.out.bel) (HR.out.below T3.out) HB.out HB.out).mono ?_
  rintro e w4 ⟨rfl, hd4⟩
  have D4 := Lib.hid hd4.below
  have T4 := Lib.hid (bl_seq T3.out hd4.below)
  clear hd4
  have b4 : (!decide (xs = xs)) = false := by simp
  have b5 : decide (xs = xs) = true := by simp
  by_cases h0 : i < 0
  · clear hi
    have b6 : decide (i < 0) = true := by simpa using h0
    go_wp2_with fail
    refine (rSame_any xs xs A3 A _ _ c3 c w4 (N3.out.reads.below D4.out) (HR.out.below T4.out) HB.out HB.out).mono ?_
    rintro e w5 ⟨rfl, hd5⟩
    have T5 := Lib.hid (bl_seq T4.out hd5.below)
    clear hd5
    go_wp2_with fail
    refine (get_out xs A2 c2 i _ (by omega) HI.out).mono ?_
    rintro e w6 ⟨rfl, hb6⟩
    have T6 := Lib.hid (bl_seq T5.out hb6)
    clear hb6
    go_wp2_with fail
    go_ret
    exact ⟨by simp, T6.out⟩
  · have h1 : (xs.length : Int) / 4 - 1 < i := by omega
    clear hi
    go_wp2_with fail
    refine (rSame_any xs xs A3 A _ _ c3 c w4 (N3.out.reads.below D4.out) (HR.out.below T4.out) HB.out HB.out).mono ?_
    rintro e w5 ⟨rfl, hd5⟩
    have T5 := Lib.hid (bl_seq T4.out hd5.below)
    clear hd5
    go_wp2_with fail
    refine (get_out xs A2 c2 i _ (by omega) HI.out).mono ?_
    rintro e w6 ⟨rfl, hb6⟩
    have T6 := Lib.hid (bl_seq T5.out hb6)
    clear hb6
    go_wp2_with fail
    go_ret
    exact ⟨by simp, T6.out⟩
set_option maxHeartbeats 4000000 in
theorem num_in (xs : List Int) (A : Option Addr) (c : Nat) (i v : Int) (w : World) (hr : ReadsInt w .u8 A xs.length xs) (hb : Byt xs) (hc : xs.length ≤ c) (hl : xs.length ≤ 1100) (v0 : 0 ≤ v) (v1 : v < 4294967296) (hi0 : 0 ≤ i) (hi : 4 * i + 4 ≤ xs.length) :
    Calls Try.prog 7 #[.slice A xs.length c, .int .i64 i, .int .u32 v] w fun e w' => e = .returned (.bool true) ∧ Below w.heap.size w w' := by
  have HR := Lib.hid hr
  have HB := Lib.hid hb
  have hs : setL xs i v = xs.take (4 * i).toNat ++ le v 4 ++ xs.drop (4 * i + 4).toNat := if_pos ⟨hi0, hi⟩
  have hsl : (setL xs i v).length = xs.length := setL_len _ _ _
  have hnum : num (((setL xs i v).drop (4 * i).toNat).take 4) = v := by
    rw [hs, List.append_assoc, List.drop_left' (by rw [List.length_take]; omega), List.take_left' (le_length _ _)]
    exact num_le v 4 v0 (by omega)
  have hn0 : 0 ≤ num ((xs.drop (4 * i).toNat).take 4) ∧ num ((xs.drop (4 * i).toNat).take 4) < 4294967296 := by
    have h_ := num_bound ((xs.drop (4 * i).toNat).take 4) (fun x hx => hb x (List.mem_of_mem_drop (List.mem_of_mem_take hx)))
    rw [List.length_take, List.length_drop, Nat.min_eq_left (by omega)] at h_
    exact h_
  obtain ⟨ys, hys⟩ : ∃ ys, setL xs i v = ys := ⟨_, rfl⟩
  rw [hys] at hs hsl hnum
  have HS := Lib.hid (And.intro hys (And.intro hs (And.intro hsl hnum)))
  have b2 : ¬ (1100 : Int) < xs.length := by omega
  have hq : (xs.length : Int).tdiv 4 = (xs.length : Int) / 4 := Int.tdiv_eq_ediv_of_nonneg (by omega)
  have h0 : ¬ i < 0 := by omega
  have h1 : ¬ (xs.length : Int) / 4 - 1 < i := by omega
  clear hr hb hs hys hsl hnum
  go_enter Try.func7, Try.ntmps7
  go_wp2_with fail
  refine (found_any _).mono ?_
  rintro e w1 ⟨rfl, hb1⟩
  have T1 := Lib.hid hb1
  clear hb1
  go_wp2_with fail
  refine (part_all xs A c _ (HR.out.below T1.out) hc (by omega)).mono ?_
  rintro e w2 ⟨v2, rfl, hn2⟩
  obtain ⟨A2, c2, rfl, hc2⟩ := hn2.slice
  have N2 := Lib.hid hn2
  have T2 := Lib.hid (bl_seq T1.out hn2.bel)
  clear hn2
  go_wp2_with fail
  refine (set_any xs A2 c2 i v _ N2.out.reads (by omega) v0 v1).mono ?_
  rintro e w3 ⟨v3, rfl, hn3⟩
  rw [HS.out.1] at hn3
  obtain ⟨A3, c3, rfl, hc3⟩ := hn3.slice
  have N3 := Lib.hid hn3
  have T3 := Lib.hid (bl_seq T2.out hn3.bel)
  clear hn3
  go_wp2_with fail
  refine (rSame_any xs xs A2 A _ _ c2 c w3 (N2.out.reads.below N3.out.bel) (HR.out.below T3.out) HB.out HB.out).mono ?_
  rintro e w4 ⟨rfl, hd4⟩
  have D4 := Lib.hid hd4.below
  have T4 := Lib.hid (bl_seq T3.out hd4.below)
  clear hd4
  have b4 : (!decide (xs = xs)) = false := by simp
  have b5 : decide (xs = xs) = true := by simp
  go_wp2_with fail
  refine (rBytes_any v 4 _ v0 (by omega) (by omega)).mono ?_
  rintro e w5 ⟨v5, rfl, hn5⟩
  obtain ⟨A5, c5, rfl, hc5⟩ := hn5.slice
  have N5 := Lib.hid hn5
  have T5 := Lib.hid (bl_seq T4.out hn5.bel)
  have D5 := Lib.hid (bl_seq D4.out hn5.bel)
  clear hn5
  go_wp2_with fail
  refine (rWith_any xs (le v 4) A A5 c (le v 4).length c5 (4 * i) _ (HR.out.below T5.out) hc N5.out.reads (by omega) (by rw [le_length]; omega) (by omega)).mono ?_
  rintro e w6 ⟨v6, rfl, hn6⟩
  rw [le_length, show 4 * i + ((4 : Nat) : Int) = 4 * i + 4 by omega, ← HS.out.2.1] at hn6
  obtain ⟨A6, c6, rfl, hc6⟩ := hn6.slice
  have N6 := Lib.hid hn6
  have T6 := Lib.hid (bl_seq T5.out hn6.bel)
  have D6 := Lib.hid (bl_seq D5.out hn6.bel)
  have hyb : Byt ys := by have h_ := setL_byt HB.out i v; rwa [HS.out.1] at h_
  have HY := Lib.hid hyb
  clear hn6 hyb
  go_wp2_with fail
  refine (rSame_any ys ys A3 A6 _ _ c3 c6 w6 (N3.out.reads.below D6.out) N6.out.reads HY.out HY.out).mono ?_
  rintro e w7 ⟨rfl, hd7⟩
  have T7 := Lib.hid (bl_seq T6.out hd7.below)
  have D7 := Lib.hid (bl_seq D6.out hd7.below)
  have b7 : decide (ys = ys) = true := by simp
  clear hd7
  go_wp2_with fail
  refine (get_in ys A3 c3 i w7 (N3.out.reads.below D7.out) HY.out hc3 (by have h_ := HS.out.2.2.1; omega) hi0 (by have h_ := HS.out.2.2.1; omega)).mono ?_
  rintro e w8 ⟨rfl, hb8⟩
  rw [HS.out.2.2.2]
  have T8 := Lib.hid (bl_seq T7.out hb8)
  have D8 := Lib.hid (bl_seq D7.out hb8)
  have b8 : (v == v) = true := by simp
  clear hb8
  go_wp2_with fail
  refine (get_in xs A2 c2 i w8 ((N2.out.reads.below N3.out.bel).below D8.out) HB.out hc2 (by omega) hi0 hi).mono ?_
  rintro e w9 ⟨rfl, hb9⟩
  have T9 := Lib.hid (bl_seq T8.out hb9)
  obtain ⟨z, hz⟩ : ∃ z, num ((xs.drop (4 * i).toNat).take 4) = z := ⟨_, rfl⟩
  have HZ := Lib.hid hz
  rw [hz] at hn0 ⊢
  obtain ⟨z0, z1⟩ := hn0
  clear hb9 hz
  go_wp2_with fail
  refine (rNum_any xs A c (4 * i) 4 w9 (HR.out.below T9.out) HB.out (by omega) (by omega) (by omega)).mono ?_
  rintro e w10 ⟨rfl, hd10⟩
  rw [HZ.out]
  have T10 := Lib.hid (bl_seq T9.out hd10.below)
  clear hd10
  have b10 : (z == z) = true := by simp
  go_wp2_with fail
  go_ret
  exact ⟨by simp, T10.out⟩
theorem num_walk (xs : List Int) (A : Option Addr) (c : Nat) (i v : Int) (w : World) (hr : ReadsInt w .u8 A xs.length xs) (hb : Byt xs) (hc : xs.length ≤ c) (v0 : 0 ≤ v) (v1 : v < 4294967296) :
    Calls Try.prog 7 #[.slice A xs.length c, .int .i64 i, .int .u32 v] w fun e w' => e = .returned (.bool true) ∧ Below w.heap.size w w' := by
  by_cases h1 : xs.length ≤ 1100
  · by_cases h2 : 0 ≤ i ∧ 4 * i + 4 ≤ xs.length
    · exact num_in xs A c i v w hr hb hc h1 v0 v1 h2.1 h2.2
    · exact num_out xs A c i v w hr hb hc h1 v0 v1 h2
  · exact num_heavy xs A c i v w (by omega) hr.2.1
end Go.Proofs.Ytdcimjkgbnflbaa
