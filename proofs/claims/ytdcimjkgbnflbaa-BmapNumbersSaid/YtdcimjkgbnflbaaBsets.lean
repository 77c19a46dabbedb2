import Derived.Test.YtdcimjkgbnflbaaBset
import Derived.Test.YtdcimjkgbnflbaaA
/-! The law BmapSets: its walk. -/
set_option linter.unusedVariables false
set_option linter.unusedSimpArgs false
namespace Go.Proofs.Ytdcimjkgbnflbaa
open Go.RowKit Go.Proofs.YtdcimjkgbnflbaaW.PrintWords
theorem setN_get (xs ys : List Int) (k j : Nat) (hy : ys.length = 4) (hk : 4 * k + 4 ≤ xs.length) : (xs.take (4 * k) ++ ys ++ xs.drop (4 * k + 4))[j]? = if j < 4 * k then xs[j]? else if j < 4 * k + 4 then ys[j - 4 * k]? else xs[j]? := by
  rw [List.append_assoc, List.getElem?_append, List.length_take, Nat.min_eq_left (by omega)]
  by_cases h1 : j < 4 * k
  · rw [if_pos h1, if_pos h1, List.getElem?_take_of_lt h1]
  · rw [if_neg h1, if_neg h1, List.getElem?_append, hy]
    by_cases h2 : j < 4 * k + 4
    · rw [if_pos (by omega), if_pos h2]
    · rw [if_neg (by omega), if_neg h2, List.getElem?_drop, show 4 * k + 4 + (j - 4 * k - 4) = j by omega]
theorem setL_len (xs : List Int) (i v : Int) : (setL xs i v).length = xs.length := by
  unfold setL
  split
  · simp only [List.length_append, List.length_take, List.length_drop, le_length]; omega
  · rfl
theorem setL_byt {xs : List Int} (h : Byt xs) (i v : Int) : Byt (setL xs i v) := by
  unfold setL
  split
  · intro x hx
    simp only [List.mem_append] at hx
    rcases hx with (hx | hx) | hx
    · exact h x (List.mem_of_mem_take hx)
    · exact le_byt _ _ x hx
    · exact h x (List.mem_of_mem_drop hx)
  · exact h
theorem setL_comm (xs : List Int) (i k v u : Int) (h : i ≠ k) : setL (setL xs i v) k u = setL (setL xs k u) i v := by
  by_cases h1 : 0 ≤ i ∧ 4 * i + 4 ≤ xs.length
  · by_cases h2 : 0 ≤ k ∧ 4 * k + 4 ≤ xs.length
    · obtain ⟨a, rfl⟩ := Int.eq_ofNat_of_zero_le h1.1
      obtain ⟨b, rfl⟩ := Int.eq_ofNat_of_zero_le h2.1
      have la : (setL xs a v).length = xs.length := setL_len _ _ _
      have lb : (setL xs b u).length = xs.length := setL_len _ _ _
      have ea : ∀ zs : List Int, zs.length = xs.length → ∀ x : Int, setL zs a x = zs.take (4 * a) ++ le x 4 ++ zs.drop (4 * a + 4) := by
        intro zs hz x
        rw [setL, if_pos (by omega), show (4 * (a : Int)).toNat = 4 * a by omega, show (4 * (a : Int) + 4).toNat = 4 * a + 4 by omega]
      have eb : ∀ zs : List Int, zs.length = xs.length → ∀ x : Int, setL zs b x = zs.take (4 * b) ++ le x 4 ++ zs.drop (4 * b + 4) := by
        intro zs hz x
        rw [setL, if_pos (by omega), show (4 * (b : Int)).toNat = 4 * b by omega, show (4 * (b : Int) + 4).toNat = 4 * b + 4 by omega]
      rw [eb _ la, ea _ lb, ea _ rfl, eb _ rfl] at *
      apply List.ext_getElem?
      intro j
      rw [setN_get _ _ _ _ (le_length _ _) (by rw [la]; omega), setN_get _ _ _ _ (le_length _ _) (by omega), setN_get _ _ _ _ (le_length _ _) (by rw [lb]; omega), setN_get _ _ _ _ (le_length _ _) (by omega)]
      by_cases c1 : j < 4 * b <;> by_cases c2 : j < 4 * b + 4 <;> by_cases c3 : j < 4 * a <;> by_cases c4 : j < 4 * a + 4 <;> simp only [c1, c2, c3, c4, if_true, if_false] <;> omega
    · rw [setL, if_neg (by rw [setL_len]; exact h2), show setL xs k u = xs from if_neg h2]
  · by_cases h2 : 0 ≤ k ∧ 4 * k + 4 ≤ xs.length
    · rw [show setL xs i v = xs from if_neg h1, show setL (setL xs k u) i v = setL xs k u from if_neg (by rw [setL_len]; exact h1)]
    · rw [show setL xs i v = xs from if_neg h1, show setL xs k u = xs from if_neg h2, show setL xs i v = xs from if_neg h1]
theorem set_any (xs : List Int) (A : Option Addr) (c : Nat) (i v : Int) (w : World) (hr : ReadsInt w .u8 A xs.length xs) (hl : xs.length ≤ 1099511627776) (v0 : 0 ≤ v) (v1 : v < 4294967296) :
    Calls Try.prog 12 #[.slice A xs.length c, .int .i64 i, .int .u32 v] w fun e w' => ∃ v', e = .returned v' ∧ New w w' v' (setL xs i v) := by
  by_cases h1 : 0 ≤ i ∧ 4 * i + 4 ≤ xs.length
  · rw [setL, if_pos h1]; exact set_in xs A c i v w hr hl h1.1 h1.2 v0 v1
  · rw [setL, if_neg h1]; exact set_out xs A c i v w hr hl h1
set_option maxHeartbeats 2000000 in
theorem sets_main (xs : List Int) (A : Option Addr) (c : Nat) (i k v u : Int) (w : World) (hr : ReadsInt w .u8 A xs.length xs) (hb : Byt xs) (hl : xs.length ≤ 1100) (hik : i ≠ k) (v0 : 0 ≤ v) (v1 : v < 4294967296) (u0 : 0 ≤ u) (u1 : u < 4294967296) :
    Calls Try.prog 6 #[.agg #[.slice A xs.length c, .int .i64 i, .int .i64 k, .int .u32 v, .int .u32 u]] w fun e w' => e = .returned (.bool true) ∧ Below w.heap.size w w' := by
  have HR := Lib.hid hr
  have HB := Lib.hid hb
  have HC := Lib.hid (setL_comm xs i k v u hik)
  have b1 : (i == k) = false := by simpa using hik
  have b2 : ¬ (1100 : Int) < xs.length := by omega
  clear hr hb hik
  go_enter Try.func6, Try.ntmps6
  go_wp2
  go_quiet (fail)
  have T0 : Hid (Below w.heap.size w ((w.alloc (.cells #[.slice A xs.length c, .int .i64 i, .int .i64 k, .int .u32 v, .int .u32 u] 42)).drewN nq)) := Lib.hid (bl_drewN (bl_alloc (Below.refl _ _) _) nq)
  go_wp2_with fail
  refine (found_any _).mono ?_
  rintro e w1 ⟨rfl, hb1⟩
  have T1 := Lib.hid (bl_seq T0.out hb1)
  clear hb1
  go_wp2_with fail
  refine (set_any xs A c i v _ (HR.out.below T1.out) (by omega) v0 v1).mono ?_
  rintro e w2 ⟨v2, rfl, hn2⟩
  obtain ⟨A2, c2, rfl, hc2⟩ := hn2.slice
  have N2 := Lib.hid hn2
  have T2 := Lib.hid (bl_seq T1.out hn2.bel)
  clear hn2
  go_wp2_with fail
  refine (set_any (setL xs i v) A2 c2 k u _ N2.out.reads (by rw [setL_len]; omega) u0 u1).mono ?_
  rintro e w3 ⟨v3, rfl, hn3⟩
  obtain ⟨A3, c3, rfl, hc3⟩ := hn3.slice
  have N3 := Lib.hid hn3
  have T3 := Lib.hid (bl_seq T2.out hn3.bel)
  clear hn3
  go_wp2_with fail
  refine (set_any xs A c k u _ (HR.out.below T3.out) (by omega) u0 u1).mono ?_
  rintro e w4 ⟨v4, rfl, hn4⟩
  obtain ⟨A4, c4, rfl, hc4⟩ := hn4.slice
  have N4 := Lib.hid hn4
  have T4 := Lib.hid (bl_seq T3.out hn4.bel)
  clear hn4
  go_wp2_with fail
  refine (set_any (setL xs k u) A4 c4 i v _ N4.out.reads (by rw [setL_len]; omega) v0 v1).mono ?_
  rintro e w5 ⟨v5, rfl, hn5⟩
  obtain ⟨A5, c5, rfl, hc5⟩ := hn5.slice
  have N5 := Lib.hid hn5
  have T5 := Lib.hid (bl_seq T4.out hn5.bel)
  have hl3 : (setL (setL xs i v) k u).length = xs.length := by rw [setL_len, setL_len]
  clear hn5 hc2 hc3 hc4 hc5
  go_wp2_with fail
  have r3 : ReadsInt w5 .u8 A3 xs.length (setL (setL xs i v) k u) := by have h_ := N3.out.reads.below (bl_seq N4.out.bel N5.out.bel); rwa [hl3] at h_
  have r5 : ReadsInt w5 .u8 A5 (setL (setL xs k u) i v).length (setL (setL xs i v) k u) := by have h_ := N5.out.reads; rwa [← HC.out] at h_ ⊢
  refine (rSame_any _ _ A3 A5 _ _ c3 c5 w5 r3 r5 (setL_byt (setL_byt HB.out _ _) _ _) (setL_byt (setL_byt HB.out _ _) _ _)).mono ?_
  rintro e w6 ⟨rfl, hd6⟩
  have T6 := Lib.hid (bl_seq T5.out hd6.below)
  clear hd6 r3 r5
  go_wp2_with fail
  go_ret
  exact ⟨by simp, T6.out⟩
set_option maxHeartbeats 2000000 in
theorem sets_light (xs : List Int) (A : Option Addr) (n c : Nat) (i k v u : Int) (w : World) (hl : 1100 < n ∨ i = k) (hn : n ≤ 9223372036854775807) :
    Calls Try.prog 6 #[.agg #[.slice A n c, .int .i64 i, .int .i64 k, .int .u32 v, .int .u32 u]] w fun e w' => e = .returned (.bool true) ∧ Below w.heap.size w w' := by
  by_cases b2 : (1100 : Int) < n
  · clear hl
    go_enter Try.func6, Try.ntmps6
    go_wp2
    go_quiet (fail)
    have T0 : Hid (Below w.heap.size w ((w.alloc (.cells #[.slice A n c, .int .i64 i, .int .i64 k, .int .u32 v, .int .u32 u] 42)).drewN nq)) := Lib.hid (bl_drewN (bl_alloc (Below.refl _ _) _) nq)
    go_wp2_with fail
    refine (found_any _).mono ?_
    rintro e w1 ⟨rfl, hb1⟩
    have T1 := Lib.hid (bl_seq T0.out hb1)
    clear hb1
    go_wp2_with fail
    refine (found_any _).mono ?_
    rintro e w2 ⟨rfl, hb2⟩
    have T2 := Lib.hid (bl_seq T1.out hb2)
    clear hb2
    go_wp2_with fail
    go_ret
    exact ⟨by simp, T2.out⟩
  · obtain rfl : i = k := by rcases hl with h | h; omega; exact h
    clear hl
    have b1 : (i == i) = true := by simp
    go_enter Try.func6, Try.ntmps6
    go_wp2
    go_quiet (fail)
    have T0 : Hid (Below w.heap.size w ((w.alloc (.cells #[.slice A n c, .int .i64 i, .int .i64 i, .int .u32 v, .int .u32 u] 42)).drewN nq)) := Lib.hid (bl_drewN (bl_alloc (Below.refl _ _) _) nq)
    go_wp2_with fail
    refine (found_any _).mono ?_
    rintro e w1 ⟨rfl, hb1⟩
    have T1 := Lib.hid (bl_seq T0.out hb1)
    clear hb1
    go_wp2_with fail
    refine (found_any _).mono ?_
    rintro e w2 ⟨rfl, hb2⟩
    have T2 := Lib.hid (bl_seq T1.out hb2)
    clear hb2
    go_wp2_with fail
    go_ret
    exact ⟨by simp, T2.out⟩
theorem sets_walk (xs : List Int) (A : Option Addr) (c : Nat) (i k v u : Int) (w : World) (hr : ReadsInt w .u8 A xs.length xs) (hb : Byt xs) (v0 : 0 ≤ v) (v1 : v < 4294967296) (u0 : 0 ≤ u) (u1 : u < 4294967296) :
    Calls Try.prog 6 #[.agg #[.slice A xs.length c, .int .i64 i, .int .i64 k, .int .u32 v, .int .u32 u]] w fun e w' => e = .returned (.bool true) ∧ Below w.heap.size w w' := by
  by_cases h1 : xs.length ≤ 1100
  · by_cases h2 : i = k
    · exact sets_light xs A _ c i k v u w (.inr h2) hr.2.1
    · exact sets_main xs A c i k v u w hr hb h1 h2 v0 v1 u0 u1
  · exact sets_light xs A _ c i k v u w (.inl (by omega)) hr.2.1
end Go.Proofs.Ytdcimjkgbnflbaa
