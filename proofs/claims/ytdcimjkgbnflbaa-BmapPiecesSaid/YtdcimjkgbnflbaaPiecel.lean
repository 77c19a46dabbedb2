import Derived.Test.YtdcimjkgbnflbaaPieces
/-! The law BmapPieces: its walk. -/
set_option linter.unusedVariables false
namespace Go.Proofs.Ytdcimjkgbnflbaa
open Go.RowKit Go.Proofs.YtdcimjkgbnflbaaW.PrintWords
theorem pcells_at (l : List (Int × Int × Int)) (i : Nat) (h : i < l.length) : (pcells l)[i * 3]? = some (.int .i64 (l.getD i (0, 0, 0)).1) ∧ (pcells l)[i * 3 + 1]? = some (.int .i64 (l.getD i (0, 0, 0)).2.1) ∧ (pcells l)[i * 3 + 2]? = some (.int .i64 (l.getD i (0, 0, 0)).2.2) := by
  induction l generalizing i with
  | nil => simp at h
  | cons x l ih =>
    cases i with
    | zero => simp [pcells]
    | succ i =>
      have := ih i (by simpa using h)
      have e : pcells (x :: l) = [.int .i64 x.1, .int .i64 x.2.1, .int .i64 x.2.2] ++ pcells l := by simp [pcells]
      rw [e, show (i + 1) * 3 = i * 3 + 3 by omega]
      simpa [List.getElem?_append_right] using this
theorem pcs_pos {s x m : Int} {f : Nat} (h : pcs s f x m ≠ []) : 0 < m := by
  rcases Int.lt_or_le 0 m with h1 | h1
  · exact h1
  · exact absurd (pcs_end h1) h
set_option maxHeartbeats 1000000 in
theorem pieces_na (a n s : Int) (w : World) (h1 : a < 0) (h2 : ¬ 5000 < n) (hc : Hid (Calls Try.prog 11 #[.int .i64 a, .int .i64 n, .int .i64 s] w (PcsPost w [] 34))) :
    Calls Try.prog 5 #[.int .i64 a, .int .i64 n, .int .i64 s] w fun e w' => e = .returned (.bool true) ∧ Below w.heap.size w w' := by
  go_enter Try.func5, Try.ntmps5
  go_wp2_with fail
  refine hc.out.mono ?_
  rintro e w1 ⟨v1, rfl, ho1, hb1⟩
  obtain ⟨A1, k1, rfl⟩ := own_slice ho1
  clear ho1
  go_wp2_with fail
  refine (found_any _).mono ?_
  rintro e w2 ⟨rfl, hb2⟩
  go_wp2_with fail
  go_ret
  exact ⟨rfl, bl_seq hb1 hb2⟩
set_option maxHeartbeats 1000000 in
theorem pieces_nb (a n s : Int) (w : World) (h1 : a < 0) (h2 : 1048576 < n) (h3 : 5000 < n) (hc : Hid (Calls Try.prog 11 #[.int .i64 a, .int .i64 n, .int .i64 s] w (PcsPost w [] 34))) :
    Calls Try.prog 5 #[.int .i64 a, .int .i64 n, .int .i64 s] w fun e w' => e = .returned (.bool true) ∧ Below w.heap.size w w' := by
  go_enter Try.func5, Try.ntmps5
  go_wp2_with fail
  refine hc.out.mono ?_
  rintro e w1 ⟨v1, rfl, ho1, hb1⟩
  obtain ⟨A1, k1, rfl⟩ := own_slice ho1
  clear ho1
  go_wp2_with fail
  refine (found_any _).mono ?_
  rintro e w2 ⟨rfl, hb2⟩
  go_wp2_with fail
  go_ret
  exact ⟨rfl, bl_seq hb1 hb2⟩
set_option maxHeartbeats 1000000 in
theorem pieces_nc (a n s : Int) (w : World) (h1 : ¬ a < 0) (h2 : n < 0) (hc : Hid (Calls Try.prog 11 #[.int .i64 a, .int .i64 n, .int .i64 s] w (PcsPost w [] 34))) :
    Calls Try.prog 5 #[.int .i64 a, .int .i64 n, .int .i64 s] w fun e w' => e = .returned (.bool true) ∧ Below w.heap.size w w' := by
  go_enter Try.func5, Try.ntmps5
  go_wp2_with fail
  refine hc.out.mono ?_
  rintro e w1 ⟨v1, rfl, ho1, hb1⟩
  obtain ⟨A1, k1, rfl⟩ := own_slice ho1
  clear ho1
  go_wp2_with fail
  refine (found_any _).mono ?_
  rintro e w2 ⟨rfl, hb2⟩
  go_wp2_with fail
  go_ret
  exact ⟨rfl, bl_seq hb1 hb2⟩
set_option maxHeartbeats 1000000 in
theorem pieces_nd (a n s : Int) (w : World) (h1 : ¬ a < 0) (h2 : ¬ n < 0) (h3 : 2147483648 < a) (h4 : ¬ 5000 < n) (hc : Hid (Calls Try.prog 11 #[.int .i64 a, .int .i64 n, .int .i64 s] w (PcsPost w [] 34))) :
    Calls Try.prog 5 #[.int .i64 a, .int .i64 n, .int .i64 s] w fun e w' => e = .returned (.bool true) ∧ Below w.heap.size w w' := by
  go_enter Try.func5, Try.ntmps5
  go_wp2_with fail
  refine hc.out.mono ?_
  rintro e w1 ⟨v1, rfl, ho1, hb1⟩
  obtain ⟨A1, k1, rfl⟩ := own_slice ho1
  clear ho1
  go_wp2_with fail
  refine (found_any _).mono ?_
  rintro e w2 ⟨rfl, hb2⟩
  go_wp2_with fail
  go_ret
  exact ⟨rfl, bl_seq hb1 hb2⟩
set_option maxHeartbeats 1000000 in
theorem pieces_ne (a n s : Int) (w : World) (h1 : ¬ a < 0) (h3 : 2147483648 < a) (h4 : 1048576 < n) (h5 : 5000 < n) (hc : Hid (Calls Try.prog 11 #[.int .i64 a, .int .i64 n, .int .i64 s] w (PcsPost w [] 34))) :
    Calls Try.prog 5 #[.int .i64 a, .int .i64 n, .int .i64 s] w fun e w' => e = .returned (.bool true) ∧ Below w.heap.size w w' := by
  go_enter Try.func5, Try.ntmps5
  go_wp2_with fail
  refine hc.out.mono ?_
  rintro e w1 ⟨v1, rfl, ho1, hb1⟩
  obtain ⟨A1, k1, rfl⟩ := own_slice ho1
  clear ho1
  go_wp2_with fail
  refine (found_any _).mono ?_
  rintro e w2 ⟨rfl, hb2⟩
  go_wp2_with fail
  go_ret
  exact ⟨rfl, bl_seq hb1 hb2⟩
set_option maxHeartbeats 1000000 in
theorem pieces_nf (a n s : Int) (w : World) (h1 : ¬ a < 0) (h3 : ¬ 2147483648 < a) (h4 : 1048576 < n) (h5 : 5000 < n) (hc : Hid (Calls Try.prog 11 #[.int .i64 a, .int .i64 n, .int .i64 s] w (PcsPost w [] 34))) :
    Calls Try.prog 5 #[.int .i64 a, .int .i64 n, .int .i64 s] w fun e w' => e = .returned (.bool true) ∧ Below w.heap.size w w' := by
  go_enter Try.func5, Try.ntmps5
  go_wp2_with fail
  refine hc.out.mono ?_
  rintro e w1 ⟨v1, rfl, ho1, hb1⟩
  obtain ⟨A1, k1, rfl⟩ := own_slice ho1
  clear ho1
  go_wp2_with fail
  refine (found_any _).mono ?_
  rintro e w2 ⟨rfl, hb2⟩
  go_wp2_with fail
  go_ret
  exact ⟨rfl, bl_seq hb1 hb2⟩
set_option maxHeartbeats 1000000 in
theorem pieces_ng (a n s : Int) (w : World) (h1 : ¬ a < 0) (h2 : ¬ n < 0) (h3 : ¬ 2147483648 < a) (h4 : ¬ 5000 < n) (h5 : s < 1) (hc : Hid (Calls Try.prog 11 #[.int .i64 a, .int .i64 n, .int .i64 s] w (PcsPost w [] 34))) :
    Calls Try.prog 5 #[.int .i64 a, .int .i64 n, .int .i64 s] w fun e w' => e = .returned (.bool true) ∧ Below w.heap.size w w' := by
  go_enter Try.func5, Try.ntmps5
  go_wp2_with fail
  refine hc.out.mono ?_
  rintro e w1 ⟨v1, rfl, ho1, hb1⟩
  obtain ⟨A1, k1, rfl⟩ := own_slice ho1
  clear ho1
  go_wp2_with fail
  refine (found_any _).mono ?_
  rintro e w2 ⟨rfl, hb2⟩
  go_wp2_with fail
  go_ret
  exact ⟨rfl, bl_seq hb1 hb2⟩
set_option maxHeartbeats 4000000 in
set_option maxRecDepth 100000 in
theorem pieces_walk (a n s : Int) (w : World) (a0 : -9223372036854775808 ≤ a) (a1 : a ≤ 9223372036854775807) (n0 : -9223372036854775808 ≤ n) (n1 : n ≤ 9223372036854775807) (s0 : -9223372036854775808 ≤ s) (s1 : s ≤ 9223372036854775807) :
    Calls Try.prog 5 #[.int .i64 a, .int .i64 n, .int .i64 s] w fun e w' => e = .returned (.bool true) ∧ Below w.heap.size w w' := by
  by_cases c0 : 5000 < n ∧ n ≤ 1048576
  · obtain ⟨c1, c2⟩ := c0
    go_enter Try.func5, Try.ntmps5
    go_wp2_with fail
    refine (found_any _).mono ?_
    rintro e w1 ⟨rfl, hb1⟩
    go_wp2_with fail
    go_ret
    exact ⟨rfl, hb1⟩
  by_cases c3 : a < 0 ∨ n < 0 ∨ 2147483648 < a ∨ 1048576 < n ∨ s < 1
  · have hc := Lib.hid (pieces_no a n s w c3)
    by_cases b1 : a < 0
    · by_cases b2 : 5000 < n
      · exact pieces_nb a n s w b1 (by omega) b2 hc
      · exact pieces_na a n s w b1 b2 hc
    by_cases b2 : n < 0
    · exact pieces_nc a n s w b1 b2 hc
    by_cases b3 : 2147483648 < a
    · by_cases b4 : 5000 < n
      · exact pieces_ne a n s w b1 b3 (by omega) b4 hc
      · exact pieces_nd a n s w b1 b2 b3 b4 hc
    by_cases b4 : 1048576 < n
    · exact pieces_nf a n s w b1 b3 b4 (by omega) hc
    · exact pieces_ng a n s w b1 b2 b3 (by omega) (by omega) hc
  · have d1 : 0 ≤ a := by omega
    have d2 : 0 ≤ n := by omega
    have d3 : a ≤ 2147483648 := by omega
    have d4 : n ≤ 1048576 := by omega
    have d5 : 1 ≤ s := by omega
    have d6 : n ≤ 5000 := by omega
    have hc := Lib.hid (pieces_yes a n s w d1 d2 d3 d4 d5 s1)
    obtain ⟨l, hl⟩ : ∃ l, pcs s n.toNat a n = l := ⟨_, rfl⟩
    have hll := pcs_len d5 n.toNat a n
    rw [hl] at hll hc
    have HL := Lib.hid hl
    have hl5 : l.length ≤ 5000 := by omega
    clear c0 c3 hl hll
    go_enter Try.func5, Try.ntmps5
    go_wp2_with fail
    refine hc.out.mono ?_
    clear hc
    rintro e w1 ⟨v1, rfl, ho1, hb1⟩
    obtain ⟨A1, k1, rfl⟩ := own_slice ho1
    have HO := Lib.hid ho1
    have HB1 := Lib.hid hb1
    clear ho1 hb1
    go_wp2
    go_loopw [0, 1, 10] (fun av nv i wr => ∃ (x m : Int) (k f : Nat), av = .int .i64 x ∧ nv = .int .i64 m ∧ i = .int .i64 (k : Int) ∧ k ≤ l.length ∧ 0 ≤ x ∧ x ≤ 2147483648 + 1048576 - m ∧ 0 ≤ m ∧ m ≤ 1048576 ∧ m.toNat ≤ f ∧ Hid (l.drop k = pcs s f x m) ∧ Hid (Below w1.heap.size w1 wr)) (fun _ _ i _ => l.length - (intOf i).toNat)
    case atStart => exact ⟨a, n, 0, n.toNat, rfl, rfl, rfl, Nat.zero_le _, d1, by omega, d2, d4, Nat.le_refl _, Lib.hid HL.out.symm, Lib.hid (Below.refl _ _)⟩
    case round =>
      obtain ⟨x, m, k, f, rfl, rfl, rfl, hk, hx0, hx1, hm0, hm1, hf, HD, HB⟩ := hrel
      by_cases hlt : k < l.length
      · obtain ⟨g, c1, hg, _, hgl⟩ := HO.out.form (by omega)
        injection hg with hg1 _ hg3
        subst hg1 hg3
        obtain ⟨u1, u2, u3⟩ := pcells_at l k hlt
        have e1 := (HB.out.cell (p := (⟨g, 0, none⟩ : Addr).add (k * 3)) (by rw [add_plain]; exact hgl)).trans (HO.out.cells rfl _ _ u1)
        have e2 := (HB.out.cell (p := (⟨g, 0, none⟩ : Addr).add (k * 3 + 1)) (by rw [add_plain]; exact hgl)).trans (HO.out.cells rfl _ _ u2)
        have e3 := (HB.out.cell (p := (⟨g, 0, none⟩ : Addr).add (k * 3 + 2)) (by rw [add_plain]; exact hgl)).trans (HO.out.cells rfl _ _ u3)
        rw [add_plain] at e1 e2 e3
        have hmp : 0 < m := pcs_pos (s := s) (x := x) (f := f) (by rw [← HD.out]; intro e; have := congrArg List.length e; simp at this; omega)
        obtain ⟨k1', k2, k3, k4⟩ := pcs_step (a := x) hmp hf d5
        have hr1 := Int.emod_lt_of_pos x (show 0 < s by omega)
        have hr0 := Int.emod_nonneg x (show s ≠ 0 by omega)
        have t1 : x.tmod s = x % s := Int.tmod_eq_emod_of_nonneg hx0
        have t2 : x.tdiv s = x / s := Int.tdiv_eq_ediv_of_nonneg hx0
        have q0 := Int.ediv_nonneg hx0 (show 0 ≤ s by omega)
        have q1 := Int.ediv_le_self (a := x) s hx0
        have hd2 := HD.out
        rw [k1', List.drop_eq_getElem_cons hlt] at hd2
        injection hd2 with hd3 hd4
        have hgd : l.getD k (0, 0, 0) = (x / s, x % s, min m (s - x % s)) := by rw [List.getD_eq_getElem?_getD, List.getElem?_eq_getElem hlt]; exact hd3
        rw [hgd] at e1 e2 e3
        obtain ⟨r, hr⟩ : ∃ r, x % s = r := ⟨_, rfl⟩
        obtain ⟨q, hq⟩ : ∃ q, x / s = q := ⟨_, rfl⟩
        rw [hr] at e2 e3 k2 k3 k4 hr1 hr0 t1 hd4
        rw [hq] at e1 t2 q0 q1
        have hlast : k < l.length - 1 → min m (s - r) = s - r := by
          intro hk1
          have h_ := congrArg List.length hd4
          rw [List.length_drop] at h_
          have h2_ : 0 < m - min m (s - r) := pcs_pos (s := s) (x := x + min m (s - r)) (f := f - 1) (by intro e; rw [e] at h_; simp at h_; omega)
          omega
        obtain ⟨z, hz⟩ : ∃ z, min m (s - r) = z := ⟨_, rfl⟩
        have hzr : z ≤ s - r := by omega
        rw [hz] at e3 k2 k3 k4 hlast hd4
        have HDR := Lib.hid hd4
        have K4 := Lib.hid k4
        have hsz : ¬ s = 0 := by omega
        have hw : wrap64 q = q := by unfold wrap64; omega
        have b1 : (q != q) = false := by simp
        have b2 : (r != r) = false := by simp
        clear hd3 hgd k1' k4 u1 u2 u3 hr hq hz hd4
        by_cases hk1 : (k : Int) < (l.length : Int) - 1
        · have hzs : r + z = s := by have := hlast (by omega); omega
          have HZ := Lib.hid hzs
          have b3 : (r + z != s) = false := by rw [hzs]; simp
          clear hlast hzs
          go_wp2
          have n1 : ¬ z < 1 := by omega
          have n2 : ¬ r < 0 := by omega
          have n3 : ¬ s - r < z := by omega
          have n4 : (k : Int) < (l.length : Int) - 1 := by omega
          have hsz : ¬ s = 0 := by omega
          go_quiet (fail)
          go_wp2
          go_quiet (fail)
          go_wp2
          go_roundw
          case rel =>
            refine ⟨x + z, m - z, k + 1, f - 1, rfl, rfl, by go_num, by omega, by omega, by omega, by omega, by omega, K4.out, HDR, Lib.hid ?_⟩
            have b_ := HB.out
            exact bl_drewN (bl_alloc b_ _) _
          case measure => simp [intOf]; omega
        · clear hlast
          go_wp2
          have n1 : ¬ z < 1 := by omega
          have n2 : ¬ r < 0 := by omega
          have n3 : ¬ s - r < z := by omega
          have n4 : ¬ (k : Int) < (l.length : Int) - 1 := by omega
          have hsz : ¬ s = 0 := by omega
          go_quiet (fail)
          go_wp2
          go_quiet (fail)
          go_wp2
          go_roundw
          case rel =>
            refine ⟨x + z, m - z, k + 1, f - 1, rfl, rfl, by go_num, by omega, by omega, by omega, by omega, by omega, K4.out, HDR, Lib.hid ?_⟩
            have b_ := HB.out
            exact bl_drewN (bl_alloc b_ _) _
          case measure => simp [intOf]; omega
      · have hke : k = l.length := by omega
        subst hke
        have hm00 : ¬ 0 < m := by
          intro hmp
          obtain ⟨k1', _⟩ := pcs_step (a := x) hmp hf d5
          have h_ := HD.out
          rw [k1'] at h_
          simp at h_
        have hm0' : m = 0 := by omega
        subst hm0'
        go_wp2_with fail
        refine (found_any _).mono ?_
        rintro e w2 ⟨rfl, hb2⟩
        go_wp2_with fail
        go_ret
        exact ⟨rfl, bl_seq (bl_seq HB1.out HB.out) hb2⟩
end Go.Proofs.Ytdcimjkgbnflbaa
