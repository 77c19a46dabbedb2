import Derived.Test.YtdcelfoomjahjaaAt
/-! The law InodeNexts: its walk. -/
set_option linter.unusedVariables false
set_option linter.unusedSimpArgs false
namespace Go.Proofs.Ytdcelfoomjahjaa
open Go.RowKit Go.Proofs.YtdcelfoomjahjaaW.PrintWords
/-- A layout of a size that may be: none, or its numbers. -/
theorem layF_two (b q : Int) (b0 : 1 ≤ b) (b1 : b ≤ 1048576) (q4 : 4 ≤ q) (q16 : q ≤ 16) :
    layF b (64 * q) = ((0, 0, 0, 0, 0), 28) ∨ ∃ n k, layF b (64 * q) = ((n * q, n, n + k, b, 64 * q), 0) ∧ 0 ≤ n ∧ n ≤ 262160 ∧ 0 ≤ n * q ∧ n * q ≤ 262160 ∧ k = (b + 8 * (64 * q) - 1) / (8 * (64 * q)) := by
  have hqe : 64 * q / 64 = q := by omega
  obtain ⟨m, hm⟩ : ∃ m, max 16 (b / 4) = m := ⟨_, rfl⟩
  have hm0 : 16 ≤ m := by omega
  have hm1 : m ≤ 262144 := by omega
  obtain ⟨n, hn⟩ : ∃ n, (m + q - 1) / q = n := ⟨_, rfl⟩
  have hn0 : 0 ≤ n := by rw [← hn]; exact Int.ediv_nonneg (by omega) (by omega)
  have hn1 : n ≤ 262160 := by rw [← hn]; exact Int.le_trans (Int.ediv_le_self _ (by omega)) (by omega)
  have hn2 : n * q ≤ 262160 := by rw [← hn]; exact Int.le_trans (Int.ediv_mul_le _ (by omega)) (by omega)
  have hn3 : 0 ≤ n * q := Int.mul_nonneg hn0 (by omega)
  unfold layF
  rw [if_neg (by omega), hm, hqe, hn]
  by_cases d : b < n + (b + 8 * (64 * q) - 1) / (8 * (64 * q)) + 8
  · rw [if_pos d]; exact .inl rfl
  · rw [if_neg d]; exact .inr ⟨n, _, rfl, hn0, hn1, hn3, hn2, rfl⟩
abbrev LayC (b s : Int) (x1 x2 x3 x4 x5 e : Int) : Prop := ∀ w, Calls Try.prog 9 #[.int .i64 b, .int .i64 s] w fun e' w' => e' = .returned (.tuple #[.agg #[.int .i64 x1, .int .i64 x2, .int .i64 x3, .int .i64 x4, .int .i64 x5], .int .i64 e]) ∧ Below w.heap.size w w'
theorem LayC.of {b s x1 x2 x3 x4 x5 e : Int} (h : layF b s = ((x1, x2, x3, x4, x5), e)) (h0 : -9223372036854775808 ≤ b) (h1 : b ≤ 9223372036854775807) (h2 : -9223372036854775808 ≤ s) (h3 : s ≤ 9223372036854775807) : LayC b s x1 x2 x3 x4 x5 e := by
  intro w
  have := lay_any b s w h0 h1 h2 h3
  rw [h] at this
  exact this
set_option maxHeartbeats 1000000 in
theorem inexts_none (a0 a1 a2 B J : Int) (w : World) (hB : (IntKind.u64.wrap a0).tmod 5000 = B) (B0 : 0 ≤ B) (B1 : B < 5000) (hJ : (IntKind.u64.wrap a1).tmod 13 = J) (J0 : 0 ≤ J) (J1 : J < 13) (hc : Hid (LayC (40 + B) (256 + 64 * J) 0 0 0 0 0 28)) :
    Calls Try.prog 5 #[.int .i64 a0, .int .i64 a1, .int .u32 a2] w fun e w' => e = .returned (.bool true) ∧ Below w.heap.size w w' := by
  go_enter Try.func5, Try.ntmps5
  go_wp2_with fail
  refine (hc.out _).mono ?_
  rintro e w1 ⟨rfl, hb1⟩
  have H1 := Lib.hid hb1
  clear hb1
  go_wp2_with fail
  refine (laid_any _).mono ?_
  rintro e w2 ⟨rfl, hb2⟩
  have H2 := Lib.hid hb2
  clear hb2
  go_wp2_with fail
  refine (laid_any _).mono ?_
  rintro e w3 ⟨rfl, hb3⟩
  have H3 := Lib.hid hb3
  clear hb3
  go_wp2_with fail
  go_ret
  exact ⟨by first | rfl | simp, bl_seq (bl_seq (bl_alloc H1.out _) H2.out) H3.out⟩
abbrev AtC (x1 x2 x3 x4 x5 n p i : Int) (ok : Bool) : Prop := ∀ w, Calls Try.prog 13 #[.agg #[.int .i64 x1, .int .i64 x2, .int .i64 x3, .int .i64 x4, .int .i64 x5], .int .u32 n] w fun e w' => e = .returned (.tuple #[.int .i64 p, .int .i64 i, .bool ok]) ∧ Below w.heap.size w w'
set_option maxHeartbeats 2000000 in
theorem inexts_some (a0 a1 a2 B J N x1 x2 x3 x4 q p i p' i' : Int) (ok ok' : Bool) (w : World) (hB : (IntKind.u64.wrap a0).tmod 5000 = B) (B0 : 0 ≤ B) (B1 : B < 5000) (hJ : (IntKind.u64.wrap a1).tmod 13 = J) (J0 : 0 ≤ J) (J1 : J < 13)
    (hN : a2.tmod 2000 = N) (N0 : 0 ≤ N) (N1 : N < 2000) (hc : Hid (LayC (40 + B) (256 + 64 * J) x1 x2 x3 x4 (64 * q) 0)) (hd : Hid (AtC x1 x2 x3 x4 (64 * q) (N + 1) p i ok)) (hd' : Hid (AtC x1 x2 x3 x4 (64 * q) (N + 2) p' i' ok'))
    (i0 : 0 ≤ i) (i1 : i ≤ 1048576) (p0 : 0 ≤ p) (p1 : p ≤ 1048576) (hok : Hid (ok' = true → ok = true)) (he : Hid (ok = true → ok' = true → (p' = p ∧ i' = i + 64) ∨ (p' = p + 1 ∧ i' = 0 ∧ i = 256 + 64 * J - 64))) :
    Calls Try.prog 5 #[.int .i64 a0, .int .i64 a1, .int .u32 a2] w fun e w' => e = .returned (.bool true) ∧ Below w.heap.size w w' := by
  go_enter Try.func5, Try.ntmps5
  go_wp2_with fail
  refine (hc.out _).mono ?_
  rintro e w1 ⟨rfl, hb1⟩
  have H1 := Lib.hid hb1
  clear hb1
  go_wp2_with fail
  refine (laid_any _).mono ?_
  rintro e w2 ⟨rfl, hb2⟩
  have hbx : (w1.alloc (.cells #[.int .i64 x1, .int .i64 x2, .int .i64 x3, .int .i64 x4, .int .i64 (64 * q)] 23)).heap[w1.heap.size]? = some (.cells #[.int .i64 x1, .int .i64 x2, .int .i64 x3, .int .i64 x4, .int .i64 (64 * q)] 23 (0, 0)) := heap_alloc_new _ _
  have hbx2 := (hb2.block _ (by simp)).trans hbx
  have z0 := (blk_cell hbx2 0).trans rfl
  have z1 := (blk_cell hbx2 1).trans rfl
  have z2 := (blk_cell hbx2 2).trans rfl
  have z3 := (blk_cell hbx2 3).trans rfl
  have z4 := (blk_cell hbx2 4).trans rfl
  have H2 := Lib.hid hb2
  have HX := Lib.hid hbx2
  clear hb2 hbx hbx2
  go_wp2_with fail
  refine (hd.out _).mono ?_
  rintro e w3 ⟨rfl, hb3⟩
  have hbx3 := (hb3.block _ (blk_lt HX.out)).trans HX.out
  clear z0 z1 z2 z3 z4
  have z0 := (blk_cell hbx3 0).trans rfl
  have z1 := (blk_cell hbx3 1).trans rfl
  have z2 := (blk_cell hbx3 2).trans rfl
  have z3 := (blk_cell hbx3 3).trans rfl
  have z4 := (blk_cell hbx3 4).trans rfl
  have H3 := Lib.hid hb3
  clear hb3 hbx3 HX
  go_wp2_with fail
  refine (hd'.out _).mono ?_
  rintro e w4 ⟨rfl, hb4⟩
  have H4 := Lib.hid hb4
  clear hb4 z0 z1 z2 z3 z4
  have HB : Hid (Below w.heap.size w w4) := Lib.hid (bl_seq (bl_seq (bl_seq (bl_alloc H1.out _) H2.out) H3.out) H4.out)
  clear H1 H2 H3 H4
  cases ok
  · have : ok' = false := by
      cases h : ok'
      · rfl
      · exact absurd (hok.out h) (by decide)
    subst this
    go_wp2_with fail
    go_ret
    exact ⟨by first | rfl | simp, HB.out⟩
  · cases ok'
    · go_wp2_with fail
      go_ret
      exact ⟨by first | rfl | simp, HB.out⟩
    · rcases he.out rfl rfl with ⟨e1, e2⟩ | ⟨e1, e2, e3⟩
      · subst e1 e2
        clear he hok
        go_wp2_with fail
        go_ret
        exact ⟨by first | rfl | simp, HB.out⟩
      · subst e1 e2
        clear he hok
        by_cases c : (0 : Int) = i + 64
        · omega
        have c2 : ¬ p + 1 = p := by omega
        go_wp2_with fail
        go_ret
        exact ⟨by first | rfl | simp, HB.out⟩
theorem at_any (x1 x2 x3 x4 q n : Int) (hq4 : 4 ≤ q) (hq : q ≤ 16) (h0 : 1 ≤ n) (h3 : n < 4294967296) (h2 : 0 ≤ x1) (h4 : x1 ≤ 1073741824) : AtC x1 x2 x3 x4 (64 * q) n (if n ≤ x1 then (n - 1) / q else 0) (if n ≤ x1 then (n - 1) % q * 64 else 0) (decide (n ≤ x1)) := by
  intro w
  by_cases c : n ≤ x1
  · rw [if_pos c, if_pos c, decide_eq_true c]; exact at_yes x1 x2 x3 x4 q n w hq4 hq h0 c h4
  · rw [if_neg c, if_neg c, decide_eq_false c]; exact at_no x1 x2 x3 x4 q n w hq4 hq (by omega) h3 (by omega) h2 h4
theorem div_next (N q : Int) (hN : 0 ≤ N) (hq : 1 < q) : ((N + 1) / q = N / q ∧ (N + 1) % q = N % q + 1) ∨ ((N + 1) / q = N / q + 1 ∧ (N + 1) % q = 0 ∧ N % q = q - 1) := by
  have h1 := Int.mul_ediv_add_emod N q
  have h2 := Int.emod_nonneg N (show q ≠ 0 by omega)
  have h3 := Int.emod_lt_of_pos N (show 0 < q by omega)
  by_cases c : N % q = q - 1
  · right
    have h4 : N + 1 = 0 + q * (N / q + 1) := by rw [Int.mul_add]; omega
    rw [h4, Int.add_mul_ediv_left _ _ (by omega), Int.add_mul_emod_self_left]
    simp [c]
  · left
    have h4 : N + 1 = (N % q + 1) + q * (N / q) := by omega
    have h5 : (N % q + 1) / q = 0 := Int.ediv_eq_zero_of_lt (by omega) (by omega)
    have h6 : (N % q + 1) % q = N % q + 1 := Int.emod_eq_of_lt (by omega) (by omega)
    constructor
    · conv => lhs; rw [h4]
      rw [Int.add_mul_ediv_left _ _ (by omega), h5]; omega
    · conv => lhs; rw [h4]
      rw [Int.add_mul_emod_self_left, h6]
theorem u64mod (a m : Int) (hm : 0 < m) : 0 ≤ (IntKind.u64.wrap a).tmod m ∧ (IntKind.u64.wrap a).tmod m < m := by
  have h : 0 ≤ IntKind.u64.wrap a := by rw [IntKind.wrap_u64]; omega
  rw [Int.tmod_eq_emod_of_nonneg h]
  exact ⟨Int.emod_nonneg _ (by omega), Int.emod_lt_of_pos _ hm⟩
theorem inexts_walk (a0 a1 a2 : Int) (w : World) (h0 : -9223372036854775808 ≤ a0) (h1 : a0 ≤ 9223372036854775807) (h2 : -9223372036854775808 ≤ a1) (h3 : a1 ≤ 9223372036854775807) (h4 : 0 ≤ a2) (h5 : a2 ≤ 4294967295) :
    Calls Try.prog 5 #[.int .i64 a0, .int .i64 a1, .int .u32 a2] w fun e w' => e = .returned (.bool true) ∧ Below w.heap.size w w' := by
  obtain ⟨B, hB⟩ : ∃ B, (IntKind.u64.wrap a0).tmod 5000 = B := ⟨_, rfl⟩
  obtain ⟨J, hJ⟩ : ∃ J, (IntKind.u64.wrap a1).tmod 13 = J := ⟨_, rfl⟩
  obtain ⟨N, hN⟩ : ∃ N, a2.tmod 2000 = N := ⟨_, rfl⟩
  have b_ := u64mod a0 5000 (by omega)
  have j_ := u64mod a1 13 (by omega)
  have n_ : 0 ≤ a2.tmod 2000 ∧ a2.tmod 2000 < 2000 := by rw [Int.tmod_eq_emod_of_nonneg h4]; omega
  rw [hB] at b_
  rw [hJ] at j_
  rw [hN] at n_
  obtain ⟨q, hq⟩ : ∃ q, q = 4 + J := ⟨_, rfl⟩
  have hs : 256 + 64 * J = 64 * q := by omega
  rcases layF_two (40 + B) q (by omega) (by omega) (by omega) (by omega) with h | ⟨n, k, h, hn0, hn1, hn2, hn3, hk⟩
  · rw [← hs] at h
    exact inexts_none a0 a1 a2 B J w hB b_.1 b_.2 hJ j_.1 j_.2 (Lib.hid (LayC.of h (by omega) (by omega) (by omega) (by omega)))
  · have hl : layF (40 + B) (256 + 64 * J) = ((n * q, n, n + k, 40 + B, 64 * q), 0) := by rw [hs]; exact h
    have q1 := at_any (n * q) n (n + k) (40 + B) q (N + 1) (by omega) (by omega) (by omega) (by omega) hn2 (by omega)
    have q2 := at_any (n * q) n (n + k) (40 + B) q (N + 2) (by omega) (by omega) (by omega) (by omega) hn2 (by omega)
    rw [show N + 1 - 1 = N from by omega] at q1
    rw [show N + 2 - 1 = N + 1 from by omega] at q2
    have f1 := Int.ediv_nonneg (show 0 ≤ N by omega) (show 0 ≤ q by omega)
    have f2 := Int.ediv_le_self (a := N) q (by omega)
    have f3 := Int.emod_nonneg N (show q ≠ 0 by omega)
    have f4 := Int.emod_lt_of_pos N (show 0 < q by omega)
    refine inexts_some a0 a1 a2 B J N (n * q) n (n + k) (40 + B) q _ _ _ _ _ _ w hB b_.1 b_.2 hJ j_.1 j_.2 hN n_.1 n_.2 (Lib.hid (LayC.of hl (by omega) (by omega) (by omega) (by omega))) (Lib.hid q1) (Lib.hid q2) (by split <;> omega) (by split <;> omega) (by split <;> omega) (by split <;> omega) (Lib.hid ?_) (Lib.hid ?_)
    · intro h; have := of_decide_eq_true h; exact decide_eq_true (by omega)
    · intro h h'
      have g1 := of_decide_eq_true h
      have g2 := of_decide_eq_true h'
      rw [if_pos g1, if_pos g1, if_pos g2, if_pos g2]
      rcases div_next N q (by omega) (by omega) with ⟨u1, u2⟩ | ⟨u1, u2, u3⟩
      · left; exact ⟨u1, by rw [u2]; omega⟩
      · right; exact ⟨u1, by rw [u2]; omega, by rw [u3]; omega⟩
end Go.Proofs.Ytdcelfoomjahjaa
