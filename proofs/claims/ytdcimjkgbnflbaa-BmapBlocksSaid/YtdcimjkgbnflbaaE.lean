import Derived.Test.YtdcimjkgbnflbaaA
namespace Go.Proofs.Ytdcimjkgbnflbaa
open Go.RowKit
def blk (n size : Int) : Int := if n ≤ 0 ∨ size < 1 then 0 else (n - 1) / size + 1
set_option maxHeartbeats 400000 in
theorem blocks_any (n size : Int) (w : World) (h0 : -9223372036854775808 ≤ n) (h1 : n ≤ 9223372036854775807) (h2 : -9223372036854775808 ≤ size) (h3 : size ≤ 9223372036854775807) :
    Calls Try.prog 10 #[.int .i64 n, .int .i64 size] w fun e w' => e = .returned (.int .i64 (blk n size)) ∧ w = w' := by
  by_cases c0 : n ≤ 0
  · have hf : blk n size = 0 := if_pos (.inl c0)
    have HF := Lib.hid hf; clear hf
    go_enter Try.func10, Try.ntmps10
    go_wp2
    go_ret
    rw [HF.out]; exact ⟨rfl, rfl⟩
  · by_cases c1 : size < 1
    · have hf : blk n size = 0 := if_pos (.inr c1)
      have HF := Lib.hid hf; clear hf
      go_enter Try.func10, Try.ntmps10
      go_wp2
      go_ret
      rw [HF.out]; exact ⟨rfl, rfl⟩
    · have hf : blk n size = (n - 1) / size + 1 := if_neg (by omega)
      have hd : (n - 1).tdiv size = (n - 1) / size := Int.tdiv_eq_ediv_of_nonneg (by omega)
      have hle := Int.ediv_le_self (a := n - 1) size (by omega)
      have hge := Int.ediv_nonneg (show 0 ≤ n - 1 by omega) (show 0 ≤ size by omega)
      have hw : wrap64 ((n - 1) / size) = (n - 1) / size := by unfold wrap64; omega
      have hz : ¬ size = 0 := by omega
      have HF := Lib.hid hf; clear hf
      go_enter Try.func10, Try.ntmps10
      go_wp2
      go_ways
      go_ret
      rw [HF.out]; exact ⟨rfl, rfl⟩
set_option maxHeartbeats 1000000 in
theorem blocks_walk (n size : Int) (w : World) (h0 : -9223372036854775808 ≤ n) (h1 : n ≤ 9223372036854775807) (h2 : -9223372036854775808 ≤ size) (h3 : size ≤ 9223372036854775807) :
    Calls Try.prog 4 #[.int .i64 n, .int .i64 size] w fun e w' => e = .returned (.bool true) ∧ Below w.heap.size w w' := by
  by_cases c0 : n < 1 ∨ size < 1
  · have hf : blk n size = 0 := if_pos (by omega)
    go_enter Try.func4, Try.ntmps4
    go_wp2_with fail
    refine (blocks_any _ _ _ h0 h1 h2 h3).mono ?_
    rintro e w1 ⟨rfl, rfl⟩
    rw [hf]; clear hf
    by_cases c1 : n < 1
    · go_wp2_with fail
      refine (found_any _).mono ?_
      rintro e w4 ⟨rfl, hb4⟩
      go_wp2_with fail
      go_ret
      exact ⟨rfl, hb4⟩
    · have c2 : size < 1 := by omega
      go_wp2_with fail
      refine (found_any _).mono ?_
      rintro e w4 ⟨rfl, hb4⟩
      go_wp2_with fail
      go_ret
      exact ⟨rfl, hb4⟩
  · have c1 : ¬ n < 1 := by omega
    have c2 : ¬ size < 1 := by omega
    obtain ⟨q, hq⟩ : ∃ q, (n - 1) / size = q := ⟨_, rfl⟩
    have hf : blk n size = q + 1 := by unfold blk; rw [if_neg (by omega), hq]
    have hd : (n - 1).tdiv size = q := by rw [Int.tdiv_eq_ediv_of_nonneg (by omega)]; exact hq
    have hle := Int.ediv_le_self (a := n - 1) size (by omega)
    have hge := Int.ediv_nonneg (show 0 ≤ n - 1 by omega) (show 0 ≤ size by omega)
    rw [hq] at hle hge
    have hw : wrap64 q = q := by unfold wrap64; omega
    have hz : ¬ size = 0 := by omega
    have e1 : q * size ≤ n - 1 := by rw [← hq]; exact Int.ediv_mul_le _ (by omega)
    have e2 : n - 1 < (q + 1) * size := by
      have := Int.lt_ediv_add_one_mul_self (n - 1) (show 0 < size by omega)
      rwa [hq] at this
    clear hq c0
    go_enter Try.func4, Try.ntmps4
    go_wp2_with fail
    refine (blocks_any _ _ _ h0 h1 h2 h3).mono ?_
    rintro e w1 ⟨rfl, rfl⟩
    rw [hf]; clear hf
    go_wp2_with fail
    refine (found_any _).mono ?_
    rintro e w4 ⟨rfl, hb4⟩
    by_cases g1 : 2147483648 < q + 1
    · go_wp2_with fail
      go_ret
      exact ⟨rfl, hb4⟩
    · by_cases g2 : 1099511627776 < n
      · go_wp2_with fail
        go_ret
        exact ⟨rfl, hb4⟩
      · by_cases g3 : 1048576 < size
        · go_wp2_with fail
          go_ret
          exact ⟨rfl, hb4⟩
        · have e3 : (q + 1) * size = q * size + size := by rw [Int.add_mul, Int.one_mul]
          have e4 : 0 ≤ q * size := Int.mul_nonneg hge (by omega)
          have m1 : wrap64 (q * size) = q * size := by unfold wrap64; omega
          have m2 : wrap64 ((q + 1) * size) = (q + 1) * size := by unfold wrap64; omega
          have t1 : q * size < n := by omega
          have t2 : n ≤ (q + 1) * size := by omega
          clear e3
          go_wp2_with fail
          go_ways
          go_ret
          exact ⟨rfl, hb4⟩
end Go.Proofs.Ytdcimjkgbnflbaa
