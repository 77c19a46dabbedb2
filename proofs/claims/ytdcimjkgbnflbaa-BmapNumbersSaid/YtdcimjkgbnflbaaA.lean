import Derived.Test.YtdcimjkgbnflbaaBase
namespace Go.Proofs.Ytdcimjkgbnflbaa
open Go.RowKit
def findF (n size : Int) : (Int × Int × Int) × Int :=
  if n < 0 ∨ size < 256 ∨ 1024 < size then ((0, 0, 0), 34)
  else if n < 8 then ((0, n, 0), 0)
  else if n - 8 < size / 4 then ((1, n - 8, 0), 0)
  else if (size / 4) * (size / 4) ≤ n - 8 - size / 4 then ((0, 0, 0), 27)
  else ((2, (n - 8 - size / 4) / (size / 4), (n - 8 - size / 4) % (size / 4)), 0)
def findV (r : (Int × Int × Int) × Int) : Value := .tuple #[.agg #[.int .i64 r.1.1, .int .i64 r.1.2.1, .int .i64 r.1.2.2], .int .i64 r.2]
theorem find_ret {w W : World} {d a b e : Int} {n size : Int} (h : findF n size = ((d, a, b), e)) (hb : Below w.heap.size w W) {tmps : Array Value}
   (hr : (results Try.f8 tmps).run Try.prog W = .ok (.tuple #[.agg #[.int .i64 d, .int .i64 a, .int .i64 b], .int .i64 e]) W) :
   bodyPost Try.prog Try.f8 (fun e w' => e = .returned (findV (findF n size)) ∧ Below w.heap.size w w') Exit.ret ⟨tmps, []⟩ W := by
  refine bodyPost_ret hr rfl ?_
  rw [h]; exact ⟨rfl, hb⟩
set_option maxHeartbeats 1000000 in
theorem find_any (n size : Int) (w : World) (h0 : -9223372036854775808 ≤ n) (h1 : n ≤ 9223372036854775807) (h2 : -9223372036854775808 ≤ size) (h3 : size ≤ 9223372036854775807) :
    Calls Try.prog 8 #[.int .i64 n, .int .i64 size] w fun e w' => e = .returned (findV (findF n size)) ∧ Below w.heap.size w w' := by
  by_cases c : 0 ≤ n ∧ 256 ≤ size ∧ size ≤ 1024
  · obtain ⟨c0, c1, c2⟩ := c
    obtain ⟨k, hk⟩ : ∃ k : Int, size / 4 = k := ⟨_, rfl⟩
    have hk1 : 64 ≤ k := by omega
    have hk2 : k ≤ 256 := by omega
    have hkt : size.tdiv 4 = k := by rw [Int.tdiv_eq_ediv_of_nonneg (by omega)]; exact hk
    by_cases d0 : n < 8
    · have hf : findF n size = ((0, n, 0), 0) := by unfold findF; rw [if_neg (by omega), if_pos d0]
      have HF := Lib.hid hf; clear hf hk
      go_enter Try.func8, Try.ntmps8
      go_wp2
      refine find_ret HF.out ((Below.refl _ _).alloc (Nat.le_refl _) _) (by simp [results, Try.results8, go_sem])
    · by_cases d1 : n - 8 < k
      · have hf : findF n size = ((1, n - 8, 0), 0) := by unfold findF; rw [if_neg (by omega), if_neg d0, if_pos (by omega)]
        have HF := Lib.hid hf; clear hf hk
        go_enter Try.func8, Try.ntmps8
        go_wp2
        refine find_ret HF.out ((Below.refl _ _).alloc (Nat.le_refl _) _) (by simp [results, Try.results8, go_sem])
      · obtain ⟨m, rfl⟩ : ∃ m : Int, n = m + (8 + k) := ⟨n - (8 + k), by omega⟩
        have hm : 0 ≤ m := by omega
        have hw1 : wrap64 (8 + k) = 8 + k := by unfold wrap64; omega
        have hw2 : wrap64 (m + (8 + k) - (8 + k)) = m := by unfold wrap64; omega
        have hkz : ¬ k = 0 := by omega
        have hq := Int.ediv_le_self (a := m) k hm
        have hq0 := Int.ediv_nonneg hm (show 0 ≤ k by omega)
        have ht : m.tdiv k = m / k := Int.tdiv_eq_ediv_of_nonneg hm
        have ht2 : m.tmod k = m % k := Int.tmod_eq_emod_of_nonneg hm
        have hw3 : wrap64 (m / k) = m / k := by unfold wrap64; omega
        have he : m + (8 + k) - 8 - k = m := by omega
        by_cases d2 : k * k ≤ m
        · have hf : findF (m + (8 + k)) size = ((0, 0, 0), 27) := by unfold findF; rw [if_neg (by omega), if_neg d0, hk, if_neg (by omega), if_pos (by rw [he]; exact d2)]
          have d3 : k ≤ m / k := (Int.le_ediv_iff_mul_le (by omega)).2 d2
          have HF := Lib.hid hf; clear hf hk he
          go_enter Try.func8, Try.ntmps8
          go_wp2

          refine find_ret HF.out ((Below.refl _ _).alloc (Nat.le_refl _) _) (by simp [results, Try.results8, go_sem])
        · have hf : findF (m + (8 + k)) size = ((2, m / k, m % k), 0) := by unfold findF; rw [if_neg (by omega), if_neg d0, hk, if_neg (by omega), he, if_neg d2]
          have d3 : m / k < k := Int.ediv_lt_of_lt_mul (by omega) (by omega)
          have HF := Lib.hid hf; clear hf hk he
          go_enter Try.func8, Try.ntmps8
          go_wp2

          go_region
          go_wp2
          refine find_ret HF.out ((Below.refl _ _).alloc (Nat.le_refl _) _).drew (by simp [results, Try.results8, go_sem])
  · have hf : findF n size = ((0, 0, 0), 34) := by unfold findF; rw [if_pos (by omega)]
    have HF := Lib.hid hf; clear hf
    by_cases d0 : n < 0
    · go_enter Try.func8, Try.ntmps8
      go_wp2
      refine find_ret HF.out ((Below.refl _ _).alloc (Nat.le_refl _) _) (by simp [results, Try.results8, go_sem])
    · by_cases d1 : size < 256
      · go_enter Try.func8, Try.ntmps8
        go_wp2
        refine find_ret HF.out ((Below.refl _ _).alloc (Nat.le_refl _) _) (by simp [results, Try.results8, go_sem])
      · have d2 : 1024 < size := by omega
        go_enter Try.func8, Try.ntmps8
        go_wp2
        refine find_ret HF.out ((Below.refl _ _).alloc (Nat.le_refl _) _) (by simp [results, Try.results8, go_sem])

theorem eqWay (d a b d' a' b' : Int) (w : World) : (binOp .eql 25 (.agg #[.int .i64 d, .int .i64 a, .int .i64 b]) (.agg #[.int .i64 d', .int .i64 a', .int .i64 b'])).run Try.prog w = .ok (.bool (d == d' && (a == a' && b == b'))) w := by
  have hi : ∃ i, Try.prog.info? 3 = some i := by
    have h : (Try.prog.info? 3).isSome = true := by kernel_rfl
    exact Option.isSome_iff_exists.1 h
  obtain ⟨i, hi⟩ := hi
  rw [run_eql_struct, run_equalIn_struct _ 9999 25 _ _ (by kernel_rfl) (by kernel_rfl)]
  rw [show (Try.prog.fieldsOf 25).toList = _ from by simp [Program.fieldsOf, Try.underlying25]; rfl]
  simp only [Op.eqFields]
  have ha : ∀ w : World, (Op.equalIn 9999 23 (.agg #[.int .i64 a, .int .i64 b]) (.agg #[.int .i64 a', .int .i64 b'])).run Try.prog w = .ok (a == a' && b == b') w := by
    intro w
    rw [run_equalIn_array w 9998 _ _ Try.underlying23 hi]
    have hc : Try.prog.cellsOf 3 = 1 := by kernel_rfl
    rw [hc]
    simp [Op.eqItems, List.range_succ, go_sem]
    by_cases h1 : a = a' <;> by_cases h2 : b = b' <;> simp [h1, h2]
  simp [go_sem, ha]
  by_cases h0 : d = d' <;> by_cases h1 : a = a' <;> by_cases h2 : b = b' <;> simp [h0, h1, h2]
set_option maxHeartbeats 1000000 in
theorem found_any (w : World) :
    Calls Try.prog 9 #[] w fun e w' => e = .returned (.bool true) ∧ Below w.heap.size w w' := by
  go_enter Try.func9, Try.ntmps9
  go_wp2_with fail
  refine (find_any _ _ _ (by omega) (by omega) (by omega) (by omega)).mono ?_
  rintro e w1 ⟨rfl, hb1⟩
  rw [show findF 8 256 = ((1, 0, 0), 0) from by decide]
  simp only [findV]
  go_wp2_with fail
  refine (find_any _ _ _ (by omega) (by omega) (by omega) (by omega)).mono ?_
  rintro e w2 ⟨rfl, hb2⟩
  obtain ⟨hc2, hf2⟩ := bcell hb2
  have hs2 := hb2.size
  simp at hs2
  have hw12 : w1.heap.size < w2.heap.size := by omega
  rw [show findF 72 256 = ((2, 0, 0), 0) from by decide]
  simp only [findV]
  have hq := eqWay
  go_wp2_with fail
  go_ways
  go_ret
  exact ⟨rfl, by repeat (first | exact Below.refl _ _ | assumption | apply bl_alloc | apply bl_drew | apply bl_drewN | (refine bl_seq ?_ (by assumption)))⟩
end Go.Proofs.Ytdcimjkgbnflbaa
