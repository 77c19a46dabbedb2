import Derived.Test.YtdcelfoomjahjaaEnc
/-! inode.Lay and the document's. -/
set_option linter.unusedVariables false
set_option linter.unusedSimpArgs false
namespace Go.Proofs.Ytdcelfoomjahjaa
open Go.RowKit Go.Proofs.YtdcelfoomjahjaaW.PrintWords
theorem ceil_eq (m q : Int) (hm : 0 ≤ m) (hq : 0 < q) : (m + q - 1) / q = if 0 < m % q then m / q + 1 else m / q := by
  have h1 := Int.mul_ediv_add_emod m q
  have h2 := Int.emod_nonneg m (show q ≠ 0 by omega)
  have h3 := Int.emod_lt_of_pos m hq
  have h4 : m + q - 1 = (m % q + q - 1) + q * (m / q) := by omega
  rw [h4, Int.add_mul_ediv_left _ _ (by omega)]
  split
  · have h5 : m % q + q - 1 = (m % q - 1) + q * 1 := by omega
    rw [h5, Int.add_mul_ediv_left _ _ (by omega), Int.ediv_eq_zero_of_lt (by omega) (by omega)]
    omega
  · rw [Int.ediv_eq_zero_of_lt (by omega) (by omega)]
    omega
/-- A layout: what both answer. -/
def layF (b s : Int) : (Int × Int × Int × Int × Int) × Int :=
  if b < 1 ∨ 1048576 < b ∨ s < 256 ∨ 1024 < s ∨ s % 64 ≠ 0 then ((0, 0, 0, 0, 0), 34)
  else if b < (max 16 (b / 4) + s / 64 - 1) / (s / 64) + (b + 8 * s - 1) / (8 * s) + 8 then ((0, 0, 0, 0, 0), 28)
  else (((max 16 (b / 4) + s / 64 - 1) / (s / 64) * (s / 64), (max 16 (b / 4) + s / 64 - 1) / (s / 64), (max 16 (b / 4) + s / 64 - 1) / (s / 64) + (b + 8 * s - 1) / (8 * s), b, s), 0)
def layV (r : (Int × Int × Int × Int × Int) × Int) : Value := .tuple #[.agg #[.int .i64 r.1.1, .int .i64 r.1.2.1, .int .i64 r.1.2.2.1, .int .i64 r.1.2.2.2.1, .int .i64 r.1.2.2.2.2], .int .i64 r.2]
theorem lay_ret {w W : World} {a b c d f e : Int} {n size : Int} (h : layF n size = ((a, b, c, d, f), e)) (hb : Below w.heap.size w W) {tmps : Array Value}
   (hr : (results Try.f9 tmps).run Try.prog W = .ok (.tuple #[.agg #[.int .i64 a, .int .i64 b, .int .i64 c, .int .i64 d, .int .i64 f], .int .i64 e]) W) :
   bodyPost Try.prog Try.f9 (fun e w' => e = .returned (layV (layF n size)) ∧ Below w.heap.size w w') Exit.ret ⟨tmps, []⟩ W := by
  refine bodyPost_ret hr rfl ?_
  rw [h]; exact ⟨rfl, hb⟩
theorem rlay_ret {w W : World} {a b c d f e : Int} {n size : Int} (h : layF n size = ((a, b, c, d, f), e)) (hb : Below w.heap.size w W) {tmps : Array Value}
   (hr : (results Try.f10 tmps).run Try.prog W = .ok (.tuple #[.agg #[.int .i64 a, .int .i64 b, .int .i64 c, .int .i64 d, .int .i64 f], .int .i64 e]) W) :
   bodyPost Try.prog Try.f10 (fun e w' => e = .returned (layV (layF n size)) ∧ Below w.heap.size w w') Exit.ret ⟨tmps, []⟩ W := by
  refine bodyPost_ret hr rfl ?_
  rw [h]; exact ⟨rfl, hb⟩
set_option maxHeartbeats 1000000 in
theorem lay_any (b s : Int) (w : World) (h0 : -9223372036854775808 ≤ b) (h1 : b ≤ 9223372036854775807) (h2 : -9223372036854775808 ≤ s) (h3 : s ≤ 9223372036854775807) :
    Calls Try.prog 9 #[.int .i64 b, .int .i64 s] w fun e w' => e = .returned (layV (layF b s)) ∧ Below w.heap.size w w' := by
  by_cases c : 1 ≤ b ∧ b ≤ 1048576 ∧ 256 ≤ s ∧ s ≤ 1024 ∧ s % 64 = 0
  · obtain ⟨c0, c1, c2, c3, c4⟩ := c
    obtain ⟨q, rfl⟩ : ∃ q : Int, s = 64 * q := ⟨s / 64, by omega⟩
    obtain ⟨n, hn⟩ : ∃ n, (max 16 (b / 4) + 64 * q / 64 - 1) / (64 * q / 64) = n := ⟨_, rfl⟩
    have hb4 : b.tdiv 4 = b / 4 := Int.tdiv_eq_ediv_of_nonneg (by omega)
    have hq : (64 * q).tdiv 64 = q := by rw [Int.tdiv_eq_ediv_of_nonneg (by omega)]; omega
    have hqe : 64 * q / 64 = q := by omega
    have hqm : (64 * q).tmod 64 = 0 := by rw [Int.tmod_eq_emod_of_nonneg (by omega)]; omega
    obtain ⟨m, hm⟩ : ∃ m, max 16 (b / 4) = m := ⟨_, rfl⟩
    have hm0 : 16 ≤ m := by omega
    have hm1 : m ≤ 262144 := by omega
    rw [hm, hqe] at hn
    have hmx : (if 16 < b / 4 then b / 4 else 16) = m := by rw [← hm]; split <;> omega
    have hnt : (m + q - 1).tdiv q = n := by rw [Int.tdiv_eq_ediv_of_nonneg (by omega)]; exact hn
    have hn0 : 0 ≤ n := by rw [← hn]; exact Int.ediv_nonneg (by omega) (by omega)
    have hn1 : n ≤ 262160 := by rw [← hn]; exact Int.le_trans (Int.ediv_le_self _ (by omega)) (by omega)
    have hn2 : n * q ≤ 262160 := by rw [← hn]; exact Int.le_trans (Int.ediv_mul_le _ (by omega)) (by omega)
    have hn3 : 0 ≤ n * q := Int.mul_nonneg hn0 (by omega)
    obtain ⟨k, hk⟩ : ∃ k, (b + 8 * (64 * q) - 1) / (8 * (64 * q)) = k := ⟨_, rfl⟩
    have hkt : (b + 8 * (64 * q) - 1).tdiv (8 * (64 * q)) = k := by rw [Int.tdiv_eq_ediv_of_nonneg (by omega)]; exact hk
    have hk0 : 0 ≤ k := by rw [← hk]; exact Int.ediv_nonneg (by omega) (by omega)
    have hk1 : k ≤ 1064960 := by rw [← hk]; exact Int.le_trans (Int.ediv_le_self _ (by omega)) (by omega)
    have hw1 : wrap64 (n * q) = n * q := by unfold wrap64; omega
    have hw2 : wrap64 (wrap64 (n + k) + 8) = n + k + 8 := by unfold wrap64; omega
    have hqz : ¬ q = 0 := by omega
    have hF : layF b (64 * q) = if b < n + k + 8 then ((0, 0, 0, 0, 0), 28) else ((n * q, n, n + k, b, 64 * q), 0) := by
      unfold layF
      rw [if_neg (by omega), hm, hqe, hn, hk]
    by_cases d : b < n + k + 8
    · rw [if_pos d] at hF
      have HF := Lib.hid hF; clear hF hk hm
      go_enter Try.func9, Try.ntmps9
      go_wp2
      refine lay_ret HF.out ?_ (by simp [results, Try.results9, go_sem])
      repeat (first | exact Below.refl _ _ | apply bl_alloc | apply bl_drew)
    · rw [if_neg d] at hF
      have HF := Lib.hid hF; clear hF hk hm
      go_enter Try.func9, Try.ntmps9
      go_wp2
      refine lay_ret HF.out ?_ (by simp [results, Try.results9, go_sem])
      repeat (first | exact Below.refl _ _ | apply bl_alloc | apply bl_drew)
  · have hf : layF b s = ((0, 0, 0, 0, 0), 34) := by unfold layF; rw [if_pos (by omega)]
    have HF := Lib.hid hf; clear hf
    by_cases d0 : b < 1
    · go_enter Try.func9, Try.ntmps9
      go_wp2
      refine lay_ret HF.out ?_ (by simp [results, Try.results9, go_sem])
      repeat (first | exact Below.refl _ _ | apply bl_alloc | apply bl_drew)
    by_cases d1 : 1048576 < b
    · go_enter Try.func9, Try.ntmps9
      go_wp2
      refine lay_ret HF.out ?_ (by simp [results, Try.results9, go_sem])
      repeat (first | exact Below.refl _ _ | apply bl_alloc | apply bl_drew)
    by_cases d2 : s < 256
    · go_enter Try.func9, Try.ntmps9
      go_wp2
      refine lay_ret HF.out ?_ (by simp [results, Try.results9, go_sem])
      repeat (first | exact Below.refl _ _ | apply bl_alloc | apply bl_drew)
    by_cases d3 : 1024 < s
    · go_enter Try.func9, Try.ntmps9
      go_wp2
      refine lay_ret HF.out ?_ (by simp [results, Try.results9, go_sem])
      repeat (first | exact Below.refl _ _ | apply bl_alloc | apply bl_drew)
    have d4 : ¬ s.tmod 64 = 0 := by rw [Int.tmod_eq_emod_of_nonneg (by omega)]; omega
    go_enter Try.func9, Try.ntmps9
    go_wp2
    refine lay_ret HF.out ?_ (by simp [results, Try.results9, go_sem])
    repeat (first | exact Below.refl _ _ | apply bl_alloc | apply bl_drew)
end Go.Proofs.Ytdcelfoomjahjaa
