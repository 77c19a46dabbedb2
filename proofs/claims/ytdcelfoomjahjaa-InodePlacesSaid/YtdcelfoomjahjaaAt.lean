import Derived.Test.YtdcelfoomjahjaaLain
/-! inode.Layout.At and Bit. -/
set_option linter.unusedVariables false
set_option linter.unusedSimpArgs false
namespace Go.Proofs.Ytdcelfoomjahjaa
open Go.RowKit Go.Proofs.YtdcelfoomjahjaaW.PrintWords
theorem ret_of {f : Func} {w W : World} {V : Value} {tmps : Array Value} (hr : (results f tmps).run Try.prog W = .ok V W) (hb : Below w.heap.size w W) : bodyPost Try.prog f (fun e w' => e = .returned V ∧ Below w.heap.size w w') Exit.ret ⟨tmps, []⟩ W := bodyPost_ret hr rfl ⟨rfl, hb⟩
set_option maxHeartbeats 1000000 in
theorem at_yes (x1 x2 x3 x4 q n : Int) (w : World) (hq4 : 4 ≤ q) (hq : q ≤ 16) (h0 : 1 ≤ n) (h1 : n ≤ x1) (h2 : x1 ≤ 1073741824) :
    Calls Try.prog 13 #[.agg #[.int .i64 x1, .int .i64 x2, .int .i64 x3, .int .i64 x4, .int .i64 (64 * q)], .int .u32 n] w fun e w' => e = .returned (.tuple #[.int .i64 ((n - 1) / q), .int .i64 ((n - 1) % q * 64), .bool true]) ∧ Below w.heap.size w w' := by
  have hqt : (64 * q).tdiv 64 = q := by rw [Int.tdiv_eq_ediv_of_nonneg (by omega)]; omega
  have hqe : (64 * q) / 64 = q := by omega
  have hqz : ¬ q = 0 := by omega
  have ht : (n - 1).tdiv q = (n - 1) / q := Int.tdiv_eq_ediv_of_nonneg (by omega)
  have ht2 : (n - 1).tmod q = (n - 1) % q := Int.tmod_eq_emod_of_nonneg (by omega)
  have e0 := Int.ediv_nonneg (show 0 ≤ n - 1 by omega) (show 0 ≤ q by omega)
  have e1 := Int.ediv_le_self (a := n - 1) q (by omega)
  have e2 := Int.emod_nonneg (n - 1) (show q ≠ 0 by omega)
  have e3 := Int.emod_lt_of_pos (n - 1) (show 0 < q by omega)
  have hw : wrap64 ((n - 1) / q) = (n - 1) / q := by unfold wrap64; omega
  have hw2 : wrap64 ((n - 1) % q * 64) = (n - 1) % q * 64 := by unfold wrap64; omega
  go_enter Try.func13, Try.ntmps13
  go_wp2
  go_quiet (fail)
  go_wp2
  refine ret_of (by simp [results, Try.results13, go_sem]) (bl_drewN (bl_alloc (Below.refl _ _) _) _)
set_option maxHeartbeats 1000000 in
theorem at_no (x1 x2 x3 x4 q n : Int) (w : World) (hq4 : 4 ≤ q) (hq : q ≤ 16) (h0 : 0 ≤ n) (h3 : n < 4294967296) (h1 : n < 1 ∨ x1 < n) (h2 : 0 ≤ x1) (h4 : x1 ≤ 1073741824) :
    Calls Try.prog 13 #[.agg #[.int .i64 x1, .int .i64 x2, .int .i64 x3, .int .i64 x4, .int .i64 (64 * q)], .int .u32 n] w fun e w' => e = .returned (.tuple #[.int .i64 0, .int .i64 0, .bool false]) ∧ Below w.heap.size w w' := by
  by_cases c : n < 1
  · clear h1
    go_enter Try.func13, Try.ntmps13
    go_wp2
    refine ret_of (by simp [results, Try.results13, go_sem]) (bl_alloc (Below.refl _ _) _)
  · have d : x1 < n := by omega
    clear h1
    go_enter Try.func13, Try.ntmps13
    go_wp2
    refine ret_of (by simp [results, Try.results13, go_sem]) (bl_alloc (Below.refl _ _) _)
set_option maxHeartbeats 1000000 in
theorem bit_any (x1 x2 x3 x4 s n : Int) (w : World) (hs : 256 ≤ s) (hs1 : s ≤ 1024) (h0 : 0 ≤ n) (h1 : n < 4294967296) (h2 : 0 ≤ x2) (h3 : x2 ≤ 1073741824) :
    Calls Try.prog 14 #[.agg #[.int .i64 x1, .int .i64 x2, .int .i64 x3, .int .i64 x4, .int .i64 s], .int .u32 n] w fun e w' => e = .returned (.tuple #[.int .i64 (x2 + n / (8 * s)), .int .i64 (n / 8 % s), .int .u64 (n % 8)]) ∧ Below w.heap.size w w' := by
  have hsz : ¬ s = 0 := by omega
  have hsz8 : ¬ 8 * s = 0 := by omega
  have ht : n.tdiv (8 * s) = n / (8 * s) := Int.tdiv_eq_ediv_of_nonneg (by omega)
  have ht2 : n.tdiv 8 = n / 8 := Int.tdiv_eq_ediv_of_nonneg (by omega)
  have ht3 : n.tmod 8 = n % 8 := Int.tmod_eq_emod_of_nonneg (by omega)
  have ht4 : (n / 8).tmod s = n / 8 % s := Int.tmod_eq_emod_of_nonneg (by omega)
  have e0 := Int.ediv_nonneg (show 0 ≤ n by omega) (show 0 ≤ 8 * s by omega)
  have e1 := Int.ediv_le_self (a := n) (8 * s) (by omega)
  have e2 := Int.emod_nonneg (n / 8) (show s ≠ 0 by omega)
  have e3 := Int.emod_lt_of_pos (n / 8) (show 0 < s by omega)
  have hw : wrap64 (n / (8 * s)) = n / (8 * s) := by unfold wrap64; omega
  have hw2 : wrap64 (x2 + n / (8 * s)) = x2 + n / (8 * s) := by unfold wrap64; omega
  have hw3 : IntKind.u64.wrap (n % 8) = n % 8 := by rw [IntKind.wrap_u64]; omega
  go_enter Try.func14, Try.ntmps14
  go_wp2
  go_quiet (fail)
  go_wp2
  refine ret_of (by simp [results, Try.results14, go_sem, *]) (bl_drewN (bl_alloc (Below.refl _ _) _) _)
end Go.Proofs.Ytdcelfoomjahjaa
