import Derived.Test.YtdcelfoomjahjaaIp0
import Derived.Test.YtdcelfoomjahjaaIp1
import Derived.Test.YtdcelfoomjahjaaIp2
import Derived.Test.YtdcelfoomjahjaaIp3
import Derived.Test.YtdcelfoomjahjaaIp4
import Derived.Test.YtdcelfoomjahjaaIp5
/-! The law InodePlaces: its parts together. -/
set_option linter.unusedVariables false
namespace Go.Proofs.Ytdcelfoomjahjaa
open Go.RowKit Go.Proofs.YtdcelfoomjahjaaW.PrintWords
theorem at_ex (x1 x2 x3 x4 q n : Int) (hq4 : 4 ≤ q) (hq : q ≤ 16) (h0 : 0 ≤ n) (h3 : n < 4294967296) (h2 : 0 ≤ x1) (h4 : x1 ≤ 1073741824) :
    ∃ p i ok, AtC x1 x2 x3 x4 (64 * q) n p i ok ∧ (ok = true → 1 ≤ n ∧ n ≤ x1 ∧ p = (n - 1) / q ∧ i = (n - 1) % q * 64) := by
  by_cases c : 1 ≤ n ∧ n ≤ x1
  · exact ⟨_, _, true, fun w => at_yes x1 x2 x3 x4 q n w hq4 hq c.1 c.2 h4, fun _ => ⟨c.1, c.2, rfl, rfl⟩⟩
  · exact ⟨0, 0, false, fun w => at_no x1 x2 x3 x4 q n w hq4 hq h0 h3 (by omega) h2 h4, fun h => by cases h⟩
theorem divmod_inj {x y q : Int} (h1 : x / q = y / q) (h2 : x % q = y % q) : x = y := by
  rw [← Int.mul_ediv_add_emod x q, ← Int.mul_ediv_add_emod y q, h1, h2]
theorem bit_inj {X Y S : Int} (h1 : X / (8 * S) = Y / (8 * S)) (h2 : X / 8 % S = Y / 8 % S) (h3 : X % 8 = Y % 8) : X = Y := by
  have e : ∀ x : Int, x / (8 * S) = x / 8 / S := fun x => by rw [Int.ediv_ediv, if_neg (by omega), Int.sub_zero]
  rw [e, e] at h1
  exact divmod_inj (divmod_inj h1 h2) h3
theorem ceil_lt {X b M : Int} (hM : 0 < M) (hX : X < b) : X / M < (b + M - 1) / M := by
  refine Int.ediv_lt_of_lt_mul hM ?_
  have h := Int.lt_ediv_add_one_mul_self (b + M - 1) hM
  rw [Int.add_mul] at h
  omega
theorem iplaces_walk (a0 a1 a2 a3 : Int) (w : World) (h0 : -9223372036854775808 ≤ a0) (h1 : a0 ≤ 9223372036854775807) (h2 : -9223372036854775808 ≤ a1) (h3 : a1 ≤ 9223372036854775807) (a20 : 0 ≤ a2) (a21 : a2 < 4294967296) (a30 : 0 ≤ a3) (a31 : a3 < 4294967296) :
    Calls Try.prog 6 #[.agg #[.int .i64 a0, .int .i64 a1, .int .u32 a2, .int .u32 a3]] w fun e w' => e = .returned (.bool true) ∧ Below w.heap.size w w' := by
  obtain ⟨B, hB⟩ : ∃ B, (IntKind.u64.wrap a0).tmod 5000 = B := ⟨_, rfl⟩
  obtain ⟨J, hJ⟩ : ∃ J, (IntKind.u64.wrap a1).tmod 13 = J := ⟨_, rfl⟩
  have b_ := u64mod a0 5000 (by omega)
  have j_ := u64mod a1 13 (by omega)
  rw [hB] at b_
  rw [hJ] at j_
  obtain ⟨q, hq⟩ : ∃ q, q = 4 + J := ⟨_, rfl⟩
  have hs : 256 + 64 * J = 64 * q := by omega
  rcases layF_two (40 + B) q (by omega) (by omega) (by omega) (by omega) with h | ⟨n, k, h, hn0, hn1, hn2, hn3, hk⟩
  · rw [← hs] at h
    exact iplaces_none a0 a1 a2 a3 B J w hB b_.1 b_.2 hJ j_.1 j_.2 (Lib.hid (LayC.of h (by omega) (by omega) (by omega) (by omega)))
  · rw [← hs] at h
    have hX : a2.tmod (40 + B) = a2 % (40 + B) := Int.tmod_eq_emod_of_nonneg a20
    have hY : a3.tmod (40 + B) = a3 % (40 + B) := Int.tmod_eq_emod_of_nonneg a30
    have X0 := Int.emod_nonneg a2 (show 40 + B ≠ 0 by omega)
    have X1 := Int.emod_lt_of_pos a2 (show 0 < 40 + B by omega)
    have Y0 := Int.emod_nonneg a3 (show 40 + B ≠ 0 by omega)
    have Y1 := Int.emod_lt_of_pos a3 (show 0 < 40 + B by omega)
    generalize hXe : a2 % (40 + B) = X at hX X0 X1
    generalize hYe : a3 % (40 + B) = Y at hY Y0 Y1
    have g1 : BitC (n * q) n (n + k) (40 + B) (256 + 64 * J) X (n + X / (8 * (256 + 64 * J))) (X / 8 % (256 + 64 * J)) (X % 8) := fun w => bit_any _ _ _ _ _ X w (by omega) (by omega) X0 (by omega) hn0 (by omega)
    have g2 : BitC (n * q) n (n + k) (40 + B) (256 + 64 * J) Y (n + Y / (8 * (256 + 64 * J))) (Y / 8 % (256 + 64 * J)) (Y % 8) := fun w => bit_any _ _ _ _ _ Y w (by omega) (by omega) Y0 (by omega) hn0 (by omega)
    have hq1 : (256 + 64 * J).tdiv 64 = q := by rw [Int.tdiv_eq_ediv_of_nonneg (by omega)]; omega
    have hc := Lib.hid (LayC.of h (by omega) (by omega) (by omega) (by omega))
    have D0 := Int.ediv_nonneg X0 (show 0 ≤ 8 * (256 + 64 * J) by omega)
    have D1 := Int.ediv_le_self (8 * (256 + 64 * J)) X0
    have E0 := Int.ediv_nonneg Y0 (show 0 ≤ 8 * (256 + 64 * J) by omega)
    have E1 := Int.ediv_le_self (8 * (256 + 64 * J)) Y0
    have hlt := ceil_lt (show 0 < 8 * (256 + 64 * J) by omega) X1
    rw [hs, ← hk, ← hs] at hlt
    have hD1 : X.tdiv (8 * (256 + 64 * J)) = X / (8 * (256 + 64 * J)) := Int.tdiv_eq_ediv_of_nonneg X0
    have hI1 : (X / 8).tmod (256 + 64 * J) = X / 8 % (256 + 64 * J) := Int.tmod_eq_emod_of_nonneg (by omega)
    have hC1 : X.tmod 8 = X % 8 := Int.tmod_eq_emod_of_nonneg X0
    have hD : X = Y ∨ (X ≠ Y ∧ X / (8 * (256 + 64 * J)) ≠ Y / (8 * (256 + 64 * J))) ∨ (X ≠ Y ∧ X / (8 * (256 + 64 * J)) = Y / (8 * (256 + 64 * J)) ∧ X / 8 % (256 + 64 * J) ≠ Y / 8 % (256 + 64 * J)) ∨ (X ≠ Y ∧ X / (8 * (256 + 64 * J)) = Y / (8 * (256 + 64 * J)) ∧ X / 8 % (256 + 64 * J) = Y / 8 % (256 + 64 * J) ∧ X % 8 ≠ Y % 8) := by
      by_cases e : X = Y
      · exact .inl e
      by_cases e1 : X / (8 * (256 + 64 * J)) = Y / (8 * (256 + 64 * J))
      · by_cases e2 : X / 8 % (256 + 64 * J) = Y / 8 % (256 + 64 * J)
        · by_cases e3 : X % 8 = Y % 8
          · exact absurd (bit_inj e1 e2 e3) e
          · exact .inr (.inr (.inr ⟨e, e1, e2, e3⟩))
        · exact .inr (.inr (.inl ⟨e, e1, e2⟩))
      · exact .inr (.inl ⟨e, e1⟩)
    obtain ⟨p', i', ok', at2, at3⟩ := at_ex (n * q) n (n + k) (40 + B) q a3 (by omega) (by omega) a30 a31 hn2 (by omega)
    rw [← hs] at at2
    by_cases r1 : a2 < 1
    · have at1 : AtC (n * q) n (n + k) (40 + B) (256 + 64 * J) a2 0 0 false := by rw [hs]; exact fun w => at_no _ _ _ _ q a2 w (by omega) (by omega) a20 a21 (.inl r1) hn2 (by omega)
      exact iplaces_lo ok' a0 a1 a2 a3 B J _ _ _ _ q 0 0 p' i' X Y _ _ _ _ _ _ w hB b_.1 b_.2 hJ j_.1 j_.2 a20 a21 a30 a31 hq1 (by omega) (by omega) (by omega) (by omega) hc hn0 (by omega) hX hXe X0 (by omega) hY hYe Y0 (by omega) (Lib.hid g1) (Lib.hid g2) hD1 rfl D0 (by omega) E0 (by omega) hI1 rfl hC1 rfl (by omega) (by omega) (by omega) (by omega) (Lib.hid hD) (Lib.hid at1) (Lib.hid at2) r1
    by_cases r2 : a2 ≤ n * q
    · have at1 : AtC (n * q) n (n + k) (40 + B) (256 + 64 * J) a2 ((a2 - 1) / q) ((a2 - 1) % q * 64) true := by rw [hs]; exact fun w => at_yes _ _ _ _ q a2 w (by omega) (by omega) (by omega) r2 (by omega)
      have p0 := Int.ediv_nonneg (show 0 ≤ a2 - 1 by omega) (show 0 ≤ q by omega)
      have p2 : (a2 - 1) / q < n := Int.ediv_lt_of_lt_mul (by omega) (by omega)
      have i0 := Int.emod_nonneg (a2 - 1) (show q ≠ 0 by omega)
      have i1 := Int.emod_lt_of_pos (a2 - 1) (show 0 < q by omega)
      have hpt : (a2 - 1).tdiv q = (a2 - 1) / q := Int.tdiv_eq_ediv_of_nonneg (by omega)
      have hit : (a2 - 1).tmod q * 64 = (a2 - 1) % q * 64 := by rw [Int.tmod_eq_emod_of_nonneg (by omega)]
      cases ok'
      · exact iplaces_one a0 a1 a2 a3 B J _ _ _ _ q _ _ p' i' X Y _ _ _ _ _ _ w hB b_.1 b_.2 hJ j_.1 j_.2 a20 a21 a30 a31 hq1 (by omega) (by omega) (by omega) (by omega) hc hn0 (by omega) hX hXe X0 (by omega) hY hYe Y0 (by omega) (Lib.hid g1) (Lib.hid g2) hD1 rfl D0 (by omega) E0 (by omega) hI1 rfl hC1 rfl (by omega) (by omega) (by omega) (by omega) (Lib.hid hD) (Lib.hid at1) (Lib.hid at2) (by omega) r2 rfl hpt rfl hit (by omega) p0 (by omega) (by omega)
      · obtain ⟨o1, o2, o3, o4⟩ := at3 rfl
        by_cases s1 : a2 = a3
        · exact iplaces_eq a0 a1 a2 a3 B J _ _ _ _ q _ _ p' i' X Y _ _ _ _ _ _ w hB b_.1 b_.2 hJ j_.1 j_.2 a20 a21 a30 a31 hq1 (by omega) (by omega) (by omega) (by omega) hc hn0 (by omega) hX hXe X0 (by omega) hY hYe Y0 (by omega) (Lib.hid g1) (Lib.hid g2) hD1 rfl D0 (by omega) E0 (by omega) hI1 rfl hC1 rfl (by omega) (by omega) (by omega) (by omega) (Lib.hid hD) (Lib.hid at1) (Lib.hid at2) (by omega) r2 rfl hpt rfl hit (by omega) p0 (by omega) (by omega) s1
        by_cases s3 : (a2 - 1) / q = p'
        · by_cases s4 : (a2 - 1) % q * 64 = i'
          · exact absurd (divmod_inj (x := a2 - 1) (y := a3 - 1) (q := q) (by rw [s3, o3]) (by omega)) (by omega)
          · exact iplaces_i a0 a1 a2 a3 B J _ _ _ _ q _ _ p' i' X Y _ _ _ _ _ _ w hB b_.1 b_.2 hJ j_.1 j_.2 a20 a21 a30 a31 hq1 (by omega) (by omega) (by omega) (by omega) hc hn0 (by omega) hX hXe X0 (by omega) hY hYe Y0 (by omega) (Lib.hid g1) (Lib.hid g2) hD1 rfl D0 (by omega) E0 (by omega) hI1 rfl hC1 rfl (by omega) (by omega) (by omega) (by omega) (Lib.hid hD) (Lib.hid at1) (Lib.hid at2) (by omega) r2 rfl hpt rfl hit (by omega) p0 (by omega) (by omega) s1 s4 s3
        · exact iplaces_p a0 a1 a2 a3 B J _ _ _ _ q _ _ p' i' X Y _ _ _ _ _ _ w hB b_.1 b_.2 hJ j_.1 j_.2 a20 a21 a30 a31 hq1 (by omega) (by omega) (by omega) (by omega) hc hn0 (by omega) hX hXe X0 (by omega) hY hYe Y0 (by omega) (Lib.hid g1) (Lib.hid g2) hD1 rfl D0 (by omega) E0 (by omega) hI1 rfl hC1 rfl (by omega) (by omega) (by omega) (by omega) (Lib.hid hD) (Lib.hid at1) (Lib.hid at2) (by omega) r2 rfl hpt rfl hit (by omega) p0 (by omega) (by omega) s1 s3
    · have at1 : AtC (n * q) n (n + k) (40 + B) (256 + 64 * J) a2 0 0 false := by rw [hs]; exact fun w => at_no _ _ _ _ q a2 w (by omega) (by omega) a20 a21 (.inr (by omega)) hn2 (by omega)
      exact iplaces_hi ok' a0 a1 a2 a3 B J _ _ _ _ q 0 0 p' i' X Y _ _ _ _ _ _ w hB b_.1 b_.2 hJ j_.1 j_.2 a20 a21 a30 a31 hq1 (by omega) (by omega) (by omega) (by omega) hc hn0 (by omega) hX hXe X0 (by omega) hY hYe Y0 (by omega) (Lib.hid g1) (Lib.hid g2) hD1 rfl D0 (by omega) E0 (by omega) hI1 rfl hC1 rfl (by omega) (by omega) (by omega) (by omega) (Lib.hid hD) (Lib.hid at1) (Lib.hid at2) r1 (by omega)
end Go.Proofs.Ytdcelfoomjahjaa
