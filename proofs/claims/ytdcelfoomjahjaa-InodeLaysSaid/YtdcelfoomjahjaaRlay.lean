import Derived.Test.YtdcelfoomjahjaaLayo
/-! The document's Lay. Printed by gen_layo.py. -/
set_option linter.unusedVariables false
set_option linter.unusedSimpArgs false
namespace Go.Proofs.Ytdcelfoomjahjaa
open Go.RowKit Go.Proofs.YtdcelfoomjahjaaW.PrintWords
set_option maxHeartbeats 1000000 in
theorem rlay_n0000 (b q m a c r u : Int) (w : World) (c0 : 1 ≤ b) (c1 : b ≤ 1048576) (c2 : 4 ≤ q) (c3 : q ≤ 16) (hb4 : b.tdiv 4 = m) (hbe : b / 4 = m) (hm0 : 0 ≤ m) (hm1 : m ≤ 262144) (hs : ¬ m < 16) (ha : m / q = a) (hat : (m).tdiv q = a) (a0 : 0 ≤ a) (a1 : a ≤ 262144) (hr : m % q = r) (hrt : (m).tmod q = r) (r0 : r = 0)
    (hc : b / (8 * (64 * q)) = c) (hct : b.tdiv (8 * (64 * q)) = c) (cc0 : 0 ≤ c) (cc1 : c ≤ 1048576) (hu : b % (8 * (64 * q)) = u) (hut : b.tmod (8 * (64 * q)) = u) (u0 : u = 0) (n0 : 0 ≤ a * q) (n1 : a * q ≤ 262160) (hd : ¬ b - 8 < a + c) (HF : Hid (layF b (64 * q) = ((a * q, a, a + c, b, 64 * q), 0))) :
    Calls Try.prog 10 #[.int .i64 b, .int .i64 (64 * q)] w fun e w' => e = .returned (layV (layF b (64 * q))) ∧ Below w.heap.size w w' := by
  have hq : (64 * q).tdiv 64 = q := by rw [Int.tdiv_eq_ediv_of_nonneg (by omega)]; omega
  have hqm : (64 * q).tmod 64 = 0 := by rw [Int.tmod_eq_emod_of_nonneg (by omega)]; omega
  have hqz : ¬ q = 0 := by omega
  have hw1 : wrap64 (a * q) = a * q := by unfold wrap64; omega
  go_enter Try.func10, Try.ntmps10
  go_wp2
  refine rlay_ret HF.out ?_ (by simp [results, Try.results10, go_sem])
  repeat (first | exact Below.refl _ _ | apply bl_alloc | apply bl_drew)
set_option maxHeartbeats 1000000 in
theorem rlay_n0001 (b q m a c r u : Int) (w : World) (c0 : 1 ≤ b) (c1 : b ≤ 1048576) (c2 : 4 ≤ q) (c3 : q ≤ 16) (hb4 : b.tdiv 4 = m) (hbe : b / 4 = m) (hm0 : 0 ≤ m) (hm1 : m ≤ 262144) (hs : ¬ m < 16) (ha : m / q = a) (hat : (m).tdiv q = a) (a0 : 0 ≤ a) (a1 : a ≤ 262144) (hr : m % q = r) (hrt : (m).tmod q = r) (r0 : r = 0)
    (hc : b / (8 * (64 * q)) = c) (hct : b.tdiv (8 * (64 * q)) = c) (cc0 : 0 ≤ c) (cc1 : c ≤ 1048576) (hu : b % (8 * (64 * q)) = u) (hut : b.tmod (8 * (64 * q)) = u) (u0 : u = 0) (n0 : 0 ≤ a * q) (n1 : a * q ≤ 262160) (hd : b - 8 < a + c) (HF : Hid (layF b (64 * q) = ((0, 0, 0, 0, 0), 28))) :
    Calls Try.prog 10 #[.int .i64 b, .int .i64 (64 * q)] w fun e w' => e = .returned (layV (layF b (64 * q))) ∧ Below w.heap.size w w' := by
  have hq : (64 * q).tdiv 64 = q := by rw [Int.tdiv_eq_ediv_of_nonneg (by omega)]; omega
  have hqm : (64 * q).tmod 64 = 0 := by rw [Int.tmod_eq_emod_of_nonneg (by omega)]; omega
  have hqz : ¬ q = 0 := by omega
  have hw1 : wrap64 (a * q) = a * q := by unfold wrap64; omega
  go_enter Try.func10, Try.ntmps10
  go_wp2
  refine rlay_ret HF.out ?_ (by simp [results, Try.results10, go_sem])
  repeat (first | exact Below.refl _ _ | apply bl_alloc | apply bl_drew)
set_option maxHeartbeats 1000000 in
theorem rlay_n0010 (b q m a c r u : Int) (w : World) (c0 : 1 ≤ b) (c1 : b ≤ 1048576) (c2 : 4 ≤ q) (c3 : q ≤ 16) (hb4 : b.tdiv 4 = m) (hbe : b / 4 = m) (hm0 : 0 ≤ m) (hm1 : m ≤ 262144) (hs : ¬ m < 16) (ha : m / q = a) (hat : (m).tdiv q = a) (a0 : 0 ≤ a) (a1 : a ≤ 262144) (hr : m % q = r) (hrt : (m).tmod q = r) (r0 : r = 0)
    (hc : b / (8 * (64 * q)) = c) (hct : b.tdiv (8 * (64 * q)) = c) (cc0 : 0 ≤ c) (cc1 : c ≤ 1048576) (hu : b % (8 * (64 * q)) = u) (hut : b.tmod (8 * (64 * q)) = u) (u0 : 0 < u) (n0 : 0 ≤ a * q) (n1 : a * q ≤ 262160) (hd : ¬ b - 8 < a + (c + 1)) (HF : Hid (layF b (64 * q) = ((a * q, a, a + (c + 1), b, 64 * q), 0))) :
    Calls Try.prog 10 #[.int .i64 b, .int .i64 (64 * q)] w fun e w' => e = .returned (layV (layF b (64 * q))) ∧ Below w.heap.size w w' := by
  have hq : (64 * q).tdiv 64 = q := by rw [Int.tdiv_eq_ediv_of_nonneg (by omega)]; omega
  have hqm : (64 * q).tmod 64 = 0 := by rw [Int.tmod_eq_emod_of_nonneg (by omega)]; omega
  have hqz : ¬ q = 0 := by omega
  have hw1 : wrap64 (a * q) = a * q := by unfold wrap64; omega
  go_enter Try.func10, Try.ntmps10
  go_wp2
  refine rlay_ret HF.out ?_ (by simp [results, Try.results10, go_sem])
  repeat (first | exact Below.refl _ _ | apply bl_alloc | apply bl_drew)
set_option maxHeartbeats 1000000 in
theorem rlay_n0011 (b q m a c r u : Int) (w : World) (c0 : 1 ≤ b) (c1 : b ≤ 1048576) (c2 : 4 ≤ q) (c3 : q ≤ 16) (hb4 : b.tdiv 4 = m) (hbe : b / 4 = m) (hm0 : 0 ≤ m) (hm1 : m ≤ 262144) (hs : ¬ m < 16) (ha : m / q = a) (hat : (m).tdiv q = a) (a0 : 0 ≤ a) (a1 : a ≤ 262144) (hr : m % q = r) (hrt : (m).tmod q = r) (r0 : r = 0)
    (hc : b / (8 * (64 * q)) = c) (hct : b.tdiv (8 * (64 * q)) = c) (cc0 : 0 ≤ c) (cc1 : c ≤ 1048576) (hu : b % (8 * (64 * q)) = u) (hut : b.tmod (8 * (64 * q)) = u) (u0 : 0 < u) (n0 : 0 ≤ a * q) (n1 : a * q ≤ 262160) (hd : b - 8 < a + (c + 1)) (HF : Hid (layF b (64 * q) = ((0, 0, 0, 0, 0), 28))) :
    Calls Try.prog 10 #[.int .i64 b, .int .i64 (64 * q)] w fun e w' => e = .returned (layV (layF b (64 * q))) ∧ Below w.heap.size w w' := by
  have hq : (64 * q).tdiv 64 = q := by rw [Int.tdiv_eq_ediv_of_nonneg (by omega)]; omega
  have hqm : (64 * q).tmod 64 = 0 := by rw [Int.tmod_eq_emod_of_nonneg (by omega)]; omega
  have hqz : ¬ q = 0 := by omega
  have hw1 : wrap64 (a * q) = a * q := by unfold wrap64; omega
  go_enter Try.func10, Try.ntmps10
  go_wp2
  refine rlay_ret HF.out ?_ (by simp [results, Try.results10, go_sem])
  repeat (first | exact Below.refl _ _ | apply bl_alloc | apply bl_drew)
set_option maxHeartbeats 1000000 in
theorem rlay_n0100 (b q m a c r u : Int) (w : World) (c0 : 1 ≤ b) (c1 : b ≤ 1048576) (c2 : 4 ≤ q) (c3 : q ≤ 16) (hb4 : b.tdiv 4 = m) (hbe : b / 4 = m) (hm0 : 0 ≤ m) (hm1 : m ≤ 262144) (hs : ¬ m < 16) (ha : m / q = a) (hat : (m).tdiv q = a) (a0 : 0 ≤ a) (a1 : a ≤ 262144) (hr : m % q = r) (hrt : (m).tmod q = r) (r0 : 0 < r)
    (hc : b / (8 * (64 * q)) = c) (hct : b.tdiv (8 * (64 * q)) = c) (cc0 : 0 ≤ c) (cc1 : c ≤ 1048576) (hu : b % (8 * (64 * q)) = u) (hut : b.tmod (8 * (64 * q)) = u) (u0 : u = 0) (n0 : 0 ≤ (a + 1) * q) (n1 : (a + 1) * q ≤ 262160) (hd : ¬ b - 8 < (a + 1) + c) (HF : Hid (layF b (64 * q) = (((a + 1) * q, (a + 1), (a + 1) + c, b, 64 * q), 0))) :
    Calls Try.prog 10 #[.int .i64 b, .int .i64 (64 * q)] w fun e w' => e = .returned (layV (layF b (64 * q))) ∧ Below w.heap.size w w' := by
  have hq : (64 * q).tdiv 64 = q := by rw [Int.tdiv_eq_ediv_of_nonneg (by omega)]; omega
  have hqm : (64 * q).tmod 64 = 0 := by rw [Int.tmod_eq_emod_of_nonneg (by omega)]; omega
  have hqz : ¬ q = 0 := by omega
  have hw1 : wrap64 ((a + 1) * q) = (a + 1) * q := by unfold wrap64; omega
  go_enter Try.func10, Try.ntmps10
  go_wp2
  refine rlay_ret HF.out ?_ (by simp [results, Try.results10, go_sem])
  repeat (first | exact Below.refl _ _ | apply bl_alloc | apply bl_drew)
set_option maxHeartbeats 1000000 in
theorem rlay_n0101 (b q m a c r u : Int) (w : World) (c0 : 1 ≤ b) (c1 : b ≤ 1048576) (c2 : 4 ≤ q) (c3 : q ≤ 16) (hb4 : b.tdiv 4 = m) (hbe : b / 4 = m) (hm0 : 0 ≤ m) (hm1 : m ≤ 262144) (hs : ¬ m < 16) (ha : m / q = a) (hat : (m).tdiv q = a) (a0 : 0 ≤ a) (a1 : a ≤ 262144) (hr : m % q = r) (hrt : (m).tmod q = r) (r0 : 0 < r)
    (hc : b / (8 * (64 * q)) = c) (hct : b.tdiv (8 * (64 * q)) = c) (cc0 : 0 ≤ c) (cc1 : c ≤ 1048576) (hu : b % (8 * (64 * q)) = u) (hut : b.tmod (8 * (64 * q)) = u) (u0 : u = 0) (n0 : 0 ≤ (a + 1) * q) (n1 : (a + 1) * q ≤ 262160) (hd : b - 8 < (a + 1) + c) (HF : Hid (layF b (64 * q) = ((0, 0, 0, 0, 0), 28))) :
    Calls Try.prog 10 #[.int .i64 b, .int .i64 (64 * q)] w fun e w' => e = .returned (layV (layF b (64 * q))) ∧ Below w.heap.size w w' := by
  have hq : (64 * q).tdiv 64 = q := by rw [Int.tdiv_eq_ediv_of_nonneg (by omega)]; omega
  have hqm : (64 * q).tmod 64 = 0 := by rw [Int.tmod_eq_emod_of_nonneg (by omega)]; omega
  have hqz : ¬ q = 0 := by omega
  have hw1 : wrap64 ((a + 1) * q) = (a + 1) * q := by unfold wrap64; omega
  go_enter Try.func10, Try.ntmps10
  go_wp2
  refine rlay_ret HF.out ?_ (by simp [results, Try.results10, go_sem])
  repeat (first | exact Below.refl _ _ | apply bl_alloc | apply bl_drew)
set_option maxHeartbeats 1000000 in
theorem rlay_n0110 (b q m a c r u : Int) (w : World) (c0 : 1 ≤ b) (c1 : b ≤ 1048576) (c2 : 4 ≤ q) (c3 : q ≤ 16) (hb4 : b.tdiv 4 = m) (hbe : b / 4 = m) (hm0 : 0 ≤ m) (hm1 : m ≤ 262144) (hs : ¬ m < 16) (ha : m / q = a) (hat : (m).tdiv q = a) (a0 : 0 ≤ a) (a1 : a ≤ 262144) (hr : m % q = r) (hrt : (m).tmod q = r) (r0 : 0 < r)
    (hc : b / (8 * (64 * q)) = c) (hct : b.tdiv (8 * (64 * q)) = c) (cc0 : 0 ≤ c) (cc1 : c ≤ 1048576) (hu : b % (8 * (64 * q)) = u) (hut : b.tmod (8 * (64 * q)) = u) (u0 : 0 < u) (n0 : 0 ≤ (a + 1) * q) (n1 : (a + 1) * q ≤ 262160) (hd : ¬ b - 8 < (a + 1) + (c + 1)) (HF : Hid (layF b (64 * q) = (((a + 1) * q, (a + 1), (a + 1) + (c + 1), b, 64 * q), 0))) :
    Calls Try.prog 10 #[.int .i64 b, .int .i64 (64 * q)] w fun e w' => e = .returned (layV (layF b (64 * q))) ∧ Below w.heap.size w w' := by
  have hq : (64 * q).tdiv 64 = q := by rw [Int.tdiv_eq_ediv_of_nonneg (by omega)]; omega
  have hqm : (64 * q).tmod 64 = 0 := by rw [Int.tmod_eq_emod_of_nonneg (by omega)]; omega
  have hqz : ¬ q = 0 := by omega
  have hw1 : wrap64 ((a + 1) * q) = (a + 1) * q := by unfold wrap64; omega
  go_enter Try.func10, Try.ntmps10
  go_wp2
  refine rlay_ret HF.out ?_ (by simp [results, Try.results10, go_sem])
  repeat (first | exact Below.refl _ _ | apply bl_alloc | apply bl_drew)
set_option maxHeartbeats 1000000 in
theorem rlay_n0111 (b q m a c r u : Int) (w : World) (c0 : 1 ≤ b) (c1 : b ≤ 1048576) (c2 : 4 ≤ q) (c3 : q ≤ 16) (hb4 : b.tdiv 4 = m) (hbe : b / 4 = m) (hm0 : 0 ≤ m) (hm1 : m ≤ 262144) (hs : ¬ m < 16) (ha : m / q = a) (hat : (m).tdiv q = a) (a0 : 0 ≤ a) (a1 : a ≤ 262144) (hr : m % q = r) (hrt : (m).tmod q = r) (r0 : 0 < r)
    (hc : b / (8 * (64 * q)) = c) (hct : b.tdiv (8 * (64 * q)) = c) (cc0 : 0 ≤ c) (cc1 : c ≤ 1048576) (hu : b % (8 * (64 * q)) = u) (hut : b.tmod (8 * (64 * q)) = u) (u0 : 0 < u) (n0 : 0 ≤ (a + 1) * q) (n1 : (a + 1) * q ≤ 262160) (hd : b - 8 < (a + 1) + (c + 1)) (HF : Hid (layF b (64 * q) = ((0, 0, 0, 0, 0), 28))) :
    Calls Try.prog 10 #[.int .i64 b, .int .i64 (64 * q)] w fun e w' => e = .returned (layV (layF b (64 * q))) ∧ Below w.heap.size w w' := by
  have hq : (64 * q).tdiv 64 = q := by rw [Int.tdiv_eq_ediv_of_nonneg (by omega)]; omega
  have hqm : (64 * q).tmod 64 = 0 := by rw [Int.tmod_eq_emod_of_nonneg (by omega)]; omega
  have hqz : ¬ q = 0 := by omega
  have hw1 : wrap64 ((a + 1) * q) = (a + 1) * q := by unfold wrap64; omega
  go_enter Try.func10, Try.ntmps10
  go_wp2
  refine rlay_ret HF.out ?_ (by simp [results, Try.results10, go_sem])
  repeat (first | exact Below.refl _ _ | apply bl_alloc | apply bl_drew)
set_option maxHeartbeats 1000000 in
theorem rlay_n1000 (b q m a c r u : Int) (w : World) (c0 : 1 ≤ b) (c1 : b ≤ 1048576) (c2 : 4 ≤ q) (c3 : q ≤ 16) (hb4 : b.tdiv 4 = m) (hbe : b / 4 = m) (hm0 : 0 ≤ m) (hm1 : m ≤ 262144) (hs : m < 16) (ha : (16 : Int) / q = a) (hat : ((16 : Int)).tdiv q = a) (a0 : 0 ≤ a) (a1 : a ≤ 262144) (hr : (16 : Int) % q = r) (hrt : ((16 : Int)).tmod q = r) (r0 : r = 0)
    (hc : b / (8 * (64 * q)) = c) (hct : b.tdiv (8 * (64 * q)) = c) (cc0 : 0 ≤ c) (cc1 : c ≤ 1048576) (hu : b % (8 * (64 * q)) = u) (hut : b.tmod (8 * (64 * q)) = u) (u0 : u = 0) (n0 : 0 ≤ a * q) (n1 : a * q ≤ 262160) (hd : ¬ b - 8 < a + c) (HF : Hid (layF b (64 * q) = ((a * q, a, a + c, b, 64 * q), 0))) :
    Calls Try.prog 10 #[.int .i64 b, .int .i64 (64 * q)] w fun e w' => e = .returned (layV (layF b (64 * q))) ∧ Below w.heap.size w w' := by
  have hq : (64 * q).tdiv 64 = q := by rw [Int.tdiv_eq_ediv_of_nonneg (by omega)]; omega
  have hqm : (64 * q).tmod 64 = 0 := by rw [Int.tmod_eq_emod_of_nonneg (by omega)]; omega
  have hqz : ¬ q = 0 := by omega
  have hw1 : wrap64 (a * q) = a * q := by unfold wrap64; omega
  go_enter Try.func10, Try.ntmps10
  go_wp2
  refine rlay_ret HF.out ?_ (by simp [results, Try.results10, go_sem])
  repeat (first | exact Below.refl _ _ | apply bl_alloc | apply bl_drew)
set_option maxHeartbeats 1000000 in
theorem rlay_n1001 (b q m a c r u : Int) (w : World) (c0 : 1 ≤ b) (c1 : b ≤ 1048576) (c2 : 4 ≤ q) (c3 : q ≤ 16) (hb4 : b.tdiv 4 = m) (hbe : b / 4 = m) (hm0 : 0 ≤ m) (hm1 : m ≤ 262144) (hs : m < 16) (ha : (16 : Int) / q = a) (hat : ((16 : Int)).tdiv q = a) (a0 : 0 ≤ a) (a1 : a ≤ 262144) (hr : (16 : Int) % q = r) (hrt : ((16 : Int)).tmod q = r) (r0 : r = 0)
    (hc : b / (8 * (64 * q)) = c) (hct : b.tdiv (8 * (64 * q)) = c) (cc0 : 0 ≤ c) (cc1 : c ≤ 1048576) (hu : b % (8 * (64 * q)) = u) (hut : b.tmod (8 * (64 * q)) = u) (u0 : u = 0) (n0 : 0 ≤ a * q) (n1 : a * q ≤ 262160) (hd : b - 8 < a + c) (HF : Hid (layF b (64 * q) = ((0, 0, 0, 0, 0), 28))) :
    Calls Try.prog 10 #[.int .i64 b, .int .i64 (64 * q)] w fun e w' => e = .returned (layV (layF b (64 * q))) ∧ Below w.heap.size w w' := by
  have hq : (64 * q).tdiv 64 = q := by rw [Int.tdiv_eq_ediv_of_nonneg (by omega)]; omega
  have hqm : (64 * q).tmod 64 = 0 := by rw [Int.tmod_eq_emod_of_nonneg (by omega)]; omega
  have hqz : ¬ q = 0 := by omega
  have hw1 : wrap64 (a * q) = a * q := by unfold wrap64; omega
  go_enter Try.func10, Try.ntmps10
  go_wp2
  refine rlay_ret HF.out ?_ (by simp [results, Try.results10, go_sem])
  repeat (first | exact Below.refl _ _ | apply bl_alloc | apply bl_drew)
set_option maxHeartbeats 1000000 in
theorem rlay_n1010 (b q m a c r u : Int) (w : World) (c0 : 1 ≤ b) (c1 : b ≤ 1048576) (c2 : 4 ≤ q) (c3 : q ≤ 16) (hb4 : b.tdiv 4 = m) (hbe : b / 4 = m) (hm0 : 0 ≤ m) (hm1 : m ≤ 262144) (hs : m < 16) (ha : (16 : Int) / q = a) (hat : ((16 : Int)).tdiv q = a) (a0 : 0 ≤ a) (a1 : a ≤ 262144) (hr : (16 : Int) % q = r) (hrt : ((16 : Int)).tmod q = r) (r0 : r = 0)
    (hc : b / (8 * (64 * q)) = c) (hct : b.tdiv (8 * (64 * q)) = c) (cc0 : 0 ≤ c) (cc1 : c ≤ 1048576) (hu : b % (8 * (64 * q)) = u) (hut : b.tmod (8 * (64 * q)) = u) (u0 : 0 < u) (n0 : 0 ≤ a * q) (n1 : a * q ≤ 262160) (hd : ¬ b - 8 < a + (c + 1)) (HF : Hid (layF b (64 * q) = ((a * q, a, a + (c + 1), b, 64 * q), 0))) :
    Calls Try.prog 10 #[.int .i64 b, .int .i64 (64 * q)] w fun e w' => e = .returned (layV (layF b (64 * q))) ∧ Below w.heap.size w w' := by
  have hq : (64 * q).tdiv 64 = q := by rw [Int.tdiv_eq_ediv_of_nonneg (by omega)]; omega
  have hqm : (64 * q).tmod 64 = 0 := by rw [Int.tmod_eq_emod_of_nonneg (by omega)]; omega
  have hqz : ¬ q = 0 := by omega
  have hw1 : wrap64 (a * q) = a * q := by unfold wrap64; omega
  go_enter Try.func10, Try.ntmps10
  go_wp2
  refine rlay_ret HF.out ?_ (by simp [results, Try.results10, go_sem])
  repeat (first | exact Below.refl _ _ | apply bl_alloc | apply bl_drew)
set_option maxHeartbeats 1000000 in
theorem rlay_n1011 (b q m a c r u : Int) (w : World) (c0 : 1 ≤ b) (c1 : b ≤ 1048576) (c2 : 4 ≤ q) (c3 : q ≤ 16) (hb4 : b.tdiv 4 = m) (hbe : b / 4 = m) (hm0 : 0 ≤ m) (hm1 : m ≤ 262144) (hs : m < 16) (ha : (16 : Int) / q = a) (hat : ((16 : Int)).tdiv q = a) (a0 : 0 ≤ a) (a1 : a ≤ 262144) (hr : (16 : Int) % q = r) (hrt : ((16 : Int)).tmod q = r) (r0 : r = 0)
    (hc : b / (8 * (64 * q)) = c) (hct : b.tdiv (8 * (64 * q)) = c) (cc0 : 0 ≤ c) (cc1 : c ≤ 1048576) (hu : b % (8 * (64 * q)) = u) (hut : b.tmod (8 * (64 * q)) = u) (u0 : 0 < u) (n0 : 0 ≤ a * q) (n1 : a * q ≤ 262160) (hd : b - 8 < a + (c + 1)) (HF : Hid (layF b (64 * q) = ((0, 0, 0, 0, 0), 28))) :
    Calls Try.prog 10 #[.int .i64 b, .int .i64 (64 * q)] w fun e w' => e = .returned (layV (layF b (64 * q))) ∧ Below w.heap.size w w' := by
  have hq : (64 * q).tdiv 64 = q := by rw [Int.tdiv_eq_ediv_of_nonneg (by omega)]; omega
  have hqm : (64 * q).tmod 64 = 0 := by rw [Int.tmod_eq_emod_of_nonneg (by omega)]; omega
  have hqz : ¬ q = 0 := by omega
  have hw1 : wrap64 (a * q) = a * q := by unfold wrap64; omega
  go_enter Try.func10, Try.ntmps10
  go_wp2
  refine rlay_ret HF.out ?_ (by simp [results, Try.results10, go_sem])
  repeat (first | exact Below.refl _ _ | apply bl_alloc | apply bl_drew)
set_option maxHeartbeats 1000000 in
theorem rlay_n1100 (b q m a c r u : Int) (w : World) (c0 : 1 ≤ b) (c1 : b ≤ 1048576) (c2 : 4 ≤ q) (c3 : q ≤ 16) (hb4 : b.tdiv 4 = m) (hbe : b / 4 = m) (hm0 : 0 ≤ m) (hm1 : m ≤ 262144) (hs : m < 16) (ha : (16 : Int) / q = a) (hat : ((16 : Int)).tdiv q = a) (a0 : 0 ≤ a) (a1 : a ≤ 262144) (hr : (16 : Int) % q = r) (hrt : ((16 : Int)).tmod q = r) (r0 : 0 < r)
    (hc : b / (8 * (64 * q)) = c) (hct : b.tdiv (8 * (64 * q)) = c) (cc0 : 0 ≤ c) (cc1 : c ≤ 1048576) (hu : b % (8 * (64 * q)) = u) (hut : b.tmod (8 * (64 * q)) = u) (u0 : u = 0) (n0 : 0 ≤ (a + 1) * q) (n1 : (a + 1) * q ≤ 262160) (hd : ¬ b - 8 < (a + 1) + c) (HF : Hid (layF b (64 * q) = (((a + 1) * q, (a + 1), (a + 1) + c, b, 64 * q), 0))) :
    Calls Try.prog 10 #[.int .i64 b, .int .i64 (64 * q)] w fun e w' => e = .returned (layV (layF b (64 * q))) ∧ Below w.heap.size w w' := by
  have hq : (64 * q).tdiv 64 = q := by rw [Int.tdiv_eq_ediv_of_nonneg (by omega)]; omega
  have hqm : (64 * q).tmod 64 = 0 := by rw [Int.tmod_eq_emod_of_nonneg (by omega)]; omega
  have hqz : ¬ q = 0 := by omega
  have hw1 : wrap64 ((a + 1) * q) = (a + 1) * q := by unfold wrap64; omega
  go_enter Try.func10, Try.ntmps10
  go_wp2
  refine rlay_ret HF.out ?_ (by simp [results, Try.results10, go_sem])
  repeat (first | exact Below.refl _ _ | apply bl_alloc | apply bl_drew)
set_option maxHeartbeats 1000000 in
theorem rlay_n1101 (b q m a c r u : Int) (w : World) (c0 : 1 ≤ b) (c1 : b ≤ 1048576) (c2 : 4 ≤ q) (c3 : q ≤ 16) (hb4 : b.tdiv 4 = m) (hbe : b / 4 = m) (hm0 : 0 ≤ m) (hm1 : m ≤ 262144) (hs : m < 16) (ha : (16 : Int) / q = a) (hat : ((16 : Int)).tdiv q = a) (a0 : 0 ≤ a) (a1 : a ≤ 262144) (hr : (16 : Int) % q = r) (hrt : ((16 : Int)).tmod q = r) (r0 : 0 < r)
    (hc : b / (8 * (64 * q)) = c) (hct : b.tdiv (8 * (64 * q)) = c) (cc0 : 0 ≤ c) (cc1 : c ≤ 1048576) (hu : b % (8 * (64 * q)) = u) (hut : b.tmod (8 * (64 * q)) = u) (u0 : u = 0) (n0 : 0 ≤ (a + 1) * q) (n1 : (a + 1) * q ≤ 262160) (hd : b - 8 < (a + 1) + c) (HF : Hid (layF b (64 * q) = ((0, 0, 0, 0, 0), 28))) :
    Calls Try.prog 10 #[.int .i64 b, .int .i64 (64 * q)] w fun e w' => e = .returned (layV (layF b (64 * q))) ∧ Below w.heap.size w w' := by
  have hq : (64 * q).tdiv 64 = q := by rw [Int.tdiv_eq_ediv_of_nonneg (by omega)]; omega
  have hqm : (64 * q).tmod 64 = 0 := by rw [Int.tmod_eq_emod_of_nonneg (by omega)]; omega
  have hqz : ¬ q = 0 := by omega
  have hw1 : wrap64 ((a + 1) * q) = (a + 1) * q := by unfold wrap64; omega
  go_enter Try.func10, Try.ntmps10
  go_wp2
  refine rlay_ret HF.out ?_ (by simp [results, Try.results10, go_sem])
  repeat (first | exact Below.refl _ _ | apply bl_alloc | apply bl_drew)
set_option maxHeartbeats 1000000 in
theorem rlay_n1110 (b q m a c r u : Int) (w : World) (c0 : 1 ≤ b) (c1 : b ≤ 1048576) (c2 : 4 ≤ q) (c3 : q ≤ 16) (hb4 : b.tdiv 4 = m) (hbe : b / 4 = m) (hm0 : 0 ≤ m) (hm1 : m ≤ 262144) (hs : m < 16) (ha : (16 : Int) / q = a) (hat : ((16 : Int)).tdiv q = a) (a0 : 0 ≤ a) (a1 : a ≤ 262144) (hr : (16 : Int) % q = r) (hrt : ((16 : Int)).tmod q = r) (r0 : 0 < r)
    (hc : b / (8 * (64 * q)) = c) (hct : b.tdiv (8 * (64 * q)) = c) (cc0 : 0 ≤ c) (cc1 : c ≤ 1048576) (hu : b % (8 * (64 * q)) = u) (hut : b.tmod (8 * (64 * q)) = u) (u0 : 0 < u) (n0 : 0 ≤ (a + 1) * q) (n1 : (a + 1) * q ≤ 262160) (hd : ¬ b - 8 < (a + 1) + (c + 1)) (HF : Hid (layF b (64 * q) = (((a + 1) * q, (a + 1), (a + 1) + (c + 1), b, 64 * q), 0))) :
    Calls Try.prog 10 #[.int .i64 b, .int .i64 (64 * q)] w fun e w' => e = .returned (layV (layF b (64 * q))) ∧ Below w.heap.size w w' := by
  have hq : (64 * q).tdiv 64 = q := by rw [Int.tdiv_eq_ediv_of_nonneg (by omega)]; omega
  have hqm : (64 * q).tmod 64 = 0 := by rw [Int.tmod_eq_emod_of_nonneg (by omega)]; omega
  have hqz : ¬ q = 0 := by omega
  have hw1 : wrap64 ((a + 1) * q) = (a + 1) * q := by unfold wrap64; omega
  go_enter Try.func10, Try.ntmps10
  go_wp2
  refine rlay_ret HF.out ?_ (by simp [results, Try.results10, go_sem])
  repeat (first | exact Below.refl _ _ | apply bl_alloc | apply bl_drew)
set_option maxHeartbeats 1000000 in
theorem rlay_n1111 (b q m a c r u : Int) (w : World) (c0 : 1 ≤ b) (c1 : b ≤ 1048576) (c2 : 4 ≤ q) (c3 : q ≤ 16) (hb4 : b.tdiv 4 = m) (hbe : b / 4 = m) (hm0 : 0 ≤ m) (hm1 : m ≤ 262144) (hs : m < 16) (ha : (16 : Int) / q = a) (hat : ((16 : Int)).tdiv q = a) (a0 : 0 ≤ a) (a1 : a ≤ 262144) (hr : (16 : Int) % q = r) (hrt : ((16 : Int)).tmod q = r) (r0 : 0 < r)
    (hc : b / (8 * (64 * q)) = c) (hct : b.tdiv (8 * (64 * q)) = c) (cc0 : 0 ≤ c) (cc1 : c ≤ 1048576) (hu : b % (8 * (64 * q)) = u) (hut : b.tmod (8 * (64 * q)) = u) (u0 : 0 < u) (n0 : 0 ≤ (a + 1) * q) (n1 : (a + 1) * q ≤ 262160) (hd : b - 8 < (a + 1) + (c + 1)) (HF : Hid (layF b (64 * q) = ((0, 0, 0, 0, 0), 28))) :
    Calls Try.prog 10 #[.int .i64 b, .int .i64 (64 * q)] w fun e w' => e = .returned (layV (layF b (64 * q))) ∧ Below w.heap.size w w' := by
  have hq : (64 * q).tdiv 64 = q := by rw [Int.tdiv_eq_ediv_of_nonneg (by omega)]; omega
  have hqm : (64 * q).tmod 64 = 0 := by rw [Int.tmod_eq_emod_of_nonneg (by omega)]; omega
  have hqz : ¬ q = 0 := by omega
  have hw1 : wrap64 ((a + 1) * q) = (a + 1) * q := by unfold wrap64; omega
  go_enter Try.func10, Try.ntmps10
  go_wp2
  refine rlay_ret HF.out ?_ (by simp [results, Try.results10, go_sem])
  repeat (first | exact Below.refl _ _ | apply bl_alloc | apply bl_drew)
theorem rlay_any (b s : Int) (w : World) (h0 : -9223372036854775808 ≤ b) (h1 : b ≤ 9223372036854775807) (h2 : -9223372036854775808 ≤ s) (h3 : s ≤ 9223372036854775807) :
    Calls Try.prog 10 #[.int .i64 b, .int .i64 s] w fun e w' => e = .returned (layV (layF b s)) ∧ Below w.heap.size w w' := by
  by_cases c : 1 ≤ b ∧ b ≤ 1048576 ∧ 256 ≤ s ∧ s ≤ 1024 ∧ s % 64 = 0
  · obtain ⟨c0, c1, c2, c3, c4⟩ := c
    obtain ⟨q, rfl⟩ : ∃ q : Int, s = 64 * q := ⟨s / 64, by omega⟩
    have q4 : 4 ≤ q := by omega
    have q16 : q ≤ 16 := by omega
    have hqe : 64 * q / 64 = q := by omega
    have hb4 : b.tdiv 4 = b / 4 := Int.tdiv_eq_ediv_of_nonneg (by omega)
    have m0 : 0 ≤ b / 4 := by omega
    have m1 : b / 4 ≤ 262144 := by omega
    have p0 : 0 < 8 * (64 * q) := by omega
    have hct : b.tdiv (8 * (64 * q)) = b / (8 * (64 * q)) := Int.tdiv_eq_ediv_of_nonneg (by omega)
    have hut : b.tmod (8 * (64 * q)) = b % (8 * (64 * q)) := Int.tmod_eq_emod_of_nonneg (by omega)
    have cc0 : 0 ≤ b / (8 * (64 * q)) := Int.ediv_nonneg (by omega) (by omega)
    have cc1 : b / (8 * (64 * q)) ≤ 1048576 := Int.le_trans (Int.ediv_le_self _ (by omega)) (by omega)
    have u0 := Int.emod_nonneg b (show 8 * (64 * q) ≠ 0 by omega)
    have eK := ceil_eq b (8 * (64 * q)) (by omega) p0
    by_cases hs : b / 4 < 16
    · have hmx : max 16 (b / 4) = (16 : Int) := by omega
      have eN := ceil_eq ((16 : Int)) q (by omega) (by omega)
      have hat : ((16 : Int)).tdiv q = (16 : Int) / q := Int.tdiv_eq_ediv_of_nonneg (by omega)
      have hrt : ((16 : Int)).tmod q = (16 : Int) % q := Int.tmod_eq_emod_of_nonneg (by omega)
      have a0 : 0 ≤ (16 : Int) / q := Int.ediv_nonneg (by omega) (by omega)
      have a1 : (16 : Int) / q ≤ 262144 := Int.le_trans (Int.ediv_le_self _ (by omega)) (by omega)
      have r0 := Int.emod_nonneg ((16 : Int)) (show q ≠ 0 by omega)
      have hm2 := Int.ediv_mul_le ((16 : Int) + q - 1) (show q ≠ 0 by omega)
      by_cases hr : 0 < (16 : Int) % q
      · rw [if_pos hr] at eN
        rw [eN] at hm2
        have n0 : 0 ≤ ((16 : Int) / q + 1) * q := Int.mul_nonneg (by omega) (by omega)
        by_cases hu : 0 < b % (8 * (64 * q))
        · rw [if_pos hu] at eK
          by_cases hd : b - 8 < ((16 : Int) / q + 1) + (b / (8 * (64 * q)) + 1)
          · exact rlay_n1111 b q (b / 4) _ _ _ _ w c0 c1 q4 q16 hb4 rfl m0 m1 (by omega) rfl hat a0 a1 rfl hrt (by omega) rfl hct cc0 cc1 rfl hut (by omega) n0 (by omega) hd (Lib.hid (by unfold layF; rw [if_neg (by omega), hqe, hmx, eN, eK, if_pos (by omega)]))
          · exact rlay_n1110 b q (b / 4) _ _ _ _ w c0 c1 q4 q16 hb4 rfl m0 m1 (by omega) rfl hat a0 a1 rfl hrt (by omega) rfl hct cc0 cc1 rfl hut (by omega) n0 (by omega) hd (Lib.hid (by unfold layF; rw [if_neg (by omega), hqe, hmx, eN, eK, if_neg (by omega)]))
        · rw [if_neg hu] at eK
          by_cases hd : b - 8 < ((16 : Int) / q + 1) + b / (8 * (64 * q))
          · exact rlay_n1101 b q (b / 4) _ _ _ _ w c0 c1 q4 q16 hb4 rfl m0 m1 (by omega) rfl hat a0 a1 rfl hrt (by omega) rfl hct cc0 cc1 rfl hut (by omega) n0 (by omega) hd (Lib.hid (by unfold layF; rw [if_neg (by omega), hqe, hmx, eN, eK, if_pos (by omega)]))
          · exact rlay_n1100 b q (b / 4) _ _ _ _ w c0 c1 q4 q16 hb4 rfl m0 m1 (by omega) rfl hat a0 a1 rfl hrt (by omega) rfl hct cc0 cc1 rfl hut (by omega) n0 (by omega) hd (Lib.hid (by unfold layF; rw [if_neg (by omega), hqe, hmx, eN, eK, if_neg (by omega)]))
      · rw [if_neg hr] at eN
        rw [eN] at hm2
        have n0 : 0 ≤ (16 : Int) / q * q := Int.mul_nonneg (by omega) (by omega)
        by_cases hu : 0 < b % (8 * (64 * q))
        · rw [if_pos hu] at eK
          by_cases hd : b - 8 < (16 : Int) / q + (b / (8 * (64 * q)) + 1)
          · exact rlay_n1011 b q (b / 4) _ _ _ _ w c0 c1 q4 q16 hb4 rfl m0 m1 (by omega) rfl hat a0 a1 rfl hrt (by omega) rfl hct cc0 cc1 rfl hut (by omega) n0 (by omega) hd (Lib.hid (by unfold layF; rw [if_neg (by omega), hqe, hmx, eN, eK, if_pos (by omega)]))
          · exact rlay_n1010 b q (b / 4) _ _ _ _ w c0 c1 q4 q16 hb4 rfl m0 m1 (by omega) rfl hat a0 a1 rfl hrt (by omega) rfl hct cc0 cc1 rfl hut (by omega) n0 (by omega) hd (Lib.hid (by unfold layF; rw [if_neg (by omega), hqe, hmx, eN, eK, if_neg (by omega)]))
        · rw [if_neg hu] at eK
          by_cases hd : b - 8 < (16 : Int) / q + b / (8 * (64 * q))
          · exact rlay_n1001 b q (b / 4) _ _ _ _ w c0 c1 q4 q16 hb4 rfl m0 m1 (by omega) rfl hat a0 a1 rfl hrt (by omega) rfl hct cc0 cc1 rfl hut (by omega) n0 (by omega) hd (Lib.hid (by unfold layF; rw [if_neg (by omega), hqe, hmx, eN, eK, if_pos (by omega)]))
          · exact rlay_n1000 b q (b / 4) _ _ _ _ w c0 c1 q4 q16 hb4 rfl m0 m1 (by omega) rfl hat a0 a1 rfl hrt (by omega) rfl hct cc0 cc1 rfl hut (by omega) n0 (by omega) hd (Lib.hid (by unfold layF; rw [if_neg (by omega), hqe, hmx, eN, eK, if_neg (by omega)]))
    · have hmx : max 16 (b / 4) = b / 4 := by omega
      have eN := ceil_eq (b / 4) q (by omega) (by omega)
      have hat : (b / 4).tdiv q = b / 4 / q := Int.tdiv_eq_ediv_of_nonneg (by omega)
      have hrt : (b / 4).tmod q = b / 4 % q := Int.tmod_eq_emod_of_nonneg (by omega)
      have a0 : 0 ≤ b / 4 / q := Int.ediv_nonneg (by omega) (by omega)
      have a1 : b / 4 / q ≤ 262144 := Int.le_trans (Int.ediv_le_self _ (by omega)) (by omega)
      have r0 := Int.emod_nonneg (b / 4) (show q ≠ 0 by omega)
      have hm2 := Int.ediv_mul_le (b / 4 + q - 1) (show q ≠ 0 by omega)
      by_cases hr : 0 < b / 4 % q
      · rw [if_pos hr] at eN
        rw [eN] at hm2
        have n0 : 0 ≤ (b / 4 / q + 1) * q := Int.mul_nonneg (by omega) (by omega)
        by_cases hu : 0 < b % (8 * (64 * q))
        · rw [if_pos hu] at eK
          by_cases hd : b - 8 < (b / 4 / q + 1) + (b / (8 * (64 * q)) + 1)
          · exact rlay_n0111 b q (b / 4) _ _ _ _ w c0 c1 q4 q16 hb4 rfl m0 m1 (by omega) rfl hat a0 a1 rfl hrt (by omega) rfl hct cc0 cc1 rfl hut (by omega) n0 (by omega) hd (Lib.hid (by unfold layF; rw [if_neg (by omega), hqe, hmx, eN, eK, if_pos (by omega)]))
          · exact rlay_n0110 b q (b / 4) _ _ _ _ w c0 c1 q4 q16 hb4 rfl m0 m1 (by omega) rfl hat a0 a1 rfl hrt (by omega) rfl hct cc0 cc1 rfl hut (by omega) n0 (by omega) hd (Lib.hid (by unfold layF; rw [if_neg (by omega), hqe, hmx, eN, eK, if_neg (by omega)]))
        · rw [if_neg hu] at eK
          by_cases hd : b - 8 < (b / 4 / q + 1) + b / (8 * (64 * q))
          · exact rlay_n0101 b q (b / 4) _ _ _ _ w c0 c1 q4 q16 hb4 rfl m0 m1 (by omega) rfl hat a0 a1 rfl hrt (by omega) rfl hct cc0 cc1 rfl hut (by omega) n0 (by omega) hd (Lib.hid (by unfold layF; rw [if_neg (by omega), hqe, hmx, eN, eK, if_pos (by omega)]))
          · exact rlay_n0100 b q (b / 4) _ _ _ _ w c0 c1 q4 q16 hb4 rfl m0 m1 (by omega) rfl hat a0 a1 rfl hrt (by omega) rfl hct cc0 cc1 rfl hut (by omega) n0 (by omega) hd (Lib.hid (by unfold layF; rw [if_neg (by omega), hqe, hmx, eN, eK, if_neg (by omega)]))
      · rw [if_neg hr] at eN
        rw [eN] at hm2
        have n0 : 0 ≤ b / 4 / q * q := Int.mul_nonneg (by omega) (by omega)
        by_cases hu : 0 < b % (8 * (64 * q))
        · rw [if_pos hu] at eK
          by_cases hd : b - 8 < b / 4 / q + (b / (8 * (64 * q)) + 1)
          · exact rlay_n0011 b q (b / 4) _ _ _ _ w c0 c1 q4 q16 hb4 rfl m0 m1 (by omega) rfl hat a0 a1 rfl hrt (by omega) rfl hct cc0 cc1 rfl hut (by omega) n0 (by omega) hd (Lib.hid (by unfold layF; rw [if_neg (by omega), hqe, hmx, eN, eK, if_pos (by omega)]))
          · exact rlay_n0010 b q (b / 4) _ _ _ _ w c0 c1 q4 q16 hb4 rfl m0 m1 (by omega) rfl hat a0 a1 rfl hrt (by omega) rfl hct cc0 cc1 rfl hut (by omega) n0 (by omega) hd (Lib.hid (by unfold layF; rw [if_neg (by omega), hqe, hmx, eN, eK, if_neg (by omega)]))
        · rw [if_neg hu] at eK
          by_cases hd : b - 8 < b / 4 / q + b / (8 * (64 * q))
          · exact rlay_n0001 b q (b / 4) _ _ _ _ w c0 c1 q4 q16 hb4 rfl m0 m1 (by omega) rfl hat a0 a1 rfl hrt (by omega) rfl hct cc0 cc1 rfl hut (by omega) n0 (by omega) hd (Lib.hid (by unfold layF; rw [if_neg (by omega), hqe, hmx, eN, eK, if_pos (by omega)]))
          · exact rlay_n0000 b q (b / 4) _ _ _ _ w c0 c1 q4 q16 hb4 rfl m0 m1 (by omega) rfl hat a0 a1 rfl hrt (by omega) rfl hct cc0 cc1 rfl hut (by omega) n0 (by omega) hd (Lib.hid (by unfold layF; rw [if_neg (by omega), hqe, hmx, eN, eK, if_neg (by omega)]))
  · have hf : layF b s = ((0, 0, 0, 0, 0), 34) := by unfold layF; rw [if_pos (by omega)]
    have HF := Lib.hid hf; clear hf
    by_cases d0 : b < 1
    · go_enter Try.func10, Try.ntmps10
      go_wp2
      refine rlay_ret HF.out ?_ (by simp [results, Try.results10, go_sem])
      repeat (first | exact Below.refl _ _ | apply bl_alloc | apply bl_drew)
    by_cases d1 : 1048576 < b
    · go_enter Try.func10, Try.ntmps10
      go_wp2
      refine rlay_ret HF.out ?_ (by simp [results, Try.results10, go_sem])
      repeat (first | exact Below.refl _ _ | apply bl_alloc | apply bl_drew)
    by_cases d2 : s < 256
    · go_enter Try.func10, Try.ntmps10
      go_wp2
      refine rlay_ret HF.out ?_ (by simp [results, Try.results10, go_sem])
      repeat (first | exact Below.refl _ _ | apply bl_alloc | apply bl_drew)
    by_cases d3 : 1024 < s
    · go_enter Try.func10, Try.ntmps10
      go_wp2
      refine rlay_ret HF.out ?_ (by simp [results, Try.results10, go_sem])
      repeat (first | exact Below.refl _ _ | apply bl_alloc | apply bl_drew)
    have d4 : ¬ s.tmod 64 = 0 := by rw [Int.tmod_eq_emod_of_nonneg (by omega)]; omega
    go_enter Try.func10, Try.ntmps10
    go_wp2
    refine rlay_ret HF.out ?_ (by simp [results, Try.results10, go_sem])
    repeat (first | exact Below.refl _ _ | apply bl_alloc | apply bl_drew)
end Go.Proofs.Ytdcelfoomjahjaa
