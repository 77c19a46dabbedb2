import Derived.Test.YtdcimjkgbnflbaaA
namespace Go.Proofs.Ytdcimjkgbnflbaa
open Go.RowKit
theorem mod13 (a0 : Int) : 0 ≤ (IntKind.u64.wrap a0).tmod 13 ∧ (IntKind.u64.wrap a0).tmod 13 < 13 := by
  have h : 0 ≤ IntKind.u64.wrap a0 := by rw [IntKind.wrap_u64]; omega
  rw [Int.tmod_eq_emod_of_nonneg h]; omega
set_option maxHeartbeats 1000000 in
theorem counts_walk0 (a0 : Int) (w : World) (hj : (IntKind.u64.wrap a0).tmod 13 = 0) :
    Calls Try.prog 3 #[.int .i64 a0] w fun e w' => e = .returned (.bool true) ∧ Below w.heap.size w w' := by
  have hq := eqWay
  go_enter Try.func3, Try.ntmps3
  go_wp2_with fail
  refine (find_any _ _ _ (by omega) (by omega) (by omega) (by omega)).mono ?_
  rintro e w1 ⟨rfl, hb1⟩
  rw [show findF 4167 256 = ((2, 63, 63), 0) from by decide]
  simp only [findV]
  obtain ⟨hc1, hf1⟩ := bcell hb1
  have hs1 := hb1.size
  try simp at hs1
  go_wp2_with fail
  refine (find_any _ _ _ (by omega) (by omega) (by omega) (by omega)).mono ?_
  rintro e w2 ⟨rfl, hb2⟩
  rw [show findF 4168 256 = ((0, 0, 0), 27) from by decide]
  simp only [findV]
  obtain ⟨hc2, hf2⟩ := bcell hb2
  have hs2 := hb2.size
  try simp at hs2
  have hx1 : w1.heap.size < w2.heap.size := by omega
  go_wp2_with fail
  refine (find_any _ _ _ (by omega) (by omega) (by omega) (by omega)).mono ?_
  rintro e w3 ⟨rfl, hb3⟩
  rw [show findF 71 256 = ((1, 63, 0), 0) from by decide]
  simp only [findV]
  obtain ⟨hc3, hf3⟩ := bcell hb3
  have hs3 := hb3.size
  try simp at hs3
  have hx2 : w1.heap.size < w3.heap.size := by omega
  have hx3 : w2.heap.size < w3.heap.size := by omega
  go_wp2_with fail
  refine (found_any _).mono ?_
  rintro e w4 ⟨rfl, hb4⟩
  obtain ⟨hc4, hf4⟩ := bcell hb4
  have hs4 := hb4.size
  try simp at hs4
  have hx4 : w1.heap.size < w4.heap.size := by omega
  have hx5 : w2.heap.size < w4.heap.size := by omega
  have hx6 : w3.heap.size < w4.heap.size := by omega
  go_wp2_with fail
  go_ret
  exact ⟨rfl, by repeat (first | exact Below.refl _ _ | assumption | apply bl_alloc | apply bl_drew | apply bl_drewN | (refine bl_seq ?_ (by assumption)))⟩
set_option maxHeartbeats 1000000 in
theorem counts_walk1 (a0 : Int) (w : World) (hj : (IntKind.u64.wrap a0).tmod 13 = 1) :
    Calls Try.prog 3 #[.int .i64 a0] w fun e w' => e = .returned (.bool true) ∧ Below w.heap.size w w' := by
  have hq := eqWay
  go_enter Try.func3, Try.ntmps3
  go_wp2_with fail
  refine (find_any _ _ _ (by omega) (by omega) (by omega) (by omega)).mono ?_
  rintro e w1 ⟨rfl, hb1⟩
  rw [show findF 6487 320 = ((2, 79, 79), 0) from by decide]
  simp only [findV]
  obtain ⟨hc1, hf1⟩ := bcell hb1
  have hs1 := hb1.size
  try simp at hs1
  go_wp2_with fail
  refine (find_any _ _ _ (by omega) (by omega) (by omega) (by omega)).mono ?_
  rintro e w2 ⟨rfl, hb2⟩
  rw [show findF 6488 320 = ((0, 0, 0), 27) from by decide]
  simp only [findV]
  obtain ⟨hc2, hf2⟩ := bcell hb2
  have hs2 := hb2.size
  try simp at hs2
  have hx1 : w1.heap.size < w2.heap.size := by omega
  go_wp2_with fail
  refine (find_any _ _ _ (by omega) (by omega) (by omega) (by omega)).mono ?_
  rintro e w3 ⟨rfl, hb3⟩
  rw [show findF 87 320 = ((1, 79, 0), 0) from by decide]
  simp only [findV]
  obtain ⟨hc3, hf3⟩ := bcell hb3
  have hs3 := hb3.size
  try simp at hs3
  have hx2 : w1.heap.size < w3.heap.size := by omega
  have hx3 : w2.heap.size < w3.heap.size := by omega
  go_wp2_with fail
  refine (found_any _).mono ?_
  rintro e w4 ⟨rfl, hb4⟩
  obtain ⟨hc4, hf4⟩ := bcell hb4
  have hs4 := hb4.size
  try simp at hs4
  have hx4 : w1.heap.size < w4.heap.size := by omega
  have hx5 : w2.heap.size < w4.heap.size := by omega
  have hx6 : w3.heap.size < w4.heap.size := by omega
  go_wp2_with fail
  go_ret
  exact ⟨rfl, by repeat (first | exact Below.refl _ _ | assumption | apply bl_alloc | apply bl_drew | apply bl_drewN | (refine bl_seq ?_ (by assumption)))⟩
set_option maxHeartbeats 1000000 in
theorem counts_walk2 (a0 : Int) (w : World) (hj : (IntKind.u64.wrap a0).tmod 13 = 2) :
    Calls Try.prog 3 #[.int .i64 a0] w fun e w' => e = .returned (.bool true) ∧ Below w.heap.size w w' := by
  have hq := eqWay
  go_enter Try.func3, Try.ntmps3
  go_wp2_with fail
  refine (find_any _ _ _ (by omega) (by omega) (by omega) (by omega)).mono ?_
  rintro e w1 ⟨rfl, hb1⟩
  rw [show findF 9319 384 = ((2, 95, 95), 0) from by decide]
  simp only [findV]
  obtain ⟨hc1, hf1⟩ := bcell hb1
  have hs1 := hb1.size
  try simp at hs1
  go_wp2_with fail
  refine (find_any _ _ _ (by omega) (by omega) (by omega) (by omega)).mono ?_
  rintro e w2 ⟨rfl, hb2⟩
  rw [show findF 9320 384 = ((0, 0, 0), 27) from by decide]
  simp only [findV]
  obtain ⟨hc2, hf2⟩ := bcell hb2
  have hs2 := hb2.size
  try simp at hs2
  have hx1 : w1.heap.size < w2.heap.size := by omega
  go_wp2_with fail
  refine (find_any _ _ _ (by omega) (by omega) (by omega) (by omega)).mono ?_
  rintro e w3 ⟨rfl, hb3⟩
  rw [show findF 103 384 = ((1, 95, 0), 0) from by decide]
  simp only [findV]
  obtain ⟨hc3, hf3⟩ := bcell hb3
  have hs3 := hb3.size
  try simp at hs3
  have hx2 : w1.heap.size < w3.heap.size := by omega
  have hx3 : w2.heap.size < w3.heap.size := by omega
  go_wp2_with fail
  refine (found_any _).mono ?_
  rintro e w4 ⟨rfl, hb4⟩
  obtain ⟨hc4, hf4⟩ := bcell hb4
  have hs4 := hb4.size
  try simp at hs4
  have hx4 : w1.heap.size < w4.heap.size := by omega
  have hx5 : w2.heap.size < w4.heap.size := by omega
  have hx6 : w3.heap.size < w4.heap.size := by omega
  go_wp2_with fail
  go_ret
  exact ⟨rfl, by repeat (first | exact Below.refl _ _ | assumption | apply bl_alloc | apply bl_drew | apply bl_drewN | (refine bl_seq ?_ (by assumption)))⟩
set_option maxHeartbeats 1000000 in
theorem counts_walk3 (a0 : Int) (w : World) (hj : (IntKind.u64.wrap a0).tmod 13 = 3) :
    Calls Try.prog 3 #[.int .i64 a0] w fun e w' => e = .returned (.bool true) ∧ Below w.heap.size w w' := by
  have hq := eqWay
  go_enter Try.func3, Try.ntmps3
  go_wp2_with fail
  refine (find_any _ _ _ (by omega) (by omega) (by omega) (by omega)).mono ?_
  rintro e w1 ⟨rfl, hb1⟩
  rw [show findF 12663 448 = ((2, 111, 111), 0) from by decide]
  simp only [findV]
  obtain ⟨hc1, hf1⟩ := bcell hb1
  have hs1 := hb1.size
  try simp at hs1
  go_wp2_with fail
  refine (find_any _ _ _ (by omega) (by omega) (by omega) (by omega)).mono ?_
  rintro e w2 ⟨rfl, hb2⟩
  rw [show findF 12664 448 = ((0, 0, 0), 27) from by decide]
  simp only [findV]
  obtain ⟨hc2, hf2⟩ := bcell hb2
  have hs2 := hb2.size
  try simp at hs2
  have hx1 : w1.heap.size < w2.heap.size := by omega
  go_wp2_with fail
  refine (find_any _ _ _ (by omega) (by omega) (by omega) (by omega)).mono ?_
  rintro e w3 ⟨rfl, hb3⟩
  rw [show findF 119 448 = ((1, 111, 0), 0) from by decide]
  simp only [findV]
  obtain ⟨hc3, hf3⟩ := bcell hb3
  have hs3 := hb3.size
  try simp at hs3
  have hx2 : w1.heap.size < w3.heap.size := by omega
  have hx3 : w2.heap.size < w3.heap.size := by omega
  go_wp2_with fail
  refine (found_any _).mono ?_
  rintro e w4 ⟨rfl, hb4⟩
  obtain ⟨hc4, hf4⟩ := bcell hb4
  have hs4 := hb4.size
  try simp at hs4
  have hx4 : w1.heap.size < w4.heap.size := by omega
  have hx5 : w2.heap.size < w4.heap.size := by omega
  have hx6 : w3.heap.size < w4.heap.size := by omega
  go_wp2_with fail
  go_ret
  exact ⟨rfl, by repeat (first | exact Below.refl _ _ | assumption | apply bl_alloc | apply bl_drew | apply bl_drewN | (refine bl_seq ?_ (by assumption)))⟩
set_option maxHeartbeats 1000000 in
theorem counts_walk4 (a0 : Int) (w : World) (hj : (IntKind.u64.wrap a0).tmod 13 = 4) :
    Calls Try.prog 3 #[.int .i64 a0] w fun e w' => e = .returned (.bool true) ∧ Below w.heap.size w w' := by
  have hq := eqWay
  go_enter Try.func3, Try.ntmps3
  go_wp2_with fail
  refine (find_any _ _ _ (by omega) (by omega) (by omega) (by omega)).mono ?_
  rintro e w1 ⟨rfl, hb1⟩
  rw [show findF 16519 512 = ((2, 127, 127), 0) from by decide]
  simp only [findV]
  obtain ⟨hc1, hf1⟩ := bcell hb1
  have hs1 := hb1.size
  try simp at hs1
  go_wp2_with fail
  refine (find_any _ _ _ (by omega) (by omega) (by omega) (by omega)).mono ?_
  rintro e w2 ⟨rfl, hb2⟩
  rw [show findF 16520 512 = ((0, 0, 0), 27) from by decide]
  simp only [findV]
  obtain ⟨hc2, hf2⟩ := bcell hb2
  have hs2 := hb2.size
  try simp at hs2
  have hx1 : w1.heap.size < w2.heap.size := by omega
  go_wp2_with fail
  refine (find_any _ _ _ (by omega) (by omega) (by omega) (by omega)).mono ?_
  rintro e w3 ⟨rfl, hb3⟩
  rw [show findF 135 512 = ((1, 127, 0), 0) from by decide]
  simp only [findV]
  obtain ⟨hc3, hf3⟩ := bcell hb3
  have hs3 := hb3.size
  try simp at hs3
  have hx2 : w1.heap.size < w3.heap.size := by omega
  have hx3 : w2.heap.size < w3.heap.size := by omega
  go_wp2_with fail
  refine (found_any _).mono ?_
  rintro e w4 ⟨rfl, hb4⟩
  obtain ⟨hc4, hf4⟩ := bcell hb4
  have hs4 := hb4.size
  try simp at hs4
  have hx4 : w1.heap.size < w4.heap.size := by omega
  have hx5 : w2.heap.size < w4.heap.size := by omega
  have hx6 : w3.heap.size < w4.heap.size := by omega
  go_wp2_with fail
  go_ret
  exact ⟨rfl, by repeat (first | exact Below.refl _ _ | assumption | apply bl_alloc | apply bl_drew | apply bl_drewN | (refine bl_seq ?_ (by assumption)))⟩
set_option maxHeartbeats 1000000 in
theorem counts_walk5 (a0 : Int) (w : World) (hj : (IntKind.u64.wrap a0).tmod 13 = 5) :
    Calls Try.prog 3 #[.int .i64 a0] w fun e w' => e = .returned (.bool true) ∧ Below w.heap.size w w' := by
  have hq := eqWay
  go_enter Try.func3, Try.ntmps3
  go_wp2_with fail
  refine (find_any _ _ _ (by omega) (by omega) (by omega) (by omega)).mono ?_
  rintro e w1 ⟨rfl, hb1⟩
  rw [show findF 20887 576 = ((2, 143, 143), 0) from by decide]
  simp only [findV]
  obtain ⟨hc1, hf1⟩ := bcell hb1
  have hs1 := hb1.size
  try simp at hs1
  go_wp2_with fail
  refine (find_any _ _ _ (by omega) (by omega) (by omega) (by omega)).mono ?_
  rintro e w2 ⟨rfl, hb2⟩
  rw [show findF 20888 576 = ((0, 0, 0), 27) from by decide]
  simp only [findV]
  obtain ⟨hc2, hf2⟩ := bcell hb2
  have hs2 := hb2.size
  try simp at hs2
  have hx1 : w1.heap.size < w2.heap.size := by omega
  go_wp2_with fail
  refine (find_any _ _ _ (by omega) (by omega) (by omega) (by omega)).mono ?_
  rintro e w3 ⟨rfl, hb3⟩
  rw [show findF 151 576 = ((1, 143, 0), 0) from by decide]
  simp only [findV]
  obtain ⟨hc3, hf3⟩ := bcell hb3
  have hs3 := hb3.size
  try simp at hs3
  have hx2 : w1.heap.size < w3.heap.size := by omega
  have hx3 : w2.heap.size < w3.heap.size := by omega
  go_wp2_with fail
  refine (found_any _).mono ?_
  rintro e w4 ⟨rfl, hb4⟩
  obtain ⟨hc4, hf4⟩ := bcell hb4
  have hs4 := hb4.size
  try simp at hs4
  have hx4 : w1.heap.size < w4.heap.size := by omega
  have hx5 : w2.heap.size < w4.heap.size := by omega
  have hx6 : w3.heap.size < w4.heap.size := by omega
  go_wp2_with fail
  go_ret
  exact ⟨rfl, by repeat (first | exact Below.refl _ _ | assumption | apply bl_alloc | apply bl_drew | apply bl_drewN | (refine bl_seq ?_ (by assumption)))⟩
set_option maxHeartbeats 1000000 in
theorem counts_walk6 (a0 : Int) (w : World) (hj : (IntKind.u64.wrap a0).tmod 13 = 6) :
    Calls Try.prog 3 #[.int .i64 a0] w fun e w' => e = .returned (.bool true) ∧ Below w.heap.size w w' := by
  have hq := eqWay
  go_enter Try.func3, Try.ntmps3
  go_wp2_with fail
  refine (find_any _ _ _ (by omega) (by omega) (by omega) (by omega)).mono ?_
  rintro e w1 ⟨rfl, hb1⟩
  rw [show findF 25767 640 = ((2, 159, 159), 0) from by decide]
  simp only [findV]
  obtain ⟨hc1, hf1⟩ := bcell hb1
  have hs1 := hb1.size
  try simp at hs1
  go_wp2_with fail
  refine (find_any _ _ _ (by omega) (by omega) (by omega) (by omega)).mono ?_
  rintro e w2 ⟨rfl, hb2⟩
  rw [show findF 25768 640 = ((0, 0, 0), 27) from by decide]
  simp only [findV]
  obtain ⟨hc2, hf2⟩ := bcell hb2
  have hs2 := hb2.size
  try simp at hs2
  have hx1 : w1.heap.size < w2.heap.size := by omega
  go_wp2_with fail
  refine (find_any _ _ _ (by omega) (by omega) (by omega) (by omega)).mono ?_
  rintro e w3 ⟨rfl, hb3⟩
  rw [show findF 167 640 = ((1, 159, 0), 0) from by decide]
  simp only [findV]
  obtain ⟨hc3, hf3⟩ := bcell hb3
  have hs3 := hb3.size
  try simp at hs3
  have hx2 : w1.heap.size < w3.heap.size := by omega
  have hx3 : w2.heap.size < w3.heap.size := by omega
  go_wp2_with fail
  refine (found_any _).mono ?_
  rintro e w4 ⟨rfl, hb4⟩
  obtain ⟨hc4, hf4⟩ := bcell hb4
  have hs4 := hb4.size
  try simp at hs4
  have hx4 : w1.heap.size < w4.heap.size := by omega
  have hx5 : w2.heap.size < w4.heap.size := by omega
  have hx6 : w3.heap.size < w4.heap.size := by omega
  go_wp2_with fail
  go_ret
  exact ⟨rfl, by repeat (first | exact Below.refl _ _ | assumption | apply bl_alloc | apply bl_drew | apply bl_drewN | (refine bl_seq ?_ (by assumption)))⟩
set_option maxHeartbeats 1000000 in
theorem counts_walk7 (a0 : Int) (w : World) (hj : (IntKind.u64.wrap a0).tmod 13 = 7) :
    Calls Try.prog 3 #[.int .i64 a0] w fun e w' => e = .returned (.bool true) ∧ Below w.heap.size w w' := by
  have hq := eqWay
  go_enter Try.func3, Try.ntmps3
  go_wp2_with fail
  refine (find_any _ _ _ (by omega) (by omega) (by omega) (by omega)).mono ?_
  rintro e w1 ⟨rfl, hb1⟩
  rw [show findF 31159 704 = ((2, 175, 175), 0) from by decide]
  simp only [findV]
  obtain ⟨hc1, hf1⟩ := bcell hb1
  have hs1 := hb1.size
  try simp at hs1
  go_wp2_with fail
  refine (find_any _ _ _ (by omega) (by omega) (by omega) (by omega)).mono ?_
  rintro e w2 ⟨rfl, hb2⟩
  rw [show findF 31160 704 = ((0, 0, 0), 27) from by decide]
  simp only [findV]
  obtain ⟨hc2, hf2⟩ := bcell hb2
  have hs2 := hb2.size
  try simp at hs2
  have hx1 : w1.heap.size < w2.heap.size := by omega
  go_wp2_with fail
  refine (find_any _ _ _ (by omega) (by omega) (by omega) (by omega)).mono ?_
  rintro e w3 ⟨rfl, hb3⟩
  rw [show findF 183 704 = ((1, 175, 0), 0) from by decide]
  simp only [findV]
  obtain ⟨hc3, hf3⟩ := bcell hb3
  have hs3 := hb3.size
  try simp at hs3
  have hx2 : w1.heap.size < w3.heap.size := by omega
  have hx3 : w2.heap.size < w3.heap.size := by omega
  go_wp2_with fail
  refine (found_any _).mono ?_
  rintro e w4 ⟨rfl, hb4⟩
  obtain ⟨hc4, hf4⟩ := bcell hb4
  have hs4 := hb4.size
  try simp at hs4
  have hx4 : w1.heap.size < w4.heap.size := by omega
  have hx5 : w2.heap.size < w4.heap.size := by omega
  have hx6 : w3.heap.size < w4.heap.size := by omega
  go_wp2_with fail
  go_ret
  exact ⟨rfl, by repeat (first | exact Below.refl _ _ | assumption | apply bl_alloc | apply bl_drew | apply bl_drewN | (refine bl_seq ?_ (by assumption)))⟩
set_option maxHeartbeats 1000000 in
theorem counts_walk8 (a0 : Int) (w : World) (hj : (IntKind.u64.wrap a0).tmod 13 = 8) :
    Calls Try.prog 3 #[.int .i64 a0] w fun e w' => e = .returned (.bool true) ∧ Below w.heap.size w w' := by
  have hq := eqWay
  go_enter Try.func3, Try.ntmps3
  go_wp2_with fail
  refine (find_any _ _ _ (by omega) (by omega) (by omega) (by omega)).mono ?_
  rintro e w1 ⟨rfl, hb1⟩
  rw [show findF 37063 768 = ((2, 191, 191), 0) from by decide]
  simp only [findV]
  obtain ⟨hc1, hf1⟩ := bcell hb1
  have hs1 := hb1.size
  try simp at hs1
  go_wp2_with fail
  refine (find_any _ _ _ (by omega) (by omega) (by omega) (by omega)).mono ?_
  rintro e w2 ⟨rfl, hb2⟩
  rw [show findF 37064 768 = ((0, 0, 0), 27) from by decide]
  simp only [findV]
  obtain ⟨hc2, hf2⟩ := bcell hb2
  have hs2 := hb2.size
  try simp at hs2
  have hx1 : w1.heap.size < w2.heap.size := by omega
  go_wp2_with fail
  refine (find_any _ _ _ (by omega) (by omega) (by omega) (by omega)).mono ?_
  rintro e w3 ⟨rfl, hb3⟩
  rw [show findF 199 768 = ((1, 191, 0), 0) from by decide]
  simp only [findV]
  obtain ⟨hc3, hf3⟩ := bcell hb3
  have hs3 := hb3.size
  try simp at hs3
  have hx2 : w1.heap.size < w3.heap.size := by omega
  have hx3 : w2.heap.size < w3.heap.size := by omega
  go_wp2_with fail
  refine (found_any _).mono ?_
  rintro e w4 ⟨rfl, hb4⟩
  obtain ⟨hc4, hf4⟩ := bcell hb4
  have hs4 := hb4.size
  try simp at hs4
  have hx4 : w1.heap.size < w4.heap.size := by omega
  have hx5 : w2.heap.size < w4.heap.size := by omega
  have hx6 : w3.heap.size < w4.heap.size := by omega
  go_wp2_with fail
  go_ret
  exact ⟨rfl, by repeat (first | exact Below.refl _ _ | assumption | apply bl_alloc | apply bl_drew | apply bl_drewN | (refine bl_seq ?_ (by assumption)))⟩
set_option maxHeartbeats 1000000 in
theorem counts_walk9 (a0 : Int) (w : World) (hj : (IntKind.u64.wrap a0).tmod 13 = 9) :
    Calls Try.prog 3 #[.int .i64 a0] w fun e w' => e = .returned (.bool true) ∧ Below w.heap.size w w' := by
  have hq := eqWay
  go_enter Try.func3, Try.ntmps3
  go_wp2_with fail
  refine (find_any _ _ _ (by omega) (by omega) (by omega) (by omega)).mono ?_
  rintro e w1 ⟨rfl, hb1⟩
  rw [show findF 43479 832 = ((2, 207, 207), 0) from by decide]
  simp only [findV]
  obtain ⟨hc1, hf1⟩ := bcell hb1
  have hs1 := hb1.size
  try simp at hs1
  go_wp2_with fail
  refine (find_any _ _ _ (by omega) (by omega) (by omega) (by omega)).mono ?_
  rintro e w2 ⟨rfl, hb2⟩
  rw [show findF 43480 832 = ((0, 0, 0), 27) from by decide]
  simp only [findV]
  obtain ⟨hc2, hf2⟩ := bcell hb2
  have hs2 := hb2.size
  try simp at hs2
  have hx1 : w1.heap.size < w2.heap.size := by omega
  go_wp2_with fail
  refine (find_any _ _ _ (by omega) (by omega) (by omega) (by omega)).mono ?_
  rintro e w3 ⟨rfl, hb3⟩
  rw [show findF 215 832 = ((1, 207, 0), 0) from by decide]
  simp only [findV]
  obtain ⟨hc3, hf3⟩ := bcell hb3
  have hs3 := hb3.size
  try simp at hs3
  have hx2 : w1.heap.size < w3.heap.size := by omega
  have hx3 : w2.heap.size < w3.heap.size := by omega
  go_wp2_with fail
  refine (found_any _).mono ?_
  rintro e w4 ⟨rfl, hb4⟩
  obtain ⟨hc4, hf4⟩ := bcell hb4
  have hs4 := hb4.size
  try simp at hs4
  have hx4 : w1.heap.size < w4.heap.size := by omega
  have hx5 : w2.heap.size < w4.heap.size := by omega
  have hx6 : w3.heap.size < w4.heap.size := by omega
  go_wp2_with fail
  go_ret
  exact ⟨rfl, by repeat (first | exact Below.refl _ _ | assumption | apply bl_alloc | apply bl_drew | apply bl_drewN | (refine bl_seq ?_ (by assumption)))⟩
set_option maxHeartbeats 1000000 in
theorem counts_walk10 (a0 : Int) (w : World) (hj : (IntKind.u64.wrap a0).tmod 13 = 10) :
    Calls Try.prog 3 #[.int .i64 a0] w fun e w' => e = .returned (.bool true) ∧ Below w.heap.size w w' := by
  have hq := eqWay
  go_enter Try.func3, Try.ntmps3
  go_wp2_with fail
  refine (find_any _ _ _ (by omega) (by omega) (by omega) (by omega)).mono ?_
  rintro e w1 ⟨rfl, hb1⟩
  rw [show findF 50407 896 = ((2, 223, 223), 0) from by decide]
  simp only [findV]
  obtain ⟨hc1, hf1⟩ := bcell hb1
  have hs1 := hb1.size
  try simp at hs1
  go_wp2_with fail
  refine (find_any _ _ _ (by omega) (by omega) (by omega) (by omega)).mono ?_
  rintro e w2 ⟨rfl, hb2⟩
  rw [show findF 50408 896 = ((0, 0, 0), 27) from by decide]
  simp only [findV]
  obtain ⟨hc2, hf2⟩ := bcell hb2
  have hs2 := hb2.size
  try simp at hs2
  have hx1 : w1.heap.size < w2.heap.size := by omega
  go_wp2_with fail
  refine (find_any _ _ _ (by omega) (by omega) (by omega) (by omega)).mono ?_
  rintro e w3 ⟨rfl, hb3⟩
  rw [show findF 231 896 = ((1, 223, 0), 0) from by decide]
  simp only [findV]
  obtain ⟨hc3, hf3⟩ := bcell hb3
  have hs3 := hb3.size
  try simp at hs3
  have hx2 : w1.heap.size < w3.heap.size := by omega
  have hx3 : w2.heap.size < w3.heap.size := by omega
  go_wp2_with fail
  refine (found_any _).mono ?_
  rintro e w4 ⟨rfl, hb4⟩
  obtain ⟨hc4, hf4⟩ := bcell hb4
  have hs4 := hb4.size
  try simp at hs4
  have hx4 : w1.heap.size < w4.heap.size := by omega
  have hx5 : w2.heap.size < w4.heap.size := by omega
  have hx6 : w3.heap.size < w4.heap.size := by omega
  go_wp2_with fail
  go_ret
  exact ⟨rfl, by repeat (first | exact Below.refl _ _ | assumption | apply bl_alloc | apply bl_drew | apply bl_drewN | (refine bl_seq ?_ (by assumption)))⟩
set_option maxHeartbeats 1000000 in
theorem counts_walk11 (a0 : Int) (w : World) (hj : (IntKind.u64.wrap a0).tmod 13 = 11) :
    Calls Try.prog 3 #[.int .i64 a0] w fun e w' => e = .returned (.bool true) ∧ Below w.heap.size w w' := by
  have hq := eqWay
  go_enter Try.func3, Try.ntmps3
  go_wp2_with fail
  refine (find_any _ _ _ (by omega) (by omega) (by omega) (by omega)).mono ?_
  rintro e w1 ⟨rfl, hb1⟩
  rw [show findF 57847 960 = ((2, 239, 239), 0) from by decide]
  simp only [findV]
  obtain ⟨hc1, hf1⟩ := bcell hb1
  have hs1 := hb1.size
  try simp at hs1
  go_wp2_with fail
  refine (find_any _ _ _ (by omega) (by omega) (by omega) (by omega)).mono ?_
  rintro e w2 ⟨rfl, hb2⟩
  rw [show findF 57848 960 = ((0, 0, 0), 27) from by decide]
  simp only [findV]
  obtain ⟨hc2, hf2⟩ := bcell hb2
  have hs2 := hb2.size
  try simp at hs2
  have hx1 : w1.heap.size < w2.heap.size := by omega
  go_wp2_with fail
  refine (find_any _ _ _ (by omega) (by omega) (by omega) (by omega)).mono ?_
  rintro e w3 ⟨rfl, hb3⟩
  rw [show findF 247 960 = ((1, 239, 0), 0) from by decide]
  simp only [findV]
  obtain ⟨hc3, hf3⟩ := bcell hb3
  have hs3 := hb3.size
  try simp at hs3
  have hx2 : w1.heap.size < w3.heap.size := by omega
  have hx3 : w2.heap.size < w3.heap.size := by omega
  go_wp2_with fail
  refine (found_any _).mono ?_
  rintro e w4 ⟨rfl, hb4⟩
  obtain ⟨hc4, hf4⟩ := bcell hb4
  have hs4 := hb4.size
  try simp at hs4
  have hx4 : w1.heap.size < w4.heap.size := by omega
  have hx5 : w2.heap.size < w4.heap.size := by omega
  have hx6 : w3.heap.size < w4.heap.size := by omega
  go_wp2_with fail
  go_ret
  exact ⟨rfl, by repeat (first | exact Below.refl _ _ | assumption | apply bl_alloc | apply bl_drew | apply bl_drewN | (refine bl_seq ?_ (by assumption)))⟩
set_option maxHeartbeats 1000000 in
theorem counts_walk12 (a0 : Int) (w : World) (hj : (IntKind.u64.wrap a0).tmod 13 = 12) :
    Calls Try.prog 3 #[.int .i64 a0] w fun e w' => e = .returned (.bool true) ∧ Below w.heap.size w w' := by
  have hq := eqWay
  go_enter Try.func3, Try.ntmps3
  go_wp2_with fail
  refine (find_any _ _ _ (by omega) (by omega) (by omega) (by omega)).mono ?_
  rintro e w1 ⟨rfl, hb1⟩
  rw [show findF 65799 1024 = ((2, 255, 255), 0) from by decide]
  simp only [findV]
  obtain ⟨hc1, hf1⟩ := bcell hb1
  have hs1 := hb1.size
  try simp at hs1
  go_wp2_with fail
  refine (find_any _ _ _ (by omega) (by omega) (by omega) (by omega)).mono ?_
  rintro e w2 ⟨rfl, hb2⟩
  rw [show findF 65800 1024 = ((0, 0, 0), 27) from by decide]
  simp only [findV]
  obtain ⟨hc2, hf2⟩ := bcell hb2
  have hs2 := hb2.size
  try simp at hs2
  have hx1 : w1.heap.size < w2.heap.size := by omega
  go_wp2_with fail
  refine (find_any _ _ _ (by omega) (by omega) (by omega) (by omega)).mono ?_
  rintro e w3 ⟨rfl, hb3⟩
  rw [show findF 263 1024 = ((1, 255, 0), 0) from by decide]
  simp only [findV]
  obtain ⟨hc3, hf3⟩ := bcell hb3
  have hs3 := hb3.size
  try simp at hs3
  have hx2 : w1.heap.size < w3.heap.size := by omega
  have hx3 : w2.heap.size < w3.heap.size := by omega
  go_wp2_with fail
  refine (found_any _).mono ?_
  rintro e w4 ⟨rfl, hb4⟩
  obtain ⟨hc4, hf4⟩ := bcell hb4
  have hs4 := hb4.size
  try simp at hs4
  have hx4 : w1.heap.size < w4.heap.size := by omega
  have hx5 : w2.heap.size < w4.heap.size := by omega
  have hx6 : w3.heap.size < w4.heap.size := by omega
  go_wp2_with fail
  go_ret
  exact ⟨rfl, by repeat (first | exact Below.refl _ _ | assumption | apply bl_alloc | apply bl_drew | apply bl_drewN | (refine bl_seq ?_ (by assumption)))⟩
theorem counts_walk (a0 : Int) (w : World) :
    Calls Try.prog 3 #[.int .i64 a0] w fun e w' => e = .returned (.bool true) ∧ Below w.heap.size w w' := by
  obtain ⟨j, hj⟩ : ∃ j : Int, (IntKind.u64.wrap a0).tmod 13 = j := ⟨_, rfl⟩
  have hb := mod13 a0
  rw [hj] at hb
  obtain ⟨b0, b1⟩ := hb
  have hc : j = 0 ∨ j = 1 ∨ j = 2 ∨ j = 3 ∨ j = 4 ∨ j = 5 ∨ j = 6 ∨ j = 7 ∨ j = 8 ∨ j = 9 ∨ j = 10 ∨ j = 11 ∨ j = 12 := by omega
  rcases hc with rfl | rfl | rfl | rfl | rfl | rfl | rfl | rfl | rfl | rfl | rfl | rfl | rfl
  · exact counts_walk0 a0 w hj
  · exact counts_walk1 a0 w hj
  · exact counts_walk2 a0 w hj
  · exact counts_walk3 a0 w hj
  · exact counts_walk4 a0 w hj
  · exact counts_walk5 a0 w hj
  · exact counts_walk6 a0 w hj
  · exact counts_walk7 a0 w hj
  · exact counts_walk8 a0 w hj
  · exact counts_walk9 a0 w hj
  · exact counts_walk10 a0 w hj
  · exact counts_walk11 a0 w hj
  · exact counts_walk12 a0 w hj
end Go.Proofs.Ytdcimjkgbnflbaa
