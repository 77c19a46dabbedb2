import Derived.Test.YtaomgddfkpcdhaaDoorRef
/-! The document's small functions (gabionref01), further: With, Pad, Text, Num. -/
namespace Go.Proofs.YtaomgddfkpcdhaaDoor
open Go.RowKit Go.Proofs.YtaomgddfkpcdhaaDoorW.PrintWords
/-- The number of some bytes, the lowest first. -/
def num : List Int → Int
  | [] => 0
  | x :: xs => x + 256 * num xs
theorem num_bound (xs : List Int) (h : Byt xs) : 0 ≤ num xs ∧ num xs < 256 ^ xs.length := by
  induction xs with
  | nil => simp [num]
  | cons x xs ih =>
    have h1 := h x (by simp)
    have h2 := ih fun y hy => h y (by simp [hy])
    simp only [num, List.length_cons, Int.pow_succ]
    omega
theorem num_snoc (xs : List Int) (x : Int) : num (xs ++ [x]) = num xs + x * 256 ^ xs.length := by
  induction xs with
  | nil => simp [num]
  | cons y xs ih => simp only [List.cons_append, num, ih, List.length_cons, Int.pow_succ, Int.mul_add]; rw [Int.mul_left_comm, Int.mul_comm 256 (256 ^ xs.length)]; omega
theorem le_num (xs : List Int) (h : Byt xs) : le (num xs) xs.length = xs := by
  induction xs with
  | nil => rfl
  | cons x xs ih =>
    have h1 := h x (by simp)
    have h2 := ih fun y hy => h y (by simp [hy])
    simp only [num, List.length_cons, le]
    rw [show (x + 256 * num xs) % 256 = x by omega, show (x + 256 * num xs) / 256 = num xs by omega, h2]
theorem num_le (x : Int) (n : Nat) (h0 : 0 ≤ x) (h1 : x < 256 ^ n) : num (le x n) = x := by
  induction n generalizing x with
  | zero => simp at h1; simp [le, num]; omega
  | succ n ih =>
    rw [Int.pow_succ] at h1
    simp only [le, num]
    rw [ih (x / 256) (by omega) (by omega)]
    omega
theorem pow256 {q : Nat} (k : Nat) (h : k ≤ q) (hq : q ≤ 4) : (256 : Int) ^ k ≤ 256 ^ q := by
  have h1 : q = 0 ∨ q = 1 ∨ q = 2 ∨ q = 3 ∨ q = 4 := by omega
  have h2 : k = 0 ∨ k = 1 ∨ k = 2 ∨ k = 3 ∨ k = 4 := by omega
  rcases h1 with rfl | rfl | rfl | rfl | rfl <;> rcases h2 with rfl | rfl | rfl | rfl | rfl <;> first | omega | decide
set_option maxHeartbeats 2000000 in
theorem rNum_any (xs : List Int) (A : Option Addr) (c : Nat) (a : Int) (n : Nat) (w : World) (hr : ReadsInt w .u8 A xs.length xs) (hb : Byt xs) (ha : 0 ≤ a) (hn : n ≤ 4) (hb2 : a + n ≤ xs.length) :
    Calls Tryd.prog 14 #[.slice A xs.length c, .int .i64 a, .int .i64 (n : Int)] w fun e w' => e = .returned (.int .u64 (num ((xs.drop a.toNat).take n))) ∧ Drawn0 w w' := by
  obtain ⟨b, rfl⟩ := Int.eq_ofNat_of_zero_le ha
  rw [Int.toNat_natCast]
  have hm := hr.2.1
  have HR := Lib.hid hr
  have HB := Lib.hid hb
  clear hr hb
  go_enter Tryd.func14, Tryd.ntmps14
  go_wp2
  go_loopw [7, 8, 9] (fun v q i wr => ∃ (k : Nat) (y z : Int), k ≤ n ∧ i = .int .i64 (k : Int) ∧ v = .int .u64 y ∧ q = .int .u64 z ∧ 0 ≤ y ∧ 0 ≤ z ∧ Hid (y = num ((xs.drop b).take k)) ∧ Hid (z = 256 ^ k) ∧ Hid (Drawn0 w wr)) (fun _ _ i _ => n - (intOf i).toNat)
  case atStart => exact ⟨0, 0, 1, Nat.zero_le _, rfl, rfl, rfl, by omega, by omega, rfl, rfl, Lib.hid (Drawn0.refl _)⟩
  case round =>
    obtain ⟨k, y, z, hk, rfl, rfl, rfl, hy0, hz0, HY, HZ, HD⟩ := hrel
    by_cases hlt : k < n
    · have hr1 := HR.out.below HD.out.below
      have hw : wrap64 ((b : Int) + (k : Int)) = (b : Int) + (k : Int) := by unfold wrap64; omega
      obtain ⟨ad, he, hc⟩ := hr1.at_ ((b : Int) + (k : Int)) (by omega) (by omega)
      subst he
      have hbk : ((b : Int) + (k : Int)).toNat = b + k := by omega
      have hc2 : rd xs ((b : Int) + (k : Int)) = xs.getD (b + k) 0 := by rw [rd, hbk]
      rw [hc2, hbk] at hc
      have hx := HB.out (xs.getD (b + k) 0) (by rw [List.getD_eq_getElem?_getD, List.getElem?_eq_getElem (show b + k < xs.length by omega)]; simp)
      obtain ⟨x0, hx0⟩ : ∃ x0, xs.getD (b + k) 0 = x0 := ⟨_, rfl⟩
      rw [hx0] at hc hx
      obtain ⟨hxa, hxb⟩ := hx
      have hsn : num ((xs.drop b).take (k + 1)) = y + x0 * z := by
        have hlen : k < (xs.drop b).length := by rw [List.length_drop]; omega
        have e_ : (xs.drop b)[k] = x0 := by
          rw [List.getD_eq_getElem?_getD, List.getElem?_eq_getElem (show b + k < xs.length by omega)] at hx0
          simpa using hx0
        rw [List.take_succ_eq_append_getElem hlen, num_snoc, e_, ← HY.out, List.length_take, List.length_drop, Nat.min_eq_left (by omega), ← HZ.out]
      have hbd : 0 ≤ num ((xs.drop b).take (k + 1)) ∧ num ((xs.drop b).take (k + 1)) < 256 ^ 4 := by
        have h_ := num_bound ((xs.drop b).take (k + 1)) (fun u hu => HB.out u (List.drop_subset _ _ (List.take_subset _ _ hu)))
        exact ⟨h_.1, Int.lt_of_lt_of_le h_.2 (pow256 (q := 4) _ (by rw [List.length_take]; omega) (by omega))⟩
      rw [hsn] at hbd
      have hz1 : z ≤ 256 ^ 3 := by rw [HZ.out]; exact pow256 _ (by omega) (by omega)
      have hxz : 0 ≤ x0 * z := Int.mul_nonneg hxa hz0
      obtain ⟨hd1, hd2⟩ := hbd
      simp only [show (256 : Int) ^ 4 = 4294967296 from rfl] at hd2
      simp only [show (256 : Int) ^ 3 = 16777216 from rfl] at hz1
      have m1 : IntKind.u64.wrap (x0 * z) = x0 * z := by rw [IntKind.wrap_u64]; omega
      have HS := Lib.hid hsn
      have HX := Lib.hid hx0
      clear hr1 hsn hx0 hc2
      go_wp2
      go_roundw
      case rel =>
        refine ⟨k + 1, y + x0 * z, z * 256, by omega, by go_num, by first | rfl | (simp [go_sem]; done), by first | rfl | (simp [go_sem]; done), by omega, by omega, Lib.hid HS.out.symm, Lib.hid ?_, ?_⟩
        · rw [Int.pow_succ, HZ.out]
        · first | exact HD | exact Lib.hid (HD.out.step _)
      case measure => simp [intOf]; omega
    · have hfin : y = num ((xs.drop b).take n) := by have h_ := HY.out; rwa [show k = n by omega] at h_
      have HF := Lib.hid hfin
      clear hfin
      go_wp2
      go_ret
      rw [HF.out]
      exact ⟨rfl, by first | exact HD.out | exact HD.out.step _⟩
end Go.Proofs.YtaomgddfkpcdhaaDoor
