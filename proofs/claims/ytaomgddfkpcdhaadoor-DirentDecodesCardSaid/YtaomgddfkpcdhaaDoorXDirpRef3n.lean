import Derived.Test.YtaomgddfkpcdhaaDoorXDir
import Derived.Test.YtaomgddfkpcdhaaDoorOrd
import Derived.Lib.DecodeN
/-! What the document's functions on letters answer. -/
set_option linter.unusedVariables false
set_option linter.unusedSimpArgs false
namespace Go.Proofs.YtaomgddfkpcdhaaDoor.XDir
open Go.RowKit Go.Proofs.YtaomgddfkpcdhaaDoorW.PrintWords
theorem bt_get (s : ByteArray) (j : Nat) (h : j < s.size) : bt s (j : Int) = ((s.get! j).toNat : Int) := by
  unfold bt
  rw [dif_pos (by simpa using h)]
  have e : s.get! j = s[j] := by
    show s.get! j = _
    simp [ByteArray.get!, getElem!_pos, h]
    rfl
  rw [e]
  simp
theorem w64_nat (n : Nat) (h : n < 9223372036854775808) : wrap64 (n : Int) = (n : Int) := by unfold wrap64; omega
theorem w64_add (a b : Nat) (h : a + b < 9223372036854775808) : wrap64 ((a : Int) + (b : Int)) = ((a + b : Nat) : Int) := by unfold wrap64; omega
theorem w64_succ (a : Nat) (h : a + 1 < 9223372036854775808) : wrap64 ((a : Int) + 1) = ((a + 1 : Nat) : Int) := by unfold wrap64; omega
theorem w64_mul (a : Nat) (h : a * 64 < 9223372036854775808) : wrap64 ((a : Int) * 64) = ((a * 64 : Nat) : Int) := by unfold wrap64; omega
theorem w64_sub (a b : Nat) (c : Int) (hc : (b : Int) = c) (h : b ≤ a) (ha : a < 9223372036854775808) : wrap64 ((a : Int) - c) = ((a - b : Nat) : Int) := by unfold wrap64; omega
theorem st_l0 (k : Nat) (s : ByteArray) (p n low v i d : Nat) (h1 : i < n) (h2 : p + i < s.size) (hs : s.size ≤ 1099511627776) (hv : v ≤ 1099511627776) (hd : (s.get! (p + i)).toNat = d) :
    gabionref03_Step.l0 (k + 1) s (p : Int) (n : Int) (low : Int) (v : Int) (i : Int) = if d < 128 then some (65533, 1, false) else if 191 < d then some (65533, 1, false) else gabionref03_Step.l0 k s (p : Int) (n : Int) (low : Int) ((v * 64 + d - 128 : Nat) : Int) ((i + 1 : Nat) : Int) := by
  have hd2 : d < 256 := by rw [← hd]; exact UInt8.toNat_lt _
  have e1 : (i : Int) < (n : Int) := by omega
  have e2 : (0 : Int) ≤ ((p + i : Nat) : Int) := by omega
  have e3 : ((p + i : Nat) : Int) < (s.size : Int) := by omega
  have hb : bt s ((p + i : Nat) : Int) = (d : Int) := by rw [bt_get s _ h2, hd]
  simp only [gabionref03_Step.l0]
  rw [if_pos e1, w64_add p i (by omega), if_pos e2, if_pos e3, hb, w64_nat d (by omega), w64_mul v (by omega), w64_add (v * 64) d (by omega), w64_succ i (by omega)]
  by_cases c1 : d < 128
  · have e4 : (d : Int) < 128 := by omega
    rw [if_pos e4, if_pos c1]
  · have e4 : ¬ (d : Int) < 128 := by omega
    rw [if_neg e4, if_neg c1]
    by_cases c2 : 191 < d
    · have e5 : (d : Int) > 191 := by omega
      rw [if_pos e5, if_pos c2]
    · have e5 : ¬ (d : Int) > 191 := by omega
      rw [if_neg e5, if_neg c2, w64_sub (v * 64 + d) 128 128 rfl (by omega) (by omega)]
theorem st_end (k : Nat) (s : ByteArray) (p : Int) (n low v : Nat) :
    gabionref03_Step.l0 (k + 1) s p (n : Int) (low : Int) (v : Int) (n : Int) = if v < low then some (65533, 1, false) else if 1114111 < v then some (65533, 1, false) else if 55296 ≤ v then (if v ≤ 57343 then some (65533, 1, false) else some ((v : Int), (n : Int), true)) else some ((v : Int), (n : Int), true) := by
  simp only [gabionref03_Step.l0]
  rw [if_neg (by omega)]
  by_cases c1 : v < low
  · rw [if_pos (by omega), if_pos c1]
  · rw [if_neg (by omega), if_neg c1]
    by_cases c2 : 1114111 < v
    · rw [if_pos (by omega), if_pos c2]
    · rw [if_neg (by omega), if_neg c2]
      by_cases c3 : 55296 ≤ v
      · rw [if_pos (by omega), if_pos c3]
        by_cases c4 : v ≤ 57343
        · rw [if_pos (by omega), if_pos c4]
        · rw [if_neg (by omega), if_neg c4]
      · rw [if_neg (by omega), if_neg c3]
theorem st_j2 (k : Nat) (s : ByteArray) (p n low v : Nat) (hs : s.size ≤ 1099511627776) (hp : p < s.size) (hn : n ≤ 4) :
    gabionref03_Step.j2 (k + 1) s (p : Int) (n : Int) (low : Int) (v : Int) = if s.size < p + n then some (65533, 1, false) else gabionref03_Step.l0 k s (p : Int) (n : Int) (low : Int) (v : Int) ((1 : Nat) : Int) := by
  simp only [gabionref03_Step.j2]
  rw [w64_add p n (by omega)]
  by_cases c : s.size < p + n
  · rw [if_pos (by omega), if_pos c]
  · rw [if_neg (by omega), if_neg c]; rfl
set_option maxHeartbeats 4000000 in
/-- A letter's step is the model's decoder. -/
theorem step_dec (k : Nat) (s : ByteArray) (i : Nat) (hi : i < s.size) (hs : s.size ≤ 1099511627776) :
    gabionref03_Step.f (k + 9) s (i : Int) = some (((Utf8.decode s i).1 : Int), ((Utf8.decode s i).2 : Int), !decide ((Utf8.decode s i).1 = 65533 ∧ (Utf8.decode s i).2 = 1)) := by
  rw [Lib.decode_at]
  obtain ⟨n, hn⟩ : ∃ n, s.size - i = n := ⟨_, rfl⟩
  obtain ⟨b0, hb0⟩ : ∃ b, (s.get! i).toNat = b := ⟨_, rfl⟩
  obtain ⟨b1, hb1⟩ : ∃ b, (s.get! (i + 1)).toNat = b := ⟨_, rfl⟩
  obtain ⟨b2, hb2⟩ : ∃ b, (s.get! (i + 2)).toNat = b := ⟨_, rfl⟩
  obtain ⟨b3, hb3⟩ : ∃ b, (s.get! (i + 3)).toNat = b := ⟨_, rfl⟩
  have l0 : b0 < 256 := by rw [← hb0]; exact UInt8.toNat_lt _
  have l1 : b1 < 256 := by rw [← hb1]; exact UInt8.toNat_lt _
  have l2 : b2 < 256 := by rw [← hb2]; exact UInt8.toNat_lt _
  have l3 : b3 < 256 := by rw [← hb3]; exact UInt8.toNat_lt _
  have hb : bt s (i : Int) = (b0 : Int) := by rw [bt_get s i hi, hb0]
  rw [hn, hb0, hb1, hb2, hb3]
  simp only [gabionref03_Step.f]
  rw [if_pos (by omega), if_pos (by omega), hb, w64_nat b0 (by omega)]
  by_cases c0 : b0 < 128
  · rw [if_pos (by omega)]
    have hd : Lib.decodeN n b0 b1 b2 b3 = (b0, 1) := by unfold Lib.decodeN; rw [if_pos c0]
    rw [hd]
    simp
    omega
  rw [if_neg (by omega)]
  by_cases c1 : b0 < 194
  · rw [if_neg (by omega)]
    simp only [gabionref03_Step.j0, Bool.false_eq_true, if_false]
    rw [if_neg (by omega)]
    simp only [gabionref03_Step.j1, Bool.false_eq_true, if_false]
    rw [if_neg (by omega)]
    have hd : Lib.decodeN n b0 b1 b2 b3 = (65533, 1) := by
      unfold Lib.decodeN
      repeat' split
      all_goals first | rfl | (exfalso; omega)
    rw [hd]; rfl
  rw [if_pos (by omega)]
  by_cases c2 : b0 < 224
  · have e1 : decide ((b0 : Int) < 224) = true := by simp; omega
    simp only [gabionref03_Step.j0, e1, if_true, w64_sub b0 192 192 rfl (show 192 ≤ b0 by omega) (by omega)]
    have h_ := st_j2 (k + 7) s i 2 128 (b0 - 192) hs hi (by omega)
    rw [show ((2 : Nat) : Int) = 2 from rfl, show ((128 : Nat) : Int) = 128 from rfl] at h_
    rw [h_]
    by_cases c : s.size < i + 2
    · rw [if_pos c]
      have hd : Lib.decodeN n b0 b1 b2 b3 = (65533, 1) := by
        unfold Lib.decodeN
        repeat' split
        all_goals first | rfl | (exfalso; omega)
      rw [hd]; rfl
    rw [if_neg c]
    have h_ := st_l0 (k + 6) s i 2 128 (b0 - 192) 1 b1 (by omega) (by omega) hs (by omega) hb1
    rw [show ((2 : Nat) : Int) = 2 from rfl, show ((128 : Nat) : Int) = 128 from rfl] at h_
    rw [h_]
    by_cases d1 : b1 < 128
    · rw [if_pos d1]
      have hd : Lib.decodeN n b0 b1 b2 b3 = (65533, 1) := by
        unfold Lib.decodeN
        repeat' split
        all_goals first | rfl | (exfalso; omega)
      rw [hd]; rfl
    rw [if_neg d1]
    by_cases d2 : 191 < b1
    · rw [if_pos d2]
      have hd : Lib.decodeN n b0 b1 b2 b3 = (65533, 1) := by
        unfold Lib.decodeN
        repeat' split
        all_goals first | rfl | (exfalso; omega)
      rw [hd]; rfl
    rw [if_neg d2]
    have h_ := st_end (k + 5) s (i : Int) 2 128 ((b0 - 192) * 64 + b1 - 128)
    rw [show ((2 : Nat) : Int) = 2 from rfl, show ((128 : Nat) : Int) = 128 from rfl] at h_
    rw [h_]
    rw [if_neg (by omega), if_neg (by omega), if_neg (by omega)]
    have hd : Lib.decodeN n b0 b1 b2 b3 = ((b0 - 192) * 64 + b1 - 128, 2) := by
      unfold Lib.decodeN
      repeat' split
      all_goals first | (exfalso; omega) | (simp only [Prod.mk.injEq, and_true]; omega)
    rw [hd]
    simp <;> omega
  have e1 : decide ((b0 : Int) < 224) = false := by simp; omega
  simp only [gabionref03_Step.j0, e1, Bool.false_eq_true, if_false]
  rw [if_pos (by omega)]
  by_cases c3 : b0 < 240
  · have e2 : decide ((b0 : Int) < 240) = true := by simp; omega
    simp only [gabionref03_Step.j1, e2, if_true, w64_sub b0 224 224 rfl (show 224 ≤ b0 by omega) (by omega)]
    have h_ := st_j2 (k + 6) s i 3 2048 (b0 - 224) hs hi (by omega)
    rw [show ((3 : Nat) : Int) = 3 from rfl, show ((2048 : Nat) : Int) = 2048 from rfl] at h_
    rw [h_]
    by_cases c : s.size < i + 3
    · rw [if_pos c]
      have hd : Lib.decodeN n b0 b1 b2 b3 = (65533, 1) := by
        unfold Lib.decodeN
        repeat' split
        all_goals first | rfl | (exfalso; omega)
      rw [hd]; rfl
    rw [if_neg c]
    have h_ := st_l0 (k + 5) s i 3 2048 (b0 - 224) 1 b1 (by omega) (by omega) hs (by omega) hb1
    rw [show ((3 : Nat) : Int) = 3 from rfl, show ((2048 : Nat) : Int) = 2048 from rfl] at h_
    rw [h_]
    by_cases d1 : b1 < 128
    · rw [if_pos d1]
      have hd : Lib.decodeN n b0 b1 b2 b3 = (65533, 1) := by
        unfold Lib.decodeN
        repeat' split
        all_goals first | rfl | (exfalso; omega)
      rw [hd]; rfl
    rw [if_neg d1]
    by_cases d2 : 191 < b1
    · rw [if_pos d2]
      have hd : Lib.decodeN n b0 b1 b2 b3 = (65533, 1) := by
        unfold Lib.decodeN
        repeat' split
        all_goals first | rfl | (exfalso; omega)
      rw [hd]; rfl
    rw [if_neg d2]
    have h_ := st_l0 (k + 4) s i 3 2048 ((b0 - 224) * 64 + b1 - 128) 2 b2 (by omega) (by omega) hs (by omega) hb2
    rw [show ((3 : Nat) : Int) = 3 from rfl, show ((2048 : Nat) : Int) = 2048 from rfl] at h_
    rw [show ((1 + 1 : Nat) : Int) = ((2 : Nat) : Int) from rfl, h_]
    by_cases d3 : b2 < 128
    · rw [if_pos d3]
      have hd : Lib.decodeN n b0 b1 b2 b3 = (65533, 1) := by
        unfold Lib.decodeN
        repeat' split
        all_goals first | rfl | (exfalso; omega)
      rw [hd]; rfl
    rw [if_neg d3]
    by_cases d4 : 191 < b2
    · rw [if_pos d4]
      have hd : Lib.decodeN n b0 b1 b2 b3 = (65533, 1) := by
        unfold Lib.decodeN
        repeat' split
        all_goals first | rfl | (exfalso; omega)
      rw [hd]; rfl
    rw [if_neg d4]
    have h_ := st_end (k + 3) s (i : Int) 3 2048 (((b0 - 224) * 64 + b1 - 128) * 64 + b2 - 128)
    rw [show ((3 : Nat) : Int) = 3 from rfl, show ((2048 : Nat) : Int) = 2048 from rfl] at h_
    rw [h_]
    by_cases f1 : ((b0 - 224) * 64 + b1 - 128) * 64 + b2 - 128 < 2048
    · rw [if_pos f1]
      have hd : Lib.decodeN n b0 b1 b2 b3 = (65533, 1) := by
        unfold Lib.decodeN
        repeat' split
        all_goals first | rfl | (exfalso; omega)
      rw [hd]; rfl
    rw [if_neg f1, if_neg (by omega)]
    by_cases f2 : 55296 ≤ ((b0 - 224) * 64 + b1 - 128) * 64 + b2 - 128
    · rw [if_pos f2]
      by_cases f3 : ((b0 - 224) * 64 + b1 - 128) * 64 + b2 - 128 ≤ 57343
      · rw [if_pos f3]
        have hd : Lib.decodeN n b0 b1 b2 b3 = (65533, 1) := by
          unfold Lib.decodeN
          repeat' split
          all_goals first | rfl | (exfalso; omega)
        rw [hd]; rfl
      rw [if_neg f3]
      have hd : Lib.decodeN n b0 b1 b2 b3 = (((b0 - 224) * 64 + b1 - 128) * 64 + b2 - 128, 3) := by
        unfold Lib.decodeN
        repeat' split
        all_goals first | (exfalso; omega) | (simp only [Prod.mk.injEq, and_true]; omega)
      rw [hd]
      simp <;> omega
    rw [if_neg f2]
    have hd : Lib.decodeN n b0 b1 b2 b3 = (((b0 - 224) * 64 + b1 - 128) * 64 + b2 - 128, 3) := by
      unfold Lib.decodeN
      repeat' split
      all_goals first | (exfalso; omega) | (simp only [Prod.mk.injEq, and_true]; omega)
    rw [hd]
    simp <;> omega
  have e2 : decide ((b0 : Int) < 240) = false := by simp; omega
  simp only [gabionref03_Step.j1, e2, Bool.false_eq_true, if_false]
  rw [if_pos (by omega)]
  by_cases c4 : b0 < 245
  · rw [if_pos (by omega)]
    rw [w64_sub b0 240 240 rfl (by omega) (by omega)]
    have h_ := st_j2 (k + 6) s i 4 65536 (b0 - 240) hs hi (by omega)
    rw [show ((4 : Nat) : Int) = 4 from rfl, show ((65536 : Nat) : Int) = 65536 from rfl] at h_
    rw [h_]
    by_cases c : s.size < i + 4
    · rw [if_pos c]
      have hd : Lib.decodeN n b0 b1 b2 b3 = (65533, 1) := by
        unfold Lib.decodeN
        repeat' split
        all_goals first | rfl | (exfalso; omega)
      rw [hd]; rfl
    rw [if_neg c]
    have h_ := st_l0 (k + 5) s i 4 65536 (b0 - 240) 1 b1 (by omega) (by omega) hs (by omega) hb1
    rw [show ((4 : Nat) : Int) = 4 from rfl, show ((65536 : Nat) : Int) = 65536 from rfl] at h_
    rw [h_]
    by_cases d1 : b1 < 128
    · rw [if_pos d1]
      have hd : Lib.decodeN n b0 b1 b2 b3 = (65533, 1) := by
        unfold Lib.decodeN
        repeat' split
        all_goals first | rfl | (exfalso; omega)
      rw [hd]; rfl
    rw [if_neg d1]
    by_cases d2 : 191 < b1
    · rw [if_pos d2]
      have hd : Lib.decodeN n b0 b1 b2 b3 = (65533, 1) := by
        unfold Lib.decodeN
        repeat' split
        all_goals first | rfl | (exfalso; omega)
      rw [hd]; rfl
    rw [if_neg d2]
    have h_ := st_l0 (k + 4) s i 4 65536 ((b0 - 240) * 64 + b1 - 128) 2 b2 (by omega) (by omega) hs (by omega) hb2
    rw [show ((4 : Nat) : Int) = 4 from rfl, show ((65536 : Nat) : Int) = 65536 from rfl] at h_
    rw [show ((1 + 1 : Nat) : Int) = ((2 : Nat) : Int) from rfl, h_]
    by_cases d3 : b2 < 128
    · rw [if_pos d3]
      have hd : Lib.decodeN n b0 b1 b2 b3 = (65533, 1) := by
        unfold Lib.decodeN
        repeat' split
        all_goals first | rfl | (exfalso; omega)
      rw [hd]; rfl
    rw [if_neg d3]
    by_cases d4 : 191 < b2
    · rw [if_pos d4]
      have hd : Lib.decodeN n b0 b1 b2 b3 = (65533, 1) := by
        unfold Lib.decodeN
        repeat' split
        all_goals first | rfl | (exfalso; omega)
      rw [hd]; rfl
    rw [if_neg d4]
    have h_ := st_l0 (k + 3) s i 4 65536 (((b0 - 240) * 64 + b1 - 128) * 64 + b2 - 128) 3 b3 (by omega) (by omega) hs (by omega) hb3
    rw [show ((4 : Nat) : Int) = 4 from rfl, show ((65536 : Nat) : Int) = 65536 from rfl] at h_
    rw [show ((2 + 1 : Nat) : Int) = ((3 : Nat) : Int) from rfl, h_]
    by_cases d5 : b3 < 128
    · rw [if_pos d5]
      have hd : Lib.decodeN n b0 b1 b2 b3 = (65533, 1) := by
        unfold Lib.decodeN
        repeat' split
        all_goals first | rfl | (exfalso; omega)
      rw [hd]; rfl
    rw [if_neg d5]
    by_cases d6 : 191 < b3
    · rw [if_pos d6]
      have hd : Lib.decodeN n b0 b1 b2 b3 = (65533, 1) := by
        unfold Lib.decodeN
        repeat' split
        all_goals first | rfl | (exfalso; omega)
      rw [hd]; rfl
    rw [if_neg d6]
    have h_ := st_end (k + 2) s (i : Int) 4 65536 ((((b0 - 240) * 64 + b1 - 128) * 64 + b2 - 128) * 64 + b3 - 128)
    rw [show ((4 : Nat) : Int) = 4 from rfl, show ((65536 : Nat) : Int) = 65536 from rfl] at h_
    rw [h_]
    by_cases f1 : (((b0 - 240) * 64 + b1 - 128) * 64 + b2 - 128) * 64 + b3 - 128 < 65536
    · rw [if_pos f1]
      have hd : Lib.decodeN n b0 b1 b2 b3 = (65533, 1) := by
        unfold Lib.decodeN
        repeat' split
        all_goals first | rfl | (exfalso; omega)
      rw [hd]; rfl
    rw [if_neg f1]
    by_cases f4 : 1114111 < (((b0 - 240) * 64 + b1 - 128) * 64 + b2 - 128) * 64 + b3 - 128
    · rw [if_pos f4]
      have hd : Lib.decodeN n b0 b1 b2 b3 = (65533, 1) := by
        unfold Lib.decodeN
        repeat' split
        all_goals first | rfl | (exfalso; omega)
      rw [hd]; rfl
    rw [if_neg f4, if_pos (by omega), if_neg (by omega)]
    have hd : Lib.decodeN n b0 b1 b2 b3 = ((((b0 - 240) * 64 + b1 - 128) * 64 + b2 - 128) * 64 + b3 - 128, 4) := by
      unfold Lib.decodeN
      repeat' split
      all_goals first | (exfalso; omega) | (simp only [Prod.mk.injEq, and_true]; omega)
    rw [hd]
    simp <;> omega
  rw [if_neg (by omega)]
  have hd : Lib.decodeN n b0 b1 b2 b3 = (65533, 1) := by
    unfold Lib.decodeN
    repeat' split
    all_goals first | rfl | (exfalso; omega)
  rw [hd]; rfl
theorem letters_l0 (s : ByteArray) (hs : s.size ≤ 1099511627776) : ∀ (m i k : Nat) (x y : List Int) (b : Bool), s.size ≤ i + m → m + 9 ≤ k → i ≤ s.size + 4 → x.length + m ≤ 2199023255552 → y.length = x.length →
    gabionref03_Letters.l0 k s x y b (i : Int) = some (x ++ nI (runesF s m i), y ++ nI (startsF s m i), b && allF s m i) := by
  intro m
  induction m with
  | zero =>
    intro i k x y b h1 h2 h3 h4 h5
    obtain ⟨k, rfl⟩ : ∃ q, k = q + 1 := ⟨k - 1, by omega⟩
    simp only [gabionref03_Letters.l0]
    rw [if_neg (by omega)]
    simp [runesF, startsF, allF, nI]
  | succ m ih =>
    intro i k x y b h1 h2 h3 h4 h5
    obtain ⟨k, rfl⟩ : ∃ q, k = q + 1 := ⟨k - 1, by omega⟩
    simp only [gabionref03_Letters.l0]
    by_cases hi : i < s.size
    · obtain ⟨q, rfl⟩ : ∃ q, k = q + 9 := ⟨k - 9, by omega⟩
      have hw := Lib.width_pos s i
      have hw4 : (Utf8.decode s i).2 ≤ 4 := by
        rw [Lib.decode_at]; unfold Lib.decodeN
        repeat' split
        all_goals simp
      rw [if_pos (by omega), step_dec q s i hi hs]
      simp only [Option.bind_some]
      rw [if_pos (by omega), if_pos (by omega)]
      rw [w64_add i (Utf8.decode s i).2 (by omega)]
      unfold runesF startsF allF
      rw [if_pos hi, if_pos hi, if_pos hi]
      cases b
      · simp only [Bool.false_eq_true, if_false]
        rw [ih _ (q + 9) _ _ false (by omega) (by omega) (by omega) (by simp; omega) (by simp [h5])]
        simp [nI]
      · simp only [if_true]
        rw [ih _ (q + 9) _ _ _ (by omega) (by omega) (by omega) (by simp; omega) (by simp [h5])]
        simp [nI]
    · rw [if_neg (by omega)]
      unfold runesF startsF allF
      rw [if_neg hi, if_neg hi, if_neg hi]
      simp [nI]
theorem letters_eq (s : ByteArray) (hs : s.size ≤ 1099511627776) (k : Nat) (hk : s.size + 9 ≤ k) : gabionref03_Letters.f k s = some (nI (runes s), nI (starts s), allF s s.size 0) := by
  have h := letters_l0 s hs s.size 0 k [] [] true (by omega) hk (by omega) (by simp; omega) rfl
  simpa [gabionref03_Letters.f, runes, starts] using h
theorem rd_nI (l : List Nat) (j : Nat) (h : j < l.length) : rd (nI l) (j : Int) = (l[j] : Int) := by simp [rd, nI, List.getD_eq_getElem?_getD, h]
end Go.Proofs.YtaomgddfkpcdhaaDoor.XDir
