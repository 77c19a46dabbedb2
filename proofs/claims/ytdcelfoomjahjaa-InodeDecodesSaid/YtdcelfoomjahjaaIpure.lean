import Derived.Test.YtdcelfoomjahjaaDecode
import Derived.Test.YtdcelfoomjahjaaIof
import Derived.Test.YtdcelfoomjahjaaEnc
import Derived.Test.YtdcelfoomjahjaaPrn
/-! The printed functions of gabionref01, gabionref17: what they come to. -/
set_option linter.unusedVariables false
set_option linter.unusedSimpArgs false
namespace Go.Proofs.Ytdcelfoomjahjaa
open Go.RowKit Go.Proofs.YtdcelfoomjahjaaW.PrintWords Go.Proofs.Ytdcelfoomjahjaa.PInodeDecodes
theorem w64 {i : Int} (h0 : -9223372036854775808 ≤ i) (h1 : i ≤ 9223372036854775807) : wrap64 i = i := by unfold wrap64; omega
theorem wu64 {i : Int} (h0 : 0 ≤ i) (h1 : i < 18446744073709551616) : IntKind.u64.wrap i = i := by rw [IntKind.wrap_u64]; omega
theorem pBytes (n : Nat) : ∀ (k : Nat) (x m : Int) (acc : List Int) (i : Int), n < k → 0 ≤ x → x < 18446744073709551616 → 0 ≤ i → i + n = m → m ≤ 1000 → acc.length ≤ 1000000 - n → gabionref01_Bytes.l0 k x m acc i = some (acc ++ le x n) := by
  induction n with
  | zero =>
    intro k x m acc i hk h0 h1 hi hm hm2 ha
    obtain ⟨k, rfl⟩ : ∃ q, k = q + 1 := ⟨k - 1, by omega⟩
    simp only [gabionref01_Bytes.l0]
    rw [if_neg (by omega), le, List.append_nil]
  | succ n ih =>
    intro k x m acc i hk h0 h1 hi hm hm2 ha
    obtain ⟨k, rfl⟩ : ∃ q, k = q + 1 := ⟨k - 1, by omega⟩
    have e1 : Int.tdiv x 256 = x / 256 := Int.tdiv_eq_ediv_of_nonneg h0
    have e2 : Int.tmod x 256 = x % 256 := Int.tmod_eq_emod_of_nonneg h0
    simp only [gabionref01_Bytes.l0]
    rw [if_pos (by omega), if_pos (by omega), e1, e2, wu64 (by omega) (by omega), w64 (by omega) (by omega), ih k (x / 256) m _ (i + 1) (by omega) (by omega) (by omega) (by omega) (by omega) hm2 (by first | (simp; done) | (simp; omega)), show x % 256 % 256 = x % 256 by omega, le]
    simp
theorem pBytes_f (n k : Nat) (x : Int) (hk : n < k) (h0 : 0 ≤ x) (h1 : x < 18446744073709551616) (hn : n ≤ 1000) : gabionref01_Bytes.f k x (n : Int) = some (le x n) := by
  rw [gabionref01_Bytes.f, pBytes n k x n [] 0 hk h0 h1 (by omega) (by omega) (by omega) (by first | (simp; done) | (simp; omega)), List.nil_append]
theorem pPad (xs : List Int) (hl : xs.length ≤ 64) : gabionref01_Pad.f xs 64 = some (padL xs 64) := by
  have e0 : wrap64 (0 + (xs.length : Int)) = (xs.length : Int) := by rw [w64 (by omega) (by omega)]; omega
  have e1 : gabionref01_Part.f xs 0 (xs.length : Int) = some xs := by
    have e2 : (xs.take ((xs.length : Int)).toNat).drop (0 : Int).toNat = xs := by simp
    rw [gabionref01_Part.f, e0, if_pos (by omega), if_pos (by omega), if_pos (by omega), e2, if_pos (by simp; omega), List.nil_append]
  rw [gabionref01_Pad.f, e1]
  simp only [Option.bind_some]
  by_cases h : (xs.length : Int) < 64
  · have e3 : wrap64 (64 - (xs.length : Int)) = 64 - (xs.length : Int) := w64 (by omega) (by omega)
    have e4 : ((64 : Int) - (xs.length : Int)).toNat = (64 : Int).toNat - xs.length := by omega
    rw [if_pos h, e3, gabionref01_Zeros.f, if_pos (by omega), if_pos (by omega)]
    simp only [Option.bind_some]
    rw [if_pos (by simp; omega), padL, e4]
  · have e4 : (64 : Int).toNat - xs.length = 0 := by omega
    rw [if_neg h, padL, e4]
    simp
theorem rd_get (xs : List Int) (j : Nat) : rd xs (j : Int) = xs.getD j 0 := rd_getD xs j
theorem les_cons (n : Nat) (x : Int) (xs : List Int) : les n (x :: xs) = le x n ++ les n xs := by simp [les]
theorem pEnc (m : Nat) : ∀ (k j : Nat) (acc at' : List Int) (a b c : Int), m = 10 - j → j ≤ 10 → m + 6 < k → at'.length = 10 → (∀ x ∈ at', 0 ≤ x ∧ x < 4294967296) → acc.length = 8 + 4 * j →
    gabionref17_Encode.l0 k acc (j : Int) a b c at' = some (padL (acc ++ les 4 (at'.drop j)) 64) := by
  induction m with
  | zero =>
    intro k j acc at' a b c hm hj hk hl hx ha
    obtain rfl : j = 10 := by omega
    obtain ⟨k, rfl⟩ : ∃ q, k = q + 1 := ⟨k - 1, by omega⟩
    simp only [gabionref17_Encode.l0]
    rw [if_neg (by omega), pPad acc (by omega), List.drop_of_length_le (by omega)]
    simp [les]
  | succ m ih =>
    intro k j acc at' a b c hm hj hk hl hx ha
    obtain ⟨k, rfl⟩ : ∃ q, k = q + 1 := ⟨k - 1, by omega⟩
    have hjl : j < at'.length := by omega
    have hg : rd at' (j : Int) = at'[j] := by rw [rd_get, List.getD_eq_getElem?_getD, List.getElem?_eq_getElem hjl]; rfl
    have hb := hx _ (List.getElem_mem hjl)
    simp only [gabionref17_Encode.l0]
    rw [if_pos (by omega), if_pos (by omega), if_pos (by omega), hg, wu64 (by omega) (by omega)]
    have e4 : gabionref01_Bytes.f k at'[j] 4 = some (le at'[j] 4) := pBytes_f 4 k at'[j] (by omega) (by omega) (by omega) (by omega)
    rw [e4]
    simp only [Option.bind_some]
    rw [if_pos (by rw [le_length]; omega), w64 (by omega) (by omega), show (j : Int) + 1 = ((j + 1 : Nat) : Int) by omega, ih k (j + 1) _ at' a b c (by omega) (by omega) (by omega) hl hx (by rw [List.length_append, le_length]; omega), List.drop_eq_getElem_cons hjl, les_cons, List.append_assoc]
theorem pEncode (k : Nat) (a b c : Int) (at' : List Int) (hk : 20 < k) (hl : at'.length = 10) (hx : ∀ x ∈ at', 0 ≤ x ∧ x < 4294967296) (b0 : 0 ≤ b) (b1 : b < 65536) (c0 : 0 ≤ c) (c1 : c < 4294967296) :
    gabionref17_Encode.f k a b c at' = some (padL ([a % 256, 0] ++ le b 2 ++ le c 4 ++ les 4 at') 64) := by
  have e2 : gabionref01_Bytes.f k b 2 = some (le b 2) := pBytes_f 2 k b (by omega) b0 (by omega) (by omega)
  have e4 : gabionref01_Bytes.f k c 4 = some (le c 4) := pBytes_f 4 k c (by omega) c0 (by omega) (by omega)
  simp only [gabionref17_Encode.f, Option.bind_some]
  rw [wu64 b0 (by omega), wu64 c0 (by omega), e2]
  simp only [Option.bind_some]
  rw [if_pos (by simp [le_length]), e4]
  simp only [Option.bind_some]
  rw [if_pos (by simp [le_length])]
  have h := pEnc 10 k 0 ([a % 256, 0] ++ le b 2 ++ le c 4) at' a b c (by omega) (by omega) (by omega) hl hx (by simp [le_length])
  simpa using h
theorem pIsZero (m : Nat) : ∀ (k j : Nat) (xs : List Int), m = xs.length - j → j ≤ xs.length → m < k → xs.length ≤ 1000000 → gabionref01_IsZero.l0 k xs (j : Int) = some ((xs.drop j).all (· == 0)) := by
  induction m with
  | zero =>
    intro k j xs hm hj hk hl
    obtain ⟨k, rfl⟩ : ∃ q, k = q + 1 := ⟨k - 1, by omega⟩
    simp only [gabionref01_IsZero.l0]
    rw [if_neg (by omega), List.drop_of_length_le (by omega)]
    rfl
  | succ m ih =>
    intro k j xs hm hj hk hl
    obtain ⟨k, rfl⟩ : ∃ q, k = q + 1 := ⟨k - 1, by omega⟩
    have hjl : j < xs.length := by omega
    have hg : rd xs (j : Int) = xs[j] := by rw [rd_get, List.getD_eq_getElem?_getD, List.getElem?_eq_getElem hjl]; rfl
    simp only [gabionref01_IsZero.l0]
    rw [if_pos (by omega), if_pos (by omega), hg, List.drop_eq_getElem_cons hjl]
    by_cases hz : xs[j] = 0
    · rw [if_pos hz, w64 (by omega) (by omega), show (j : Int) + 1 = ((j + 1 : Nat) : Int) by omega, ih k (j + 1) xs (by omega) (by omega) (by omega) hl]
      simp [hz]
    · rw [if_neg hz, List.all_cons, show (xs[j] == 0) = false from by simpa using hz]
      rfl
theorem pIsZero_f (k : Nat) (xs : List Int) (hk : xs.length < k) (hl : xs.length ≤ 1000000) : gabionref01_IsZero.f k xs = some (xs.all (· == 0)) := by
  have h := pIsZero xs.length k 0 xs (by omega) (by omega) hk hl
  rw [List.drop_zero] at h
  exact h
theorem num_take (xs : List Int) (a i : Nat) (h : a + i < xs.length) : num ((xs.drop a).take (i + 1)) = num ((xs.drop a).take i) + xs[a + i] * 256 ^ i := by
  have hlen : i < (xs.drop a).length := by rw [List.length_drop]; omega
  rw [List.take_succ_eq_append_getElem hlen, num_snoc, List.length_take, Nat.min_eq_left (by omega)]
  simp
theorem pNum (m : Nat) : ∀ (k i : Nat) (xs : List Int) (a n : Nat), m = n - i → i ≤ n → m < k → n ≤ 4 → a + n ≤ xs.length → xs.length ≤ 1000000 → Byt xs →
    gabionref01_Num.l0 k xs (a : Int) (n : Int) (num ((xs.drop a).take i)) (256 ^ i) (i : Int) = some (at_ xs a n) := by
  induction m with
  | zero =>
    intro k i xs a n hm hi hk hn ha hl hb
    obtain rfl : i = n := by omega
    obtain ⟨k, rfl⟩ : ∃ q, k = q + 1 := ⟨k - 1, by omega⟩
    simp only [gabionref01_Num.l0]
    rw [if_neg (by omega)]
    rfl
  | succ m ih =>
    intro k i xs a n hm hi hk hn ha hl hb
    obtain ⟨k, rfl⟩ : ∃ q, k = q + 1 := ⟨k - 1, by omega⟩
    have hil : a + i < xs.length := by omega
    have e1 : wrap64 ((a : Int) + (i : Int)) = ((a + i : Nat) : Int) := by rw [w64 (by omega) (by omega)]; omega
    have hg : rd xs ((a + i : Nat) : Int) = xs[a + i] := by rw [rd_get, List.getD_eq_getElem?_getD, List.getElem?_eq_getElem hil]; rfl
    have hx := hb _ (List.getElem_mem hil)
    have hnb := num_bound ((xs.drop a).take i) (fun u hu => hb u (List.mem_of_mem_drop (List.mem_of_mem_take hu)))
    rw [List.length_take, List.length_drop, Nat.min_eq_left (by omega)] at hnb
    have hp : (256 : Int) ^ i ≤ 256 ^ 3 := by
      have : i = 0 ∨ i = 1 ∨ i = 2 ∨ i = 3 := by omega
      rcases this with rfl | rfl | rfl | rfl <;> decide
    have hp0 : (0 : Int) ≤ 256 ^ i := Int.pow_nonneg (by omega)
    have hm1 : xs[a + i] * 256 ^ i ≤ 255 * 256 ^ 3 := Int.mul_le_mul (by omega) hp hp0 (by omega)
    have hm0 : 0 ≤ xs[a + i] * 256 ^ i := Int.mul_nonneg hx.1 hp0
    simp only [show (256 : Int) ^ 3 = 16777216 from rfl] at hp hm1
    simp only [gabionref01_Num.l0]
    rw [if_pos (by omega), e1, if_pos (by omega), if_pos (by omega), hg, wu64 hx.1 (by omega), wu64 hm0 (by omega), wu64 (i := num _ + _) (by omega) (by omega), wu64 (by omega) (by omega), w64 (by omega) (by omega), show (i : Int) + 1 = ((i + 1 : Nat) : Int) by omega, ← num_take xs a i hil, ← Int.pow_succ]
    exact ih k (i + 1) xs a n (by omega) (by omega) (by omega) hn ha hl hb
theorem pNum_f (k : Nat) (xs : List Int) (a n : Nat) (hk : 4 < k) (hn : n ≤ 4) (ha : a + n ≤ xs.length) (hl : xs.length ≤ 1000000) (hb : Byt xs) : gabionref01_Num.f k xs (a : Int) (n : Int) = some (at_ xs a n) := by
  have h := pNum n k 0 xs a n (by omega) (by omega) (by omega) hn ha hl hb
  simpa [gabionref01_Num.f, num] using h
/-- The numbers that bytes name. -/
def numsOf (xs : List Int) (j : Nat) : List Int := (List.range j).map fun i => at_ xs (8 + 4 * i) 4
theorem at_bound (xs : List Int) (a n : Nat) (hb : Byt xs) (hn : n ≤ 4) : 0 ≤ at_ xs a n ∧ at_ xs a n < 256 ^ n := by
  have h := num_bound ((xs.drop a).take n) (fun u hu => hb u (List.mem_of_mem_drop (List.mem_of_mem_take hu)))
  refine ⟨h.1, Int.lt_of_lt_of_le h.2 ?_⟩
  exact pow256 _ (by rw [List.length_take]; omega) hn
theorem pDec (m : Nat) : ∀ (k j : Nat) (xs : List Int) (a b c : Int), m = 10 - j → j ≤ 10 → m + 5 < k → xs.length = 64 → Byt xs →
    gabionref17_Decode.l0 k xs (j : Int) a b c (numsOf xs j) = some (a, b, c, numsOf xs 10, 0) := by
  induction m with
  | zero =>
    intro k j xs a b c hm hj hk hl hb
    obtain rfl : j = 10 := by omega
    obtain ⟨k, rfl⟩ : ∃ q, k = q + 1 := ⟨k - 1, by omega⟩
    simp only [gabionref17_Decode.l0]
    rw [if_neg (by omega)]
  | succ m ih =>
    intro k j xs a b c hm hj hk hl hb
    obtain ⟨k, rfl⟩ : ∃ q, k = q + 1 := ⟨k - 1, by omega⟩
    have e1 : wrap64 (8 + wrap64 (4 * (j : Int))) = ((8 + 4 * j : Nat) : Int) := by rw [w64 (i := 4 * (j : Int)) (by omega) (by omega), w64 (by omega) (by omega)]; omega
    have e4 : gabionref01_Num.f k xs ((8 + 4 * j : Nat) : Int) 4 = some (at_ xs (8 + 4 * j) 4) := pNum_f k xs (8 + 4 * j) 4 (by omega) (by omega) (by omega) (by omega) hb
    have hbd := at_bound xs (8 + 4 * j) 4 hb (by omega)
    simp only [show (256 : Int) ^ 4 = 4294967296 from rfl] at hbd
    have hs : numsOf xs j ++ [at_ xs (8 + 4 * j) 4] = numsOf xs (j + 1) := by simp [numsOf, List.range_succ]
    simp only [gabionref17_Decode.l0]
    rw [if_pos (by omega), e1, e4]
    simp only [Option.bind_some]
    rw [if_pos (by simp [numsOf]; omega), w64 (i := at_ xs (8 + 4 * j) 4) (by omega) (by omega), w64 (by omega) (by omega), show (j : Int) + 1 = ((j + 1 : Nat) : Int) by omega, hs]
    exact ih k (j + 1) xs a b c (by omega) (by omega) (by omega) hl hb
/-- May these bytes be an inode? -/
def okB (xs : List Int) : Bool := decide (xs.length = 64) && (decide (rd xs 0 ≤ 2) && (rd xs 1 == 0) && (xs.drop 48).all (· == 0) && (!(rd xs 0 == 0) || xs.all (· == 0)))
theorem pJ (k : Nat) (xs : List Int) (hk : 20 < k) (hl : xs.length = 64) (hb : Byt xs) : gabionref17_Decode.j0 k xs false = some (rd xs 0, at_ xs 2 2, at_ xs 4 4, numsOf xs 10, 0) := by
  obtain ⟨k, rfl⟩ : ∃ q, k = q + 1 := ⟨k - 1, by omega⟩
  have e2 : gabionref01_Num.f k xs 2 2 = some (at_ xs 2 2) := pNum_f k xs 2 2 (by omega) (by omega) (by omega) (by omega) hb
  have e4 : gabionref01_Num.f k xs 4 4 = some (at_ xs 4 4) := pNum_f k xs 4 4 (by omega) (by omega) (by omega) (by omega) hb
  have b2 := at_bound xs 2 2 hb (by omega)
  have b4 := at_bound xs 4 4 hb (by omega)
  simp only [show (256 : Int) ^ 4 = 4294967296 from rfl, show (256 : Int) ^ 2 = 65536 from rfl] at b2 b4
  have hg : rd xs 0 = xs[0] := by
    have := rd_get xs 0
    rw [List.getD_eq_getElem?_getD, List.getElem?_eq_getElem (show 0 < xs.length by omega)] at this
    exact this
  have hx := hb _ (List.getElem_mem (show 0 < xs.length by omega))
  simp only [gabionref17_Decode.j0]
  rw [if_neg (by simp), if_pos (by omega), e2]
  simp only [Option.bind_some]
  rw [e4]
  simp only [Option.bind_some]
  rw [w64 (i := rd xs 0) (by omega) (by omega), w64 (i := at_ xs 2 2) (by omega) (by omega), w64 (i := at_ xs 4 4) (by omega) (by omega)]
  have h := pDec 10 k 0 xs (rd xs 0) (at_ xs 2 2) (at_ xs 4 4) (by omega) (by omega) (by omega) hl hb
  simpa [numsOf] using h
theorem pJt (k : Nat) (xs : List Int) (hk : 0 < k) : gabionref17_Decode.j0 k xs true = some (0, 0, 0, [], 62) := by
  obtain ⟨k, rfl⟩ : ∃ q, k = q + 1 := ⟨k - 1, by omega⟩
  simp [gabionref17_Decode.j0]
theorem pDecode (k : Nat) (xs : List Int) (hk : 100 < k) (hb : Byt xs) : gabionref17_Decode.f k xs = some (if okB xs then (rd xs 0, at_ xs 2 2, at_ xs 4 4, numsOf xs 10, 0) else (0, 0, 0, [], 62)) := by
  rw [gabionref17_Decode.f]
  by_cases hl : xs.length = 64
  · rw [if_pos (by omega), if_pos (by omega)]
    by_cases h0 : rd xs 0 > 2
    · rw [if_pos h0, pJt k xs (by omega), show okB xs = false by simp [okB]; intro _ h; omega]; rfl
    · rw [if_neg h0, if_pos (by omega)]
      by_cases h1 : rd xs 1 = 0
      · have hz := pIsZero_f k (xs.drop 48) (by rw [List.length_drop]; omega) (by rw [List.length_drop]; omega)
        have ha := pIsZero_f k xs (by omega) (by omega)
        rw [if_pos h1, if_pos (by omega), hz]
        simp only [Option.bind_some]
        cases hz2 : (xs.drop 48).all (· == 0)
        · rw [if_neg (by simp), pJt k xs (by omega), show okB xs = false by simp [okB, hz2]]; rfl
        · rw [if_pos rfl]
          by_cases h2 : rd xs 0 = 0
          · rw [if_pos h2, ha]
            simp only [Option.bind_some]
            cases ha2 : xs.all (· == 0)
            · rw [Bool.not_false, pJt k xs (by omega), show okB xs = false by simp [okB, h2, ha2]]; rfl
            · rw [Bool.not_true, pJ k xs (by omega) hl hb, show okB xs = true by simp [okB, hl, h1, h2, hz2, ha2]]; rfl
          · rw [if_neg h2, pJ k xs (by omega) hl hb, show okB xs = true by simp [okB, hl, h1, h2, hz2]; omega]; rfl
      · rw [if_neg h1, pJt k xs (by omega), show okB xs = false by simp [okB, h1]]; rfl
  · rw [if_neg (by omega), pJt k xs (by omega), show okB xs = false by simp [okB, hl]]; rfl
end Go.Proofs.Ytdcelfoomjahjaa
