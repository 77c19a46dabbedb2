import Derived.Test.YtjjhdddiabdfhaaDoorOrd
import Derived.Lib.DecodeN
import Derived.Lib.RuneCountTail
/-! Decoding a valid text is the same within a longer one. -/
set_option linter.unusedVariables false
namespace Go.Proofs.YtjjhdddiabdfhaaDoor
open Go.Lib
theorem decN_ext (n n' a b c d b' c' d' : Nat) (hv : ¬ ((decodeN n a b c d).1 = 65533 ∧ (decodeN n a b c d).2 = 1)) (hn : (decodeN n a b c d).2 ≤ n')
    (h1 : 1 < (decodeN n a b c d).2 → b = b') (h2 : 2 < (decodeN n a b c d).2 → c = c') (h3 : 3 < (decodeN n a b c d).2 → d = d') : decodeN n' a b' c' d' = decodeN n a b c d := by
  by_cases c1 : a < 128
  · simp [decodeN, c1]
  by_cases c2 : a / 32 = 6 ∧ (1 < n ∧ b / 64 = 2)
  · by_cases e2 : a % 32 * 64 + b % 64 ≥ 128
    · have hd : decodeN n a b c d = (a % 32 * 64 + b % 64, 2) := by rw [decodeN, if_neg c1, if_pos c2, if_pos e2]
      rw [hd] at hn h1 ⊢
      obtain rfl := h1 (by simp)
      rw [decodeN, if_neg c1, if_pos ⟨c2.1, by simp only at hn; omega, c2.2.2⟩, if_pos e2]
    · have hd : decodeN n a b c d = (65533, 1) := by rw [decodeN, if_neg c1, if_pos c2, if_neg e2]
      rw [hd] at hv; exact absurd ⟨rfl, rfl⟩ hv
  by_cases c3 : a / 16 = 14 ∧ (1 < n ∧ b / 64 = 2) ∧ (2 < n ∧ c / 64 = 2)
  · by_cases e3 : a % 16 * 4096 + b % 64 * 64 + c % 64 ≥ 2048 ∧ (a % 16 * 4096 + b % 64 * 64 + c % 64 < 55296 ∨ (57344 ≤ a % 16 * 4096 + b % 64 * 64 + c % 64 ∧ a % 16 * 4096 + b % 64 * 64 + c % 64 ≤ 1114111))
    · have hd : decodeN n a b c d = (a % 16 * 4096 + b % 64 * 64 + c % 64, 3) := by rw [decodeN, if_neg c1, if_neg c2, if_pos c3, if_pos e3]
      rw [hd] at hn h1 h2 ⊢
      obtain rfl := h1 (by simp)
      obtain rfl := h2 (by simp)
      simp only at hn
      have c2' : ¬ (a / 32 = 6 ∧ (1 < n' ∧ b / 64 = 2)) := by omega
      rw [decodeN, if_neg c1, if_neg c2', if_pos ⟨c3.1, ⟨by omega, c3.2.1.2⟩, by omega, c3.2.2.2⟩, if_pos e3]
    · have hd : decodeN n a b c d = (65533, 1) := by rw [decodeN, if_neg c1, if_neg c2, if_pos c3, if_neg e3]
      rw [hd] at hv; exact absurd ⟨rfl, rfl⟩ hv
  by_cases c4 : a / 8 = 30 ∧ (1 < n ∧ b / 64 = 2) ∧ (2 < n ∧ c / 64 = 2) ∧ (3 < n ∧ d / 64 = 2)
  · by_cases e4 : a % 8 * 262144 + b % 64 * 4096 + c % 64 * 64 + d % 64 ≥ 65536 ∧ (a % 8 * 262144 + b % 64 * 4096 + c % 64 * 64 + d % 64 < 55296 ∨ (57344 ≤ a % 8 * 262144 + b % 64 * 4096 + c % 64 * 64 + d % 64 ∧ a % 8 * 262144 + b % 64 * 4096 + c % 64 * 64 + d % 64 ≤ 1114111))
    · have hd : decodeN n a b c d = (a % 8 * 262144 + b % 64 * 4096 + c % 64 * 64 + d % 64, 4) := by rw [decodeN, if_neg c1, if_neg c2, if_neg c3, if_pos c4, if_pos e4]
      rw [hd] at hn h1 h2 h3 ⊢
      obtain rfl := h1 (by simp)
      obtain rfl := h2 (by simp)
      obtain rfl := h3 (by simp)
      simp only at hn
      have c2' : ¬ (a / 32 = 6 ∧ (1 < n' ∧ b / 64 = 2)) := by omega
      have c3' : ¬ (a / 16 = 14 ∧ (1 < n' ∧ b / 64 = 2) ∧ (2 < n' ∧ c / 64 = 2)) := by omega
      rw [decodeN, if_neg c1, if_neg c2', if_neg c3', if_pos ⟨c4.1, ⟨by omega, c4.2.1.2⟩, ⟨by omega, c4.2.2.1.2⟩, by omega, c4.2.2.2.2⟩, if_pos e4]
    · have hd : decodeN n a b c d = (65533, 1) := by rw [decodeN, if_neg c1, if_neg c2, if_neg c3, if_pos c4, if_neg e4]
      rw [hd] at hv; exact absurd ⟨rfl, rfl⟩ hv
  · have hd : decodeN n a b c d = (65533, 1) := by rw [decodeN, if_neg c1, if_neg c2, if_neg c3, if_neg c4]
    rw [hd] at hv; exact absurd ⟨rfl, rfl⟩ hv
/-- A letter's width: no more than is left. -/
theorem decN_wd (n a b c d : Nat) (h : 0 < n) : 1 ≤ (decodeN n a b c d).2 ∧ (decodeN n a b c d).2 ≤ n := by
  unfold decodeN
  repeat' split
  all_goals simp only
  all_goals omega
/-- Two texts that agree from two places on, as far as a letter goes: the same letter. -/
theorem dec_ext (s u : ByteArray) (i j : Nat) (hi : i < s.size) (hv : ¬ ((Utf8.decode s i).1 = 65533 ∧ (Utf8.decode s i).2 = 1)) (hn : (Utf8.decode s i).2 ≤ u.size - j)
    (hb : ∀ q, q < (Utf8.decode s i).2 → u.get! (j + q) = s.get! (i + q)) : Utf8.decode u j = Utf8.decode s i := by
  have hw : 1 ≤ (Utf8.decode s i).2 := by rw [decode_at]; exact (decN_wd _ _ _ _ _ (by omega)).1
  have h0 := hb 0 (by omega)
  rw [Nat.add_zero, Nat.add_zero] at h0
  rw [decode_at u j, h0]
  rw [decode_at s i] at hv hn hb ⊢
  exact decN_ext _ _ _ _ _ _ _ _ _ hv hn (fun h => by rw [hb 1 h]) (fun h => by rw [hb 2 h]) (fun h => by rw [hb 3 h])
theorem get_list (s : ByteArray) (i : Nat) : s.get! i = s.data.toList.getD i 0 := (getD_get!' s i).symm
theorem app_list (p q : ByteArray) : (p ++ q).data.toList = p.data.toList ++ q.data.toList := by rw [ByteArray.data_append, Array.toList_append]
theorem app_size (p q : ByteArray) : (p ++ q).size = p.size + q.size := ByteArray.size_append
theorem app_get_l (p q : ByteArray) (i : Nat) (h : i < p.size) : (p ++ q).get! i = p.get! i := by
  have hl : p.data.toList.length = p.size := by show p.data.toList.length = p.data.size; exact Array.length_toList
  rw [get_list, get_list, app_list, List.getD_eq_getElem?_getD, List.getD_eq_getElem?_getD, List.getElem?_append_left (by omega)]
theorem app_get_r (p q : ByteArray) (i : Nat) : (p ++ q).get! (p.size + i) = q.get! i := by
  have hl : p.data.toList.length = p.size := by show p.data.toList.length = p.data.size; exact Array.length_toList
  rw [get_list, get_list, app_list, List.getD_eq_getElem?_getD, List.getD_eq_getElem?_getD, List.getElem?_append_right (by omega), hl, Nat.add_sub_cancel_left]
theorem dec_app_r (p q : ByteArray) (j : Nat) : Utf8.decode (p ++ q) (p.size + j) = Utf8.decode q j := by
  rw [decode_at, decode_at, app_size, app_get_r, Nat.add_assoc, app_get_r, Nat.add_assoc, app_get_r, Nat.add_assoc, app_get_r]
  congr 1
  omega
theorem runesF_app_r (p q : ByteArray) : ∀ (k j : Nat), runesF (p ++ q) k (p.size + j) = runesF q k j
  | 0, j => rfl
  | k + 1, j => by
    unfold runesF
    rw [dec_app_r, Nat.add_assoc, runesF_app_r p q k, app_size]
    by_cases h : j < q.size
    · rw [if_pos h, if_pos (by omega)]
    · rw [if_neg h, if_neg (by omega)]
theorem allF_app_r (p q : ByteArray) : ∀ (k j : Nat), allF (p ++ q) k (p.size + j) = allF q k j
  | 0, j => rfl
  | k + 1, j => by
    unfold allF
    rw [dec_app_r, Nat.add_assoc, allF_app_r p q k, app_size]
    by_cases h : j < q.size
    · rw [if_pos h, if_pos (by omega)]
    · rw [if_neg h, if_neg (by omega)]
theorem dec_app_l (p q : ByteArray) (i : Nat) (hi : i < p.size) (hv : ¬ ((Utf8.decode p i).1 = 65533 ∧ (Utf8.decode p i).2 = 1)) : Utf8.decode (p ++ q) i = Utf8.decode p i := by
  have hw := decN_wd (p.size - i) (p.get! i).toNat (p.get! (i + 1)).toNat (p.get! (i + 2)).toNat (p.get! (i + 3)).toNat (by omega)
  rw [← decode_at] at hw
  exact dec_ext p (p ++ q) i i hi hv (by rw [app_size]; omega) (fun j hj => app_get_l p q (i + j) (by omega))
theorem wd_le (p : ByteArray) (i : Nat) (hi : i < p.size) : 1 ≤ (Utf8.decode p i).2 ∧ i + (Utf8.decode p i).2 ≤ p.size := by
  have hw := decN_wd (p.size - i) (p.get! i).toNat (p.get! (i + 1)).toNat (p.get! (i + 2)).toNat (p.get! (i + 3)).toNat (by omega)
  rw [← decode_at] at hw
  omega
theorem runesF_succ (s : ByteArray) (k i : Nat) : runesF s (k + 1) i = if i < s.size then (Utf8.decode s i).1 :: runesF s k (i + (Utf8.decode s i).2) else [] := rfl
theorem runesF_app_l (p q : ByteArray) : ∀ (k i : Nat), p.size ≤ i + k → i ≤ p.size → allF p k i = true → runesF (p ++ q) (k + q.size) i = runesF p k i ++ runesF q q.size 0
  | 0, i, h, hi, _ => by
    obtain rfl : i = p.size := by omega
    have h_ := runesF_app_r p q q.size 0
    rw [Nat.add_zero] at h_
    rw [Nat.zero_add, h_]
    rfl
  | k + 1, i, h, hi, ha => by
    by_cases hlt : i < p.size
    · unfold allF at ha
      rw [if_pos hlt, Bool.and_eq_true] at ha
      have hv : ¬ ((Utf8.decode p i).1 = 65533 ∧ (Utf8.decode p i).2 = 1) := by have h_ := ha.1; rw [Bool.not_eq_true', decide_eq_false_iff_not] at h_; exact h_
      have hd := dec_app_l p q i hlt hv
      have hw := wd_le p i hlt
      have ih := runesF_app_l p q k (i + (Utf8.decode p i).2) (by omega) (by omega) ha.2
      have e : k + 1 + q.size = (k + q.size) + 1 := by omega
      rw [e, runesF_succ, runesF_succ p k, if_pos (by rw [app_size]; omega), if_pos hlt, hd, ih]
      rfl
    · obtain rfl : i = p.size := by omega
      have h_ : runesF (p ++ q) (k + 1 + q.size) p.size = runesF q (k + 1 + q.size) 0 := runesF_app_r p q _ 0
      rw [h_, runesF_end p _ _ (by omega), List.nil_append]
      exact runesF_fuel q _ _ 0 (by omega) (by omega)
theorem runes_app (p q : ByteArray) (h : allF p p.size 0 = true) : runes (p ++ q) = runes p ++ runes q := by
  rw [runes, app_size, runesF_app_l p q p.size 0 (by omega) (by omega) h]
  rfl
theorem allF_end (s : ByteArray) (k i : Nat) (h : ¬ i < s.size) : allF s k i = true := by cases k <;> simp [allF, h]
theorem allF_fuel (s : ByteArray) : ∀ (k m i : Nat), s.size ≤ i + k → s.size ≤ i + m → allF s k i = allF s m i
  | 0, m, i, h, _ => by rw [allF_end s m i (by omega)]; rfl
  | k + 1, 0, i, _, h => by rw [allF_end s (k + 1) i (by omega)]; rfl
  | k + 1, m + 1, i, h, h2 => by
    unfold allF
    have hw := Lib.width_pos s i
    by_cases hi : i < s.size
    · rw [if_pos hi, if_pos hi, allF_fuel s k m _ (by omega) (by omega)]
    · rw [if_neg hi, if_neg hi]
theorem allF_app_l (p q : ByteArray) : ∀ (k i : Nat), p.size ≤ i + k → i ≤ p.size → allF p k i = true → allF (p ++ q) (k + q.size) i = allF q q.size 0
  | 0, i, h, hi, _ => by
    obtain rfl : i = p.size := by omega
    have h_ := allF_app_r p q q.size 0
    rw [Nat.add_zero] at h_
    rw [Nat.zero_add, h_]
  | k + 1, i, h, hi, ha => by
    by_cases hlt : i < p.size
    · have ha0 := ha
      unfold allF at ha
      rw [if_pos hlt, Bool.and_eq_true] at ha
      have hv : ¬ ((Utf8.decode p i).1 = 65533 ∧ (Utf8.decode p i).2 = 1) := by have h_ := ha.1; rw [Bool.not_eq_true', decide_eq_false_iff_not] at h_; exact h_
      have hd := dec_app_l p q i hlt hv
      have hw := wd_le p i hlt
      have ih := allF_app_l p q k (i + (Utf8.decode p i).2) (by omega) (by omega) ha.2
      have e : k + 1 + q.size = (k + q.size) + 1 := by omega
      rw [e, allF, if_pos (by rw [app_size]; omega), hd, ih]
      simp [hv]
    · obtain rfl : i = p.size := by omega
      have h_ : allF (p ++ q) (k + 1 + q.size) p.size = allF q (k + 1 + q.size) 0 := allF_app_r p q _ 0
      rw [h_]
      exact allF_fuel q _ _ 0 (by omega) (by omega)
theorem allF_app (p q : ByteArray) (h : allF p p.size 0 = true) : allF (p ++ q) (p ++ q).size 0 = allF q q.size 0 := by
  rw [app_size, allF_app_l p q p.size 0 (by omega) (by omega) h]
theorem ext_get (s : ByteArray) (a b j : Nat) (hb : b ≤ s.size) (hj : a + j < b) : (s.extract a b).get! j = s.get! (a + j) := by
  rw [get_list, get_list, ByteArray.data_extract, Array.toList_extract, List.getD_eq_getElem?_getD, List.getD_eq_getElem?_getD, List.extract_eq_take_drop, List.getElem?_take, if_pos (by omega), List.getElem?_drop]
/-- One letter alone. -/
theorem one_letter (s : ByteArray) (i : Nat) (hi : i < s.size) (hv : ¬ ((Utf8.decode s i).1 = 65533 ∧ (Utf8.decode s i).2 = 1)) :
    runes (s.extract i (i + (Utf8.decode s i).2)) = [(Utf8.decode s i).1] ∧ allF (s.extract i (i + (Utf8.decode s i).2)) (s.extract i (i + (Utf8.decode s i).2)).size 0 = true := by
  have hw := wd_le s i hi
  have hsz : (s.extract i (i + (Utf8.decode s i).2)).size = (Utf8.decode s i).2 := by rw [ByteArray.size_extract]; omega
  have hd : Utf8.decode (s.extract i (i + (Utf8.decode s i).2)) 0 = Utf8.decode s i := dec_ext s _ i 0 hi hv (by rw [hsz]; omega) (fun q hq => by rw [Nat.zero_add]; exact ext_get s i _ q (by omega) (by omega))
  obtain ⟨u, hu⟩ : ∃ u, s.extract i (i + (Utf8.decode s i).2) = u := ⟨_, rfl⟩
  rw [hu] at hd hsz ⊢
  constructor
  · rw [runes, runesF_step u _ 0 (by omega) (by omega), hd, Nat.zero_add, runesF_end u _ _ (by omega)]
  · rw [allF_fuel u u.size (u.size + 1) 0 (by omega) (by omega), allF, if_pos (by omega), hd, Nat.zero_add, allF_end u _ _ (by omega)]
    simp [hv]
end Go.Proofs.YtjjhdddiabdfhaaDoor
