import Derived.Test.YtjjhdddiabdfhaaDoorXNampPat5
/-! What fits escaped letters, with any letters ahead or behind. -/
set_option linter.unusedVariables false
namespace Go.Proofs.YtjjhdddiabdfhaaDoor
theorem rd_one (l : List Nat) (post : List Part) (i : Nat) (h : i < l.length) : rdP (l.map oneP ++ post) i = oneP l[i] := by
  rw [rdP_getElem (by simp; omega), List.getElem_append_left (by simp; exact h)]
  simp
theorem rn_l (l t : List Nat) (i : Nat) (h : i < l.length) : rnP (l ++ t) i = l[i] := by
  rw [rnP, List.getD_eq_getElem?_getD, List.getElem?_append_left h, List.getElem?_eq_getElem h]
  rfl
theorem fits_run (l t : List Nat) (post : List Part) (back : Option Nat) (fr : Nat) : ∀ (m i K : Nat), i + m = l.length → fitsF (l.map oneP ++ post) (l ++ t) (K + m) i i back fr = fitsF (l.map oneP ++ post) (l ++ t) K l.length l.length back fr
  | 0, i, K, h => by rw [Nat.add_zero] at h; rw [h]; rfl
  | m + 1, i, K, h => by
    have hi : i < l.length := by omega
    rw [← Nat.add_assoc, fitsF_succ, if_pos (by simp; omega), rd_one l post i hi, rn_l l t i hi, if_neg (by simp [oneP]), if_pos ⟨by simp; omega, by rw [has_one]; simp⟩]
    exact fits_run l t post back fr m (i + 1) K (by omega)
theorem fits_self (l : List Nat) (K : Nat) : fitsF (l.map oneP) l (K + 1 + l.length) 0 0 none 0 = some true := by
  have h := fits_run l [] [] none 0 l.length 0 (K + 1) (by omega)
  simp only [List.append_nil] at h
  rw [h, fitsF_succ, if_neg (by omega), tailM_end (by simp)]
theorem fits_longer (l t : List Nat) (ht : t ≠ []) (K : Nat) : fitsF (l.map oneP) (l ++ t) (K + 1 + l.length) 0 0 none 0 = some false := by
  have h := fits_run l t [] none 0 l.length 0 (K + 1) (by omega)
  simp only [List.append_nil] at h
  have hp : 0 < t.length := List.length_pos_iff.2 ht
  rw [h, fitsF_succ, if_pos (by simp; omega), if_neg (by simp), if_neg (by simp)]
theorem fits_any (P : List Part) (s : List Nat) (b : Nat) (hP : P.length = b + 1) : ∀ (m k K : Nat), k + m = s.length → fitsF P s (K + 1 + m) (b + 1) k (some b) k = some true
  | 0, k, K, h => by rw [Nat.add_zero, fitsF_succ, if_neg (by omega), tailM_end (by omega)]
  | m + 1, k, K, h => by
    rw [← Nat.add_assoc, fitsF_succ, if_pos (by omega), if_neg (by omega), if_neg (by omega)]
    exact fits_any P s b hP m (k + 1) K (by omega)
theorem fits_behind (l t : List Nat) (K : Nat) : fitsF (l.map oneP ++ [manyP]) (l ++ t) (K + 2 + t.length + l.length) 0 0 none 0 = some true := by
  have h := fits_run l t [manyP] none 0 l.length 0 (K + 2 + t.length) (by omega)
  rw [h]
  have hr : rdP (l.map oneP ++ [manyP]) l.length = manyP := by simp [rdP, List.getD_eq_getElem?_getD]
  have e : K + 2 + t.length = (K + 1 + t.length) + 1 := by omega
  rw [e, fitsF_succ]
  by_cases ht : t.length = 0
  · have ht2 : t = [] := List.eq_nil_of_length_eq_zero ht
    subst ht2
    rw [if_neg (by simp), tailM_step (by simp), hr, tailM_end (by simp)]
    rfl
  · rw [if_pos (by simp; omega), hr, if_pos ⟨by simp, rfl⟩]
    exact fits_any _ _ l.length (by simp) t.length l.length K (by simp)
theorem fits_scan (l t : List Nat) : ∀ (M i fr K : Nat), (t.length - fr) * (l.length + 2) + (l.length + 1 - i) = M → M + 1 ≤ K → 1 ≤ i → i ≤ l.length + 1 → fr ≤ t.length →
    (∀ j, j < i - 1 → rnP (t ++ l) (fr + j) = rnP l j) → fitsF (manyP :: l.map oneP) (t ++ l) K i (fr + (i - 1)) (some 0) fr = some true := by
  intro M
  induction M using Nat.strongRecOn with
  | _ M ih =>
    intro i fr K hM hK h1 h2 h3 hm
    obtain ⟨K, rfl⟩ : ∃ K', K = K' + 1 := ⟨K - 1, by omega⟩
    have miss : fr < t.length → fitsF (manyP :: l.map oneP) (t ++ l) K (0 + 1) (fr + 1) (some 0) (fr + 1) = some true := by
      intro hf
      obtain ⟨d, hd⟩ : ∃ d, t.length - fr = d + 1 := ⟨t.length - fr - 1, by omega⟩
      have hd2 : t.length - (fr + 1) = d := by omega
      rw [hd, Nat.succ_mul] at hM
      have h_ := ih (d * (l.length + 2) + (l.length + 1 - 1)) (by omega) 1 (fr + 1) K (by rw [hd2]) (by omega) (by omega) (by omega) (by omega) (fun j hj => by omega)
      simpa using h_
    rw [fitsF_succ]
    by_cases hk : fr + (i - 1) < (t ++ l).length
    · rw [if_pos hk]
      have hk2 := hk
      rw [List.length_append] at hk2
      by_cases hi : i ≤ l.length
      · obtain ⟨q, rfl⟩ : ∃ q, i = q + 1 := ⟨i - 1, by omega⟩
        rw [Nat.add_sub_cancel] at hm hk hk2 ⊢
        have hq : q < l.length := by omega
        have hr : rdP (manyP :: l.map oneP) (q + 1) = oneP l[q] := by
          rw [rdP_getElem (by simp; omega)]
          simp
        rw [hr, if_neg (by simp [oneP])]
        by_cases he : l[q] = rnP (t ++ l) (fr + q)
        · rw [if_pos ⟨by simp; omega, by rw [has_one]; simpa using he⟩]
          have h_ := ih ((t.length - fr) * (l.length + 2) + (l.length + 1 - (q + 1 + 1))) (by omega) (q + 1 + 1) fr K rfl (by omega) (by omega) (by omega) h3 (fun j hj => by
            by_cases hjq : j = q
            · subst hjq; rw [← he, rnP, List.getD_eq_getElem?_getD, List.getElem?_eq_getElem hq]; rfl
            · exact hm j (by omega))
          have e : fr + (q + 1 + 1 - 1) = fr + q + 1 := by omega
          rw [e] at h_
          exact h_
        · rw [if_neg (by rw [has_one]; simp [he])]
          refine miss ?_
          rcases Nat.lt_or_ge fr t.length with h | h
          · exact h
          · exfalso; apply he
            obtain rfl : fr = t.length := by omega
            rw [rnP, List.getD_eq_getElem?_getD, List.getElem?_append_right (by omega), Nat.add_sub_cancel_left, List.getElem?_eq_getElem hq]
            rfl
      · rw [if_neg (by simp; omega), if_neg (by simp; omega)]
        exact miss (by omega)
    · rw [if_neg hk, tailM_end]
      rw [List.length_append] at hk
      simp
      omega
theorem fits_ahead (l t : List Nat) (ht : t ≠ []) (K : Nat) (hK : t.length * (l.length + 2) + l.length + 2 ≤ K) : fitsF (manyP :: l.map oneP) (t ++ l) K 0 0 none 0 = some true := by
  obtain ⟨K, rfl⟩ : ∃ K', K = K' + 1 := ⟨K - 1, by omega⟩
  have hp : 0 < t.length := List.length_pos_iff.2 ht
  have hr : rdP (manyP :: l.map oneP) 0 = manyP := rfl
  rw [fitsF_succ, if_pos (by simp; omega), hr, if_pos ⟨by simp, rfl⟩]
  exact fits_scan l t _ 1 0 K rfl (by rw [Nat.sub_zero, Nat.add_sub_cancel]; omega) (by omega) (by omega) (by omega) (fun j hj => by omega)
end Go.Proofs.YtjjhdddiabdfhaaDoor
