import Derived.Test.YtdcelfoomjahjaaIcodes
/-! What bytes are decoded to: plain laws. -/
set_option linter.unusedVariables false
set_option linter.unusedSimpArgs false
namespace Go.Proofs.Ytdcelfoomjahjaa
open Go.RowKit Go.Proofs.YtdcelfoomjahjaaW.PrintWords Go.Proofs.Ytdcelfoomjahjaa.PInodeDecodes
theorem nums_ats (xs : List Int) : numsOf xs 10 = ats (dirX xs) (at_ xs 40 4) (at_ xs 44 4) := by
  simp [numsOf, ats, dL, dirX, dirA, List.range_succ]
theorem le_at (xs : List Int) (a n : Nat) (hb : Byt xs) (h : a + n ≤ xs.length) : le (at_ xs a n) n = (xs.drop a).take n := by
  have hl : ((xs.drop a).take n).length = n := by rw [List.length_take, List.length_drop]; omega
  have h1 := le_num ((xs.drop a).take n) (fun u hu => hb u (List.mem_of_mem_drop (List.mem_of_mem_take hu)))
  rw [hl] at h1
  exact h1
theorem les_nums (xs : List Int) (hb : Byt xs) (j : Nat) (h : 8 + 4 * j ≤ xs.length) : les 4 (numsOf xs j) = (xs.drop 8).take (4 * j) := by
  induction j with
  | zero => simp [numsOf, les]
  | succ j ih =>
    have e : numsOf xs (j + 1) = numsOf xs j ++ [at_ xs (8 + 4 * j) 4] := by simp [numsOf, List.range_succ]
    have e2 : ∀ (a b : List Int), les 4 (a ++ b) = les 4 a ++ les 4 b := fun a b => by simp [les]
    have e3 : les 4 [at_ xs (8 + 4 * j) 4] = (xs.drop (8 + 4 * j)).take 4 := by rw [← le_at xs (8 + 4 * j) 4 hb (by omega)]; simp [les]
    rw [e, e2, ih (by omega), e3, show 4 * (j + 1) = 4 * j + 4 by omega, List.take_add, List.drop_drop]
theorem zeros_of (xs : List Int) (h : xs.all (· == 0) = true) : xs = List.replicate xs.length 0 := by
  refine List.eq_replicate_iff.2 ⟨rfl, fun x hx => ?_⟩
  simpa using List.all_eq_true.1 h x hx
theorem encL_dec (xs : List Int) (hb : Byt xs) (hl : xs.length = 64) (h1 : rd xs 1 = 0) (ht : (xs.drop 48).all (· == 0) = true) : encL (rd xs 0) (at_ xs 2 2) (at_ xs 4 4) (numsOf xs 10) = xs := by
  have h0 : rd xs 0 = xs[0] := by
    have := rd_get xs 0
    rw [List.getD_eq_getElem?_getD, List.getElem?_eq_getElem (show 0 < xs.length by omega)] at this
    exact this
  have h1' : xs[1] = 0 := by
    have := rd_get xs 1
    rw [List.getD_eq_getElem?_getD, List.getElem?_eq_getElem (show 1 < xs.length by omega)] at this
    exact this.symm.trans h1
  have hx := hb _ (List.getElem_mem (show 0 < xs.length by omega))
  have t2 : [rd xs 0 % 256, 0] = xs.take 2 := by
    rw [List.take_succ_eq_append_getElem (show 1 < xs.length by omega), List.take_succ_eq_append_getElem (show 0 < xs.length by omega), List.take_zero, h0, h1']
    have h6 : xs[0] % (256 : Int) = xs[0] := by omega
    rw [h6]
    rfl
  have t4 : xs.take 2 ++ le (at_ xs 2 2) 2 = xs.take 4 := by rw [le_at xs 2 2 hb (by omega), ← List.take_add]
  have t8 : xs.take 4 ++ le (at_ xs 4 4) 4 = xs.take 8 := by rw [le_at xs 4 4 hb (by omega), ← List.take_add]
  have t48 : xs.take 8 ++ les 4 (numsOf xs 10) = xs.take 48 := by rw [les_nums xs hb 10 (by omega), ← List.take_add]
  have hz : xs.drop 48 = List.replicate 16 0 := by
    have := zeros_of _ ht
    rwa [List.length_drop, hl] at this
  have hlt : (xs.take 48).length = 48 := by rw [List.length_take]; omega
  rw [encL, t2, t4, t8, t48, padL, hlt]
  show xs.take 48 ++ List.replicate 16 0 = xs
  rw [← hz, List.take_append_drop]
theorem at_zero (n a k : Nat) : at_ (List.replicate n 0) a k = 0 := by
  have h : ∀ m : Nat, num (List.replicate m 0) = 0 := by
    intro m
    induction m with
    | zero => rfl
    | succ m ih => rw [List.replicate_succ, num, ih]; rfl
  rw [at_, List.drop_replicate, List.take_replicate, h]
theorem dec_ok (xs : List Int) (hb : Byt xs) : decB xs = okB xs := by
  by_cases hl : xs.length = 64
  · have e0 := at_one xs 0 (by omega)
    have e1 := at_one xs 1 (by omega)
    rw [decB, okB, rightB, hl]
    have e0' : at_ xs 0 1 = rd xs 0 := e0
    have e1' : at_ xs 1 1 = rd xs 1 := e1
    rw [e0', e1']
    cases h1 : rd xs 1 == 0
    · simp
    · have h1' : rd xs 1 = 0 := by simpa using h1
      cases ht : (xs.drop 48).all (· == 0)
      · simp
      · by_cases hk : rd xs 0 = 0
        · have hen := encL_dec xs hb hl h1' ht
          have hemp : emptyB xs = xs.all (· == 0) := by
            rw [Bool.eq_iff_iff]
            constructor
            · intro he
              simp only [emptyB, inoEq, Bool.and_eq_true, beq_iff_eq, dirN] at he
              obtain ⟨_, hl2, hs2, ⟨⟨⟨⟨⟨⟨⟨d0, d1⟩, d2⟩, d3⟩, d4⟩, d5⟩, d6⟩, d7⟩, ha, hbb⟩ := he
              have hn : numsOf xs 10 = [0, 0, 0, 0, 0, 0, 0, 0, 0, 0] := by
                rw [nums_ats, ha, hbb]
                simp only [ats, dL]
                simp [List.range_succ, d0, d1, d2, d3, d4, d5, d6, d7]
              rw [hk, hl2, hs2, hn] at hen
              rw [← hen]
              decide
            · intro hz
              have hzz := zeros_of xs hz
              rw [hl] at hzz
              have hd : ∀ j, j < 8 → dirX xs j = 0 := by
                intro j hj
                rw [dirX, dirA, if_pos hj, hzz, at_zero]
              simp only [emptyB, inoEq, Bool.and_eq_true, beq_iff_eq, dirN, hd 0 (by omega), hd 1 (by omega), hd 2 (by omega), hd 3 (by omega), hd 4 (by omega), hd 5 (by omega), hd 6 (by omega), hd 7 (by omega)]
              rw [hzz]
              simp only [at_zero, and_self]
          rw [hemp, hk]
          simp
        · have : (rd xs 0 == 0) = false := by simpa using hk
          rw [this]
          simp
  · simp [decB, okB, hl]
/-- What Decode answers. -/
def DecR (xs : List Int) (k l s : Int) (d : Nat → Int) (a b e : Int) : Prop :=
  (okB xs = true ∧ e = 0 ∧ encL k l s (ats d a b) = xs ∧ dec17 xs = (k, l, s, ats d a b, 0)) ∨ (okB xs = false ∧ e = 62 ∧ k = 0 ∧ l = 0 ∧ s = 0 ∧ d = dirN ∧ a = 0 ∧ b = 0 ∧ dec17 xs = (0, 0, 0, [], 62))
def InoB (k l s : Int) (d : Nat → Int) (a b : Int) : Prop := (0 ≤ k ∧ k < 256) ∧ (0 ≤ l ∧ l < 65536) ∧ (0 ≤ s ∧ s < 4294967296) ∧ (∀ j, 0 ≤ d j ∧ d j < 4294967296) ∧ (0 ≤ a ∧ a < 4294967296) ∧ (0 ≤ b ∧ b < 4294967296)
theorem decode_r (A : Option Addr) (c : Nat) (xs : List Int) (w : World) (hr : ReadsInt w .u8 A xs.length xs) (hb : Byt xs) (hc : xs.length ≤ c) (hA : ∀ a, A = some a → a.block < w.heap.size) :
    Calls Try.prog 19 #[.slice A xs.length c] w fun e w' => Below w.heap.size w w' ∧ ∃ (k l s : Int) (d : Nat → Int) (a b : Int) (q : Int), e = .returned (.tuple #[.agg (decA k l s d a b), .int .i64 q]) ∧ DecR xs k l s d a b q ∧ InoB k l s d a b := by
  refine (decode_any A c xs w hr hb hc hA).mono ?_
  rintro e w' ⟨hbl, ⟨h1, rfl⟩ | ⟨h1, rfl⟩⟩
  · rw [dec_ok xs hb] at h1
    have h2 := h1
    simp only [okB, Bool.and_eq_true, decide_eq_true_eq, beq_iff_eq] at h2
    obtain ⟨hl, ⟨⟨hk2, hr1⟩, ht⟩, _⟩ := h2
    have e0 : at_ xs 0 1 = rd xs 0 := at_one xs 0 (by omega)
    have hen := encL_dec xs hb hl hr1 ht
    have b0 := at_bound xs 0 1 hb (by omega)
    have b2 := at_bound xs 2 2 hb (by omega)
    have b4 := at_bound xs 4 4 hb (by omega)
    have ba := at_bound xs 40 4 hb (by omega)
    have bb := at_bound xs 44 4 hb (by omega)
    have bd : ∀ j, 0 ≤ dirX xs j ∧ dirX xs j < 4294967296 := by
      intro j
      rw [dirX, dirA]
      split
      · exact at_bound xs _ 4 hb (by omega)
      · omega
    refine ⟨hbl, _, _, _, _, _, _, 0, rfl, .inl ⟨h1, rfl, ?_, ?_⟩, b0, b2, b4, bd, ba, bb⟩
    · rw [e0, ← nums_ats]; exact hen
    · rw [dec17, if_pos h1, e0, ← nums_ats]
  · rw [dec_ok xs hb] at h1
    refine ⟨hbl, 0, 0, 0, dirN, 0, 0, 62, rfl, .inr ⟨h1, rfl, rfl, rfl, rfl, rfl, rfl, rfl, ?_⟩, by omega, by omega, by omega, fun j => by simp [dirN], by omega, by omega⟩
    rw [dec17, h1]
    rfl
end Go.Proofs.Ytdcelfoomjahjaa
