import Derived.Test.YtffalemndjampaaCrc
/-! Up to 32 turned bits in a row are told by the sum. Plain law. -/
namespace Go.Proofs.Ytffalemndjampaa
def crcBit (b : Bool) : BitVec 32 := if b then 1#32 else 0#32
def crcV (x : Int) : BitVec 32 := BitVec.ofNat 32 x.toNat
def crcS (s : BitVec 32) (l : List Int) : BitVec 32 := crcB s (l.map crcV)
/-- The sum of bytes. -/
def crcOf (l : List Int) : Int := ((~~~ (crcS (~~~ 0#32) l)).toNat : Int)
theorem crcOf_bound (l : List Int) : 0 ≤ crcOf l ∧ crcOf l < 4294967296 := by
  have h := (~~~ (crcS (~~~ 0#32) l)).isLt
  unfold crcOf
  omega
theorem crcOf_inj {l m : List Int} (h : crcOf l = crcOf m) : crcS (~~~ 0#32) l = crcS (~~~ 0#32) m := by
  unfold crcOf at h
  have h1 : ~~~ (crcS (~~~ 0#32) l) = ~~~ (crcS (~~~ 0#32) m) := BitVec.eq_of_toNat_eq (by omega)
  have h2 : ~~~ (~~~ (crcS (~~~ 0#32) l)) = ~~~ (~~~ (crcS (~~~ 0#32) m)) := by rw [h1]
  simpa using h2
theorem crcN_T : ∀ (n : Nat) (s : BitVec 32), crcN n (crcT s) = crcT (crcN n s)
  | 0, _ => rfl
  | n + 1, s => by rw [crcN, crcN_T n, crcN]
theorem crcT_null : crcT 0#32 = 0#32 := by decide
theorem crcN_null : ∀ n : Nat, crcN n 0#32 = 0#32
  | 0 => rfl
  | n + 1 => by rw [crcN, crcT_null, crcN_null n]
theorem crcT_one : ∀ n, n < 31 → crcT (1#32 <<< (n + 1)) = 1#32 <<< n := by decide
theorem crcN_one : ∀ n, n < 32 → crcN n (1#32 <<< n) = 1#32
  | 0, _ => rfl
  | n + 1, h => by rw [crcN, crcT_one n (by omega), crcN_one n (by omega)]
/-- The lowest bits of a number, one more. -/
theorem low_succ (c k : Nat) (hk : k < 32) : BitVec.ofNat 32 (c % 2 ^ (k + 1)) = BitVec.ofNat 32 (c % 2 ^ k) ^^^ (if c.testBit k then 1#32 <<< k else 0#32) := by
  apply BitVec.eq_of_getLsbD_eq
  intro i hi
  rw [BitVec.getLsbD_xor, BitVec.getLsbD_ofNat, BitVec.getLsbD_ofNat, Nat.testBit_mod_two_pow, Nat.testBit_mod_two_pow]
  rcases Nat.lt_trichotomy i k with h | h | h
  · have e : (if c.testBit k then 1#32 <<< k else 0#32).getLsbD i = false := by
      split
      · rw [BitVec.getLsbD_shiftLeft]; simp [h]
      · simp
    rw [e]
    simp [hi, h, show i < k + 1 by omega]
  · subst h
    cases hc : c.testBit i
    · simp
    · simp [hi]
  · have e : (if c.testBit k then 1#32 <<< k else 0#32).getLsbD i = false := by
      split
      · rw [BitVec.getLsbD_shiftLeft]
        have : i - k ≠ 0 := by omega
        simp [BitVec.getLsbD_one, this]
      · simp
    rw [e]
    simp [hi, show ¬ i < k + 1 by omega, show ¬ i < k by omega]
/-- The state behind n bits. -/
def crcM (s : BitVec 32) (f : Nat → Bool) : Nat → BitVec 32
  | 0 => s
  | n + 1 => crcT (crcM s f n ^^^ crcBit (f n))
theorem crcM_add (s : BitVec 32) (f : Nat → Bool) (a : Nat) : ∀ n, crcM s f (a + n) = crcM (crcM s f a) (fun i => f (a + i)) n
  | 0 => rfl
  | n + 1 => by rw [← Nat.add_assoc, crcM, crcM, crcM_add s f a n]
theorem crcM_congr (s : BitVec 32) {f g : Nat → Bool} : ∀ n, (∀ i, i < n → f i = g i) → crcM s f n = crcM s g n
  | 0, _ => rfl
  | n + 1, h => by rw [crcM, crcM, crcM_congr s n (fun i hi => h i (by omega)), h n (by omega)]
theorem crcM_xor (s t : BitVec 32) (f g : Nat → Bool) : ∀ n, crcM (s ^^^ t) (fun i => f i ^^ g i) n = crcM s f n ^^^ crcM t g n
  | 0 => rfl
  | n + 1 => by
    have e : crcBit (f n ^^ g n) = crcBit (f n) ^^^ crcBit (g n) := by cases f n <;> cases g n <;> rfl
    rw [crcM, crcM, crcM, crcM_xor s t f g n, e, ← crcT_xor]
    congr 1
    ac_rfl
/-- Bits of a number, one by one, are the number at once. -/
theorem crcM_low (s : BitVec 32) (c : Nat) : ∀ k, k ≤ 32 → crcM s (fun i => c.testBit i) k = crcN k (s ^^^ BitVec.ofNat 32 (c % 2 ^ k))
  | 0, _ => by simp [crcM, crcN, Nat.mod_one]
  | k + 1, h => by
    rw [crcM, crcM_low s c k (by omega), low_succ c k (by omega), crcN, crcN_T, ← BitVec.xor_assoc, crcN_xor k (s ^^^ _)]
    congr 2
    cases c.testBit k
    · simp [crcBit, crcN_null]
    · simp [crcBit, crcN_one k (by omega)]
theorem crcM_zero : ∀ n, crcM 0#32 (fun _ => false) n = 0#32
  | 0 => rfl
  | n + 1 => by rw [crcM, crcM_zero n]; decide
theorem crcM_run (s : BitVec 32) : ∀ n, crcM s (fun _ => false) n = crcN n s
  | 0 => rfl
  | n + 1 => by rw [crcM, crcM_run s n, crcN, crcN_T]; simp [crcBit]
/-- A row's bits. -/
def bitAt (l : List Int) (n : Nat) : Bool := ((l.getD (n / 8) 0).toNat).testBit (n % 8)
def BytN (l : List Int) : Prop := ∀ x ∈ l, 0 ≤ x ∧ x < 256
theorem crcS_bits (s : BitVec 32) (l : List Int) (h : BytN l) : crcS s l = crcM s (bitAt l) (8 * l.length) := by
  suffices H : ∀ k, k ≤ l.length → crcS s (l.take k) = crcM s (bitAt l) (8 * k) by
    have h_ := H l.length (Nat.le_refl _)
    rwa [List.take_length] at h_
  intro k
  induction k with
  | zero => intro _; rfl
  | succ k ih =>
    intro hk
    have hlt : k < l.length := by omega
    have hx := h l[k] (List.getElem_mem _)
    rw [List.take_succ_eq_append_getElem hlt, show crcS s (l.take k ++ [l[k]]) = crcB (crcS s (l.take k)) (List.map crcV [l[k]]) from by rw [crcS, crcS, List.map_append, crcB_append], ih (by omega), Nat.mul_succ, crcM_add]
    have e := crcM_low (crcM s (bitAt l) (8 * k)) (l[k]).toNat 8 (by omega)
    have e1 : (l[k]).toNat % 2 ^ 8 = (l[k]).toNat := Nat.mod_eq_of_lt (by omega)
    rw [e1] at e
    rw [show crcB (crcM s (bitAt l) (8 * k)) (List.map crcV [l[k]]) = crcN 8 (crcM s (bitAt l) (8 * k) ^^^ BitVec.ofNat 32 (l[k]).toNat) from rfl, ← e]
    refine crcM_congr _ 8 fun i hi => ?_
    rw [bitAt, show (8 * k + i) / 8 = k by omega, show (8 * k + i) % 8 = i by omega, List.getD_eq_getElem?_getD, List.getElem?_eq_getElem hlt]
    rfl
/-- What is turned within a row of 32 bits is told. -/
theorem crc_turned (s : BitVec 32) {l m : List Int} (hl : BytN l) (hm : BytN m) (hn : m.length = l.length) (at_ bits : Nat) (h32 : bits < 2 ^ 32) (h0 : bits ≠ 0) (ha : at_ + 32 ≤ 8 * l.length)
    (hb : ∀ n, n < 8 * l.length → bitAt m n = (bitAt l n ^^ (decide (at_ ≤ n) && bits.testBit (n - at_)))) : crcS s m ≠ crcS s l := by
  intro e
  rw [crcS_bits s l hl, crcS_bits s m hm, hn, crcM_congr s (8 * l.length) hb] at e
  have e2 := crcM_xor s 0#32 (bitAt l) (fun n => decide (at_ ≤ n) && bits.testBit (n - at_)) (8 * l.length)
  rw [BitVec.xor_zero, e] at e2
  have e3 : crcM 0#32 (fun n => decide (at_ ≤ n) && bits.testBit (n - at_)) (8 * l.length) = 0#32 := by
    have h_ := congrArg (fun z => crcM s (bitAt l) (8 * l.length) ^^^ z) e2
    simp only [← BitVec.xor_assoc, BitVec.xor_self, BitVec.zero_xor] at h_
    exact h_.symm
  obtain ⟨r, hr⟩ : ∃ r, 8 * l.length = at_ + 32 + r := ⟨8 * l.length - (at_ + 32), by omega⟩
  have hhi : ∀ j, 32 ≤ j → bits.testBit j = false := fun j hj => Nat.testBit_lt_two_pow (Nat.lt_of_lt_of_le h32 (Nat.pow_le_pow_right (by omega) hj))
  rw [hr, crcM_add, crcM_add] at e3
  have a1 : crcM 0#32 (fun n => decide (at_ ≤ n) && bits.testBit (n - at_)) at_ = 0#32 := by
    rw [crcM_congr (g := fun _ => false) _ _ (fun i hi => by simp; intro h; omega), crcM_zero]
  rw [a1] at e3
  have a2 : crcM 0#32 (fun i => decide (at_ ≤ at_ + i) && bits.testBit (at_ + i - at_)) 32 = crcN 32 (BitVec.ofNat 32 bits) := by
    rw [crcM_congr (g := fun i => bits.testBit i) _ _ (fun i hi => by simp), crcM_low _ _ 32 (by omega), Nat.mod_eq_of_lt h32, BitVec.zero_xor]
  rw [a2] at e3
  have a3 : crcM (crcN 32 (BitVec.ofNat 32 bits)) (fun i => decide (at_ ≤ at_ + 32 + i) && bits.testBit (at_ + 32 + i - at_)) r = crcN r (crcN 32 (BitVec.ofNat 32 bits)) := by
    rw [crcM_congr (g := fun _ => false) _ _ (fun i hi => by rw [hhi _ (by omega), Bool.and_false]), crcM_run]
  rw [a3] at e3
  have b1 := crcN_inj r (e3.trans (crcN_null r).symm)
  have b2 := crcN_inj 32 (b1.trans (crcN_null 32).symm)
  have b3 := congrArg BitVec.toNat b2
  simp at b3
  omega
/-- One other byte is told. -/
theorem crc_byte (s : BitVec 32) (a b : List Int) (x y : Int) (hx : 0 ≤ x ∧ x < 256) (hy : 0 ≤ y ∧ y < 256) (h : crcS s (a ++ x :: b) = crcS s (a ++ y :: b)) : x = y := by
  rw [crcS, crcS, List.map_append, List.map_append, crcB_append, crcB_append, List.map_cons, List.map_cons] at h
  have h1 := crcB_inj (b.map crcV) (a := crcN 8 (crcB s (a.map crcV) ^^^ crcV x)) (b := crcN 8 (crcB s (a.map crcV) ^^^ crcV y)) h
  have h2 := crcN_inj 8 h1
  have h3 := congrArg (fun z => crcB s (a.map crcV) ^^^ z) h2
  simp only [← BitVec.xor_assoc, BitVec.xor_self, BitVec.zero_xor] at h3
  have h4 := congrArg BitVec.toNat h3
  simp [crcV] at h4
  omega
/-- The turning, bit by bit. -/
def flipB (l : List Int) (n : Nat) : List Int := l.set (n / 8) (((l.getD (n / 8) 0).toNat ^^^ 2 ^ (n % 8) : Nat) : Int)
def turnB (l : List Int) (at_ bits : Nat) : Nat → List Int
  | 0 => l
  | i + 1 => if bits.testBit i then flipB (turnB l at_ bits i) (at_ + i) else turnB l at_ bits i
theorem flipB_length (l : List Int) (n : Nat) : (flipB l n).length = l.length := by simp [flipB]
theorem turnB_length (l : List Int) (a b : Nat) : ∀ i, (turnB l a b i).length = l.length
  | 0 => rfl
  | i + 1 => by rw [turnB]; split <;> simp [flipB_length, turnB_length l a b i]
theorem flipB_byt {l : List Int} (h : BytN l) (n : Nat) : BytN (flipB l n) := by
  intro x hx
  rcases List.mem_or_eq_of_mem_set hx with hx | rfl
  · exact h x hx
  · have h1 : (l.getD (n / 8) 0).toNat < 2 ^ 8 := by
      rw [List.getD_eq_getElem?_getD]
      rcases Nat.lt_or_ge (n / 8) l.length with hi | hi
      · rw [List.getElem?_eq_getElem hi]
        have := h l[n / 8] (List.getElem_mem _)
        simp; omega
      · rw [List.getElem?_eq_none hi]; simp
    have h2 : 2 ^ (n % 8) < 2 ^ 8 := Nat.pow_lt_pow_right (by omega) (by omega)
    have := Nat.xor_lt_two_pow h1 h2
    omega
theorem turnB_byt {l : List Int} (h : BytN l) (a b : Nat) : ∀ i, BytN (turnB l a b i)
  | 0 => h
  | i + 1 => by rw [turnB]; split; exact flipB_byt (turnB_byt h a b i) _; exact turnB_byt h a b i
theorem flipB_bit (l : List Int) (n m : Nat) (hn : n < 8 * l.length) : bitAt (flipB l n) m = (bitAt l m ^^ decide (m = n)) := by
  rw [bitAt, bitAt, flipB, List.getD_eq_getElem?_getD, List.getElem?_set]
  by_cases h : n / 8 = m / 8
  · rw [if_pos h, if_pos (by omega)]
    simp only [Option.getD_some, Int.toNat_natCast, Nat.testBit_xor, Nat.testBit_two_pow, h]
    congr 1
    rw [decide_eq_decide]
    omega
  · rw [if_neg h, ← List.getD_eq_getElem?_getD]
    have : m ≠ n := fun e => h (by rw [e])
    simp [this]
theorem turnB_bit (l : List Int) (a b : Nat) (ha : a + 32 ≤ 8 * l.length) : ∀ i, i ≤ 32 → ∀ m, bitAt (turnB l a b i) m = (bitAt l m ^^ (decide (a ≤ m ∧ m < a + i) && b.testBit (m - a)))
  | 0, _, m => by rw [turnB, decide_eq_false (by omega), Bool.false_and, Bool.xor_false]
  | i + 1, h, m => by
    have ih := turnB_bit l a b ha i (by omega) m
    rw [turnB]
    by_cases e : m = a + i
    · subst e
      have e1 : decide (a ≤ a + i ∧ a + i < a + i) = false := by simp
      have e2 : decide (a ≤ a + i ∧ a + i < a + (i + 1)) = true := by simp
      rw [e1, Bool.false_and, Bool.xor_false] at ih
      rw [e2, Bool.true_and, show a + i - a = i by omega]
      cases hb : b.testBit i
      · simp [ih]
      · simp [flipB_bit _ _ _ (show a + i < 8 * (turnB l a b i).length by rw [turnB_length]; omega), ih]
    · have e1 : decide (a ≤ m ∧ m < a + i) = decide (a ≤ m ∧ m < a + (i + 1)) := by rw [decide_eq_decide]; omega
      rw [← e1, ← ih]
      split
      · rw [flipB_bit _ _ _ (show a + i < 8 * (turnB l a b i).length by rw [turnB_length]; omega)]
        simp [e]
      · rfl
theorem turnB_told (s : BitVec 32) {l : List Int} (hl : BytN l) (a b : Nat) (h32 : b < 2 ^ 32) (h0 : b ≠ 0) (ha : a + 32 ≤ 8 * l.length) : crcS s (turnB l a b 32) ≠ crcS s l := by
  refine crc_turned s hl (turnB_byt hl a b 32) (turnB_length l a b 32) a b h32 h0 ha fun n hn => ?_
  rw [turnB_bit l a b ha 32 (by omega) n]
  by_cases h1 : n < a + 32
  · simp [h1]
  · have : b.testBit (n - a) = false := Nat.testBit_lt_two_pow (Nat.lt_of_lt_of_le h32 (Nat.pow_le_pow_right (by omega) (by omega)))
    simp [this]
end Go.Proofs.Ytffalemndjampaa
