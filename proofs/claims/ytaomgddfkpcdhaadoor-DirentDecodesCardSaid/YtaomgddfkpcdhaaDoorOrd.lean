import GoSem.Claim
import Derived.Lib.TrimU
import Derived.Lib.RuneCount
import Derived.Laws.Strings
/-! A text's runes, as the model's decoder gives them; the order of names: rune by rune, then byte by byte. -/
namespace Go.Proofs.YtaomgddfkpcdhaaDoor
/-- The runes of a text from a place on. -/
def runesF (s : ByteArray) : Nat → Nat → List Nat
  | 0, _ => []
  | k + 1, i => if i < s.size then (Utf8.decode s i).1 :: runesF s k (i + (Utf8.decode s i).2) else []
/-- Where each rune begins. -/
def startsF (s : ByteArray) : Nat → Nat → List Nat
  | 0, _ => []
  | k + 1, i => if i < s.size then i :: startsF s k (i + (Utf8.decode s i).2) else []
def runes (s : ByteArray) : List Nat := runesF s s.size 0
def starts (s : ByteArray) : List Nat := startsF s s.size 0
def nI (l : List Nat) : List Int := l.map fun x : Nat => (x : Int)
theorem runesF_end (s : ByteArray) (k i : Nat) (h : ¬ i < s.size) : runesF s k i = [] := by cases k <;> simp [runesF, h]
theorem startsF_end (s : ByteArray) (k i : Nat) (h : ¬ i < s.size) : startsF s k i = [] := by cases k <;> simp [startsF, h]
theorem runesF_fuel (s : ByteArray) : ∀ (k m i : Nat), s.size ≤ i + k → s.size ≤ i + m → runesF s k i = runesF s m i
  | 0, m, i, h, _ => by rw [runesF_end s m i (by omega)]; rfl
  | k + 1, 0, i, _, h => by rw [runesF_end s (k + 1) i (by omega)]; rfl
  | k + 1, m + 1, i, h, h2 => by
    unfold runesF
    have hw := Lib.width_pos s i
    by_cases hi : i < s.size
    · rw [if_pos hi, if_pos hi, runesF_fuel s k m _ (by omega) (by omega)]
    · rw [if_neg hi, if_neg hi]
theorem startsF_fuel (s : ByteArray) : ∀ (k m i : Nat), s.size ≤ i + k → s.size ≤ i + m → startsF s k i = startsF s m i
  | 0, m, i, h, _ => by rw [startsF_end s m i (by omega)]; rfl
  | k + 1, 0, i, _, h => by rw [startsF_end s (k + 1) i (by omega)]; rfl
  | k + 1, m + 1, i, h, h2 => by
    unfold startsF
    have hw := Lib.width_pos s i
    by_cases hi : i < s.size
    · rw [if_pos hi, if_pos hi, startsF_fuel s k m _ (by omega) (by omega)]
    · rw [if_neg hi, if_neg hi]
theorem runesF_step (s : ByteArray) (k i : Nat) (hi : i < s.size) (hk : s.size ≤ i + k) : runesF s k i = (Utf8.decode s i).1 :: runesF s k (i + (Utf8.decode s i).2) := by
  obtain ⟨k, rfl⟩ : ∃ m, k = m + 1 := ⟨k - 1, by omega⟩
  have hw := Lib.width_pos s i
  rw [runesF_fuel s (k + 1) k (i + (Utf8.decode s i).2) (by omega) (by omega)]
  conv => lhs; unfold runesF
  rw [if_pos hi]
theorem startsF_step (s : ByteArray) (k i : Nat) (hi : i < s.size) (hk : s.size ≤ i + k) : startsF s k i = i :: startsF s k (i + (Utf8.decode s i).2) := by
  obtain ⟨k, rfl⟩ : ∃ m, k = m + 1 := ⟨k - 1, by omega⟩
  have hw := Lib.width_pos s i
  rw [startsF_fuel s (k + 1) k (i + (Utf8.decode s i).2) (by omega) (by omega)]
  conv => lhs; unfold startsF
  rw [if_pos hi]
theorem runesF_length (s : ByteArray) : ∀ (k i : Nat), (runesF s k i).length ≤ s.size - i
  | 0, i => by simp [runesF]
  | k + 1, i => by
    have hw := Lib.width_pos s i
    have ih := runesF_length s k (i + (Utf8.decode s i).2)
    unfold runesF
    split
    · rw [List.length_cons]; omega
    · simp
theorem startsF_length (s : ByteArray) : ∀ (k i : Nat), (startsF s k i).length = (runesF s k i).length
  | 0, i => rfl
  | k + 1, i => by
    unfold startsF runesF
    split
    · rw [List.length_cons, List.length_cons, startsF_length s k]
    · rfl
theorem runes_length (s : ByteArray) : (runes s).length ≤ s.size := runesF_length s _ 0
theorem runesF_le (s : ByteArray) : ∀ (k i : Nat), ∀ r ∈ runesF s k i, r ≤ 1114111
  | 0, i => by simp [runesF]
  | k + 1, i => by
    unfold runesF
    split
    · intro r hr
      rcases List.mem_cons.1 hr with rfl | hr
      · exact Lib.rune_le s i
      · exact runesF_le s k _ r hr
    · simp
theorem runes_le (s : ByteArray) : ∀ r ∈ runes s, r ≤ 1114111 := runesF_le s _ _
/-- What '[]rune(s)' lays. -/
theorem conv_runes (s : ByteArray) : ∀ (k i : Nat) (acc : Array Value), Conv.runesFrom s k i acc = acc ++ ((runesF s k i).map fun r : Nat => Value.int .i32 (r : Int)).toArray
  | 0, i, acc => by simp [Conv.runesFrom, runesF]
  | k + 1, i, acc => by
    unfold Conv.runesFrom runesF
    by_cases hi : i < s.size
    · rw [if_pos hi, if_pos hi]
      simp only []
      rw [conv_runes s k]
      apply Array.ext'
      simp
    · rw [if_neg hi, if_neg hi]
      simp
/-- Letter by letter. -/
def ltL : List Nat → List Nat → Bool
  | _, [] => false
  | [], _ :: _ => true
  | a :: x, b :: y => if a = b then ltL x y else decide (a < b)
theorem ltL_irrefl : ∀ x : List Nat, ltL x x = false
  | [] => rfl
  | a :: x => by unfold ltL; rw [if_pos rfl]; exact ltL_irrefl x
theorem ltL_trans : ∀ {x y z : List Nat}, ltL x y = true → ltL y z = true → ltL x z = true
  | x, y, [], _, h => by cases y <;> simp [ltL] at h
  | [], y, c :: z, _, _ => by simp [ltL]
  | a :: x, [], c :: z, h, _ => by simp [ltL] at h
  | a :: x, b :: y, c :: z, h1, h2 => by
    unfold ltL at h1 h2 ⊢
    by_cases e1 : a = b
    · rw [if_pos e1] at h1
      by_cases e2 : b = c
      · rw [if_pos e2] at h2
        rw [if_pos (e1.trans e2)]
        exact ltL_trans h1 h2
      · rw [if_neg e2] at h2
        rw [if_neg (by omega)]
        simp at h2 ⊢; omega
    · rw [if_neg e1] at h1
      simp at h1
      by_cases e2 : b = c
      · rw [if_neg (by omega)]
        simp; omega
      · rw [if_neg e2] at h2
        simp at h2
        rw [if_neg (by omega)]
        simp; omega
theorem ltL_asymm {x y : List Nat} (h : ltL x y = true) : ltL y x = false := by
  cases h2 : ltL y x with
  | false => rfl
  | true => have h3 := ltL_trans h h2; rw [ltL_irrefl] at h3; cases h3
theorem ltL_total : ∀ (x y : List Nat), x ≠ y → ltL x y = true ∨ ltL y x = true
  | [], [], h => absurd rfl h
  | [], b :: y, _ => .inl rfl
  | a :: x, [], _ => .inr rfl
  | a :: x, b :: y, h => by
    by_cases e : a = b
    · subst e
      rcases ltL_total x y (fun e => h (by rw [e])) with h1 | h1
      · exact .inl (by unfold ltL; rw [if_pos rfl]; exact h1)
      · exact .inr (by unfold ltL; rw [if_pos rfl]; exact h1)
    · rcases Nat.lt_or_gt_of_ne e with h1 | h1
      · exact .inl (by unfold ltL; rw [if_neg e]; simpa using h1)
      · exact .inr (by unfold ltL; rw [if_neg (Ne.symm e)]; simpa using h1)
theorem bytesLess_eq : ∀ (x y : List UInt8), Op.bytesLess x y = ltL (x.map UInt8.toNat) (y.map UInt8.toNat)
  | [], [] => rfl
  | [], _ :: _ => rfl
  | _ :: _, [] => rfl
  | a :: x, b :: y => by
    unfold Op.bytesLess
    rw [List.map_cons, List.map_cons, ltL, bytesLess_eq x y]
    by_cases e : a = b
    · subst e; simp
    · have h1 : (a == b) = false := by simpa using e
      have h2 : ¬ a.toNat = b.toNat := fun h => e (UInt8.toNat_inj.1 h)
      rw [h1, if_neg h2]
      simp [UInt8.lt_iff_toNat_lt]
/-- The bytes of a text as numbers. -/
def natsOf (s : ByteArray) : List Nat := s.data.toList.map UInt8.toNat
theorem natsOf_inj {s t : ByteArray} (h : natsOf s = natsOf t) : s = t := by
  have h1 : s.data.toList = t.data.toList := (List.map_inj_right (fun a b e => UInt8.toNat_inj.1 e)).1 h
  cases s; cases t
  simp only [ByteArray.mk.injEq]
  exact Array.toList_inj.1 h1
/-- Does one name stand ahead of another? -/
def lessS (a b : ByteArray) : Bool := ltL (runes a) (runes b) || (decide (runes a = runes b) && ltL (natsOf a) (natsOf b))
theorem lessS_irrefl (a : ByteArray) : lessS a a = false := by simp [lessS, ltL_irrefl]
theorem lessS_trans {a b c : ByteArray} (h1 : lessS a b = true) (h2 : lessS b c = true) : lessS a c = true := by
  simp only [lessS, Bool.or_eq_true, Bool.and_eq_true, decide_eq_true_eq] at h1 h2 ⊢
  rcases h1 with h1 | ⟨h1, h1'⟩
  · rcases h2 with h2 | ⟨h2, h2'⟩
    · exact .inl (ltL_trans h1 h2)
    · exact .inl (h2 ▸ h1)
  · rcases h2 with h2 | ⟨h2, h2'⟩
    · exact .inl (h1 ▸ h2)
    · exact .inr ⟨h1.trans h2, ltL_trans h1' h2'⟩
theorem lessS_asymm {a b : ByteArray} (h : lessS a b = true) : lessS b a = false := by
  cases h2 : lessS b a with
  | false => rfl
  | true => have h3 := lessS_trans h h2; rw [lessS_irrefl] at h3; cases h3
theorem lessS_total (a b : ByteArray) (h : a ≠ b) : lessS a b = true ∨ lessS b a = true := by
  simp only [lessS, Bool.or_eq_true, Bool.and_eq_true, decide_eq_true_eq]
  by_cases e : runes a = runes b
  · rcases ltL_total (natsOf a) (natsOf b) (fun e2 => h (natsOf_inj e2)) with h1 | h1
    · exact .inl (.inr ⟨e, h1⟩)
    · exact .inr (.inr ⟨e.symm, h1⟩)
  · rcases ltL_total _ _ e with h1 | h1
    · exact .inl (.inl h1)
    · exact .inr (.inl h1)
/-- Not ahead: what stands ahead of the one stands ahead of the other. -/
theorem lessS_neg_trans {a b c : ByteArray} (h1 : lessS b a = false) (h2 : lessS c b = false) : lessS c a = false := by
  cases h3 : lessS c a with
  | false => rfl
  | true =>
    by_cases e : a = b
    · rw [← e, h3] at h2; cases h2
    · rcases lessS_total a b e with h4 | h4
      · rw [lessS_trans h3 h4] at h2; cases h2
      · rw [h4] at h1; cases h1
theorem ltL_app : ∀ (p u v : List Nat), ltL (p ++ u) (p ++ v) = ltL u v
  | [], _, _ => rfl
  | a :: p, u, v => by
    show ltL (a :: (p ++ u)) (a :: (p ++ v)) = _
    rw [ltL, if_pos rfl, ltL_app p u v]
theorem ltL_nil (u : List Nat) : ltL u [] = false := by cases u <;> rfl
/-- The first is longer, and begins with the second. -/
theorem lessS_long {a b : ByteArray} {j : Nat} (h : (runes a).take j = (runes b).take j) (h1 : j < (runes a).length) (h2 : (runes b).length ≤ j) : lessS a b = false := by
  have e : runes a = runes b ++ (runes a).drop j := by
    conv => lhs; rw [← List.take_append_drop j (runes a), h, List.take_of_length_le h2]
  have hne : ¬ runes a = runes b := fun e2 => by rw [e2] at h1; omega
  have hl : ltL (runes a) (runes b) = false := by
    have h_ := ltL_app (runes b) ((runes a).drop j) []
    rw [← e, List.append_nil, ltL_nil] at h_
    exact h_
  simp [lessS, hl, hne]
/-- They part at a letter. -/
theorem lessS_part {a b : ByteArray} {j : Nat} (h : (runes a).take j = (runes b).take j) (h1 : j < (runes a).length) (h2 : j < (runes b).length) (hne : (runes a)[j] ≠ (runes b)[j]) : lessS a b = decide ((runes a)[j] < (runes b)[j]) := by
  have hr : ¬ runes a = runes b := fun e => hne (by simp [e])
  have h_ := ltL_app ((runes a).take j) ((runes a).drop j) ((runes b).drop j)
  rw [List.take_append_drop, h, List.take_append_drop, List.drop_eq_getElem_cons h1, List.drop_eq_getElem_cons h2, ltL, if_neg hne] at h_
  simp [lessS, hr, h_]
/-- The second begins with the first. -/
theorem lessS_end {a b : ByteArray} (h : (runes a).take (runes a).length = (runes b).take (runes a).length) (hl : (runes a).length ≤ (runes b).length) :
    lessS a b = (decide ((runes a).length < (runes b).length) || (decide ((runes a).length = (runes b).length) && ltL (natsOf a) (natsOf b))) := by
  rw [List.take_length] at h
  have e : runes b = runes a ++ (runes b).drop (runes a).length := by
    conv => lhs; rw [← List.take_append_drop (runes a).length (runes b), ← h]
  have h_ := ltL_app (runes a) [] ((runes b).drop (runes a).length)
  rw [← e, List.append_nil] at h_
  by_cases he : (runes a).length = (runes b).length
  · have hd : (runes b).drop (runes a).length = [] := by rw [List.drop_eq_nil_iff]; omega
    rw [hd] at h_ e
    rw [List.append_nil] at e
    simp [lessS, he, e, ltL_irrefl]
  · have hlt : (runes a).length < (runes b).length := by omega
    cases hc : (runes b).drop (runes a).length with
    | nil => rw [List.drop_eq_nil_iff] at hc; omega
    | cons c r =>
      rw [hc] at h_
      simp [lessS, h_, hlt, ltL]
theorem bytesLess_nats (a b : ByteArray) : Op.bytesLess a.toList b.toList = ltL (natsOf a) (natsOf b) := by
  rw [bytesLess_eq, ByteArray.toList_eq, ByteArray.toList_eq]; rfl
/-- A name put among names in order. -/
def insS (x : ByteArray) : List ByteArray → List ByteArray
  | [] => [x]
  | y :: r => if lessS x y = true then x :: y :: r else y :: insS x r
/-- No later one stands ahead of an earlier one. -/
def SortedS (l : List ByteArray) : Prop := l.Pairwise fun a b => lessS b a = false
theorem insS_length (x : ByteArray) : ∀ l : List ByteArray, (insS x l).length = l.length + 1
  | [] => rfl
  | y :: r => by
    unfold insS
    split
    · rfl
    · rw [List.length_cons, insS_length x r, List.length_cons]
theorem insS_mem (x z : ByteArray) : ∀ l : List ByteArray, z ∈ insS x l ↔ z = x ∨ z ∈ l
  | [] => by simp [insS]
  | y :: r => by
    unfold insS
    split
    · simp
    · simp only [List.mem_cons, insS_mem x z r]
      constructor
      · rintro (h | h | h)
        · exact .inr (.inl h)
        · exact .inl h
        · exact .inr (.inr h)
      · rintro (h | h | h)
        · exact .inr (.inl h)
        · exact .inl h
        · exact .inr (.inr h)
theorem insS_count (x z : ByteArray) : ∀ l : List ByteArray, (insS x l).countP (fun y => decide (y = z)) = l.countP (fun y => decide (y = z)) + (if x = z then 1 else 0)
  | [] => by simp [insS, List.countP_cons]
  | y :: r => by
    unfold insS
    split
    · rw [List.countP_cons]; simp
    · rw [List.countP_cons, insS_count x z r, List.countP_cons]; omega
theorem insS_sorted (x : ByteArray) : ∀ l : List ByteArray, SortedS l → SortedS (insS x l)
  | [], _ => List.pairwise_singleton _ _
  | y :: r, h => by
    have hy := List.pairwise_cons.1 h
    unfold insS
    split
    · rename_i hxy
      refine List.pairwise_cons.2 ⟨fun z hz => ?_, h⟩
      rcases List.mem_cons.1 hz with rfl | hz
      · exact lessS_asymm hxy
      · cases hc : lessS z x with
        | false => rfl
        | true => have h2 := lessS_trans hc hxy; rw [hy.1 z hz] at h2; cases h2
    · rename_i hxy
      refine List.pairwise_cons.2 ⟨fun z hz => ?_, insS_sorted x r hy.2⟩
      rcases (insS_mem x z r).1 hz with rfl | hz
      · simpa using hxy
      · exact hy.1 z hz
/-- Put in from behind it is the same. -/
theorem insS_at (x : ByteArray) : ∀ (l : List ByteArray) (k : Nat), SortedS l → k ≤ l.length → (∀ j, k ≤ j → j < l.length → lessS x (l.getD j ByteArray.empty) = true) → (k = 0 ∨ lessS x (l.getD (k - 1) ByteArray.empty) = false) →
    l.take k ++ ([x] ++ l.drop k) = insS x l
  | [], k, _, hk, _, _ => by
    obtain rfl : k = 0 := by simpa using hk
    rfl
  | y :: r, 0, _, _, h1, _ => by
    have h0 := h1 0 (Nat.le_refl _) (by simp)
    rw [List.getD_cons_zero] at h0
    unfold insS
    rw [if_pos h0]
    simp
  | y :: r, k + 1, hs, hk, h1, h2 => by
    have hy := List.pairwise_cons.1 hs
    have hn : lessS x y = false := by
      rcases h2 with h2 | h2
      · cases h2
      · cases k with
        | zero => simpa using h2
        | succ k =>
          have hl : k < r.length := by simp at hk; omega
          have e : (y :: r).getD (k + 1 + 1 - 1) ByteArray.empty = r[k] := by simp [List.getD_eq_getElem?_getD, hl]
          rw [e] at h2
          exact lessS_neg_trans (hy.1 _ (List.getElem_mem hl)) h2
    have ih := insS_at x r k hy.2 (by simpa using hk) (fun j hj hl => by have h_ := h1 (j + 1) (by omega) (by simp; omega); rwa [List.getD_cons_succ] at h_) (by
      rcases h2 with h2 | h2
      · cases h2
      · cases k with
        | zero => exact .inl rfl
        | succ k => exact .inr (by rw [show k + 1 + 1 - 1 = k + 1 by omega, List.getD_cons_succ] at h2; rw [show k + 1 - 1 = k by omega]; exact h2))
    unfold insS
    rw [hn]
    simp only [Bool.false_eq_true, if_false, List.take_succ_cons, List.drop_succ_cons, List.cons_append]
    rw [← ih]
    simp
/-- All letters? -/
def allF (s : ByteArray) : Nat → Nat → Bool
  | 0, _ => true
  | k + 1, i => if i < s.size then !decide ((Utf8.decode s i).1 = 65533 ∧ (Utf8.decode s i).2 = 1) && allF s k (i + (Utf8.decode s i).2) else true
/-- A letter that no name has. -/
def badR (r : Nat) : Bool := r == 47 || decide (r < 32) || r == 127
/-- May it be a name? -/
def chkS (s : ByteArray) : Int :=
  if s.toList = [] ∨ s.toList = [46] ∨ s.toList = [46, 46] then 22 else if 24 < s.size then 36 else if allF s s.size 0 = false then 22 else if (runes s).any badR = true then 22 else 0
end Go.Proofs.YtaomgddfkpcdhaaDoor
