import Derived.Test.YtkbjndfmbimjiaaMcrc
import Derived.Test.YtkbjndfmbimjiaaReg
/-! Package record: what a header's bytes are, and when bytes are one. Plain law. -/
set_option linter.unusedVariables false
set_option linter.unusedSimpArgs false
namespace Go.Proofs.Ytkbjndfmbimjiaa
open Go.RowKit Go.Proofs.YtkbjndfmbimjiaaW.PrintWords
/-- A header's numbers. -/
structure Hd where
  k : Int
  e : Int
  b : Int
  i : Int
  c : Int
  l : Int
  m : Int
structure Hd.ok (h : Hd) : Prop where
  k0 : 0 ≤ h.k
  k1 : h.k < 256
  e0 : 0 ≤ h.e
  e1 : h.e < 4294967296
  b0 : 0 ≤ h.b
  b1 : h.b < 4294967296
  i0 : 0 ≤ h.i
  i1 : h.i < 65536
  c0 : 0 ≤ h.c
  c1 : h.c < 65536
  l0 : 0 ≤ h.l
  l1 : h.l < 4294967296
  m0 : 0 ≤ h.m
  m1 : h.m < 4294967296
def hd0 : Hd := ⟨0, 0, 0, 0, 0, 0, 0⟩
/-- The number of n bytes at a place. -/
def at_ (xs : List Int) (k n : Nat) : Int := num ((xs.drop k).take n)
theorem at_bound (xs : List Int) (a n : Nat) (hb : Byt xs) (hn : n ≤ 4) : 0 ≤ at_ xs a n ∧ at_ xs a n < 256 ^ n := by
  have h := num_bound ((xs.drop a).take n) (fun x hx => hb x (List.drop_subset _ _ (List.take_subset _ _ hx)))
  have hl : ((xs.drop a).take n).length ≤ n := by rw [List.length_take]; omega
  refine ⟨h.1, Int.lt_of_lt_of_le h.2 ?_⟩
  exact pow256 _ hl hn
/-- A header's bytes ahead of its sum. -/
def fieldsL (h : Hd) : List Int := le 22356 2 ++ (le h.k 1 ++ (le 0 1 ++ (le h.e 4 ++ (le h.b 4 ++ (le h.i 2 ++ (le h.c 2 ++ (le h.l 4 ++ le h.m 4)))))))
theorem fieldsL_length (h : Hd) : (fieldsL h).length = 24 := by simp [fieldsL, le_length]
def tailL (xs : List Int) : List Int := padL (xs.take 32) 32
theorem tailL_length (xs : List Int) : (tailL xs).length = 32 := by
  rw [tailL, padL, List.length_append, List.length_replicate, List.length_take, show (32 : Int).toNat = 32 from rfl]; omega
theorem byt_append {a b : List Int} (ha : Byt a) (hb : Byt b) : Byt (a ++ b) := fun x hx => by
  rcases List.mem_append.1 hx with h | h
  · exact ha x h
  · exact hb x h
theorem byt_rep (n : Nat) : Byt (List.replicate n 0) := fun x hx => by obtain ⟨_, rfl⟩ := List.mem_replicate.1 hx; omega
theorem tailL_byt {xs : List Int} (h : Byt xs) : Byt (tailL xs) := byt_append (fun x hx => h x (List.take_subset _ _ hx)) (byt_rep _)
theorem tailL_self {xs : List Int} (h : xs.length = 32) : tailL xs = xs := by
  rw [tailL, padL, List.take_of_length_le (by omega), h, show (32 : Int).toNat - 32 = 0 from rfl, List.replicate_zero, List.append_nil]
theorem fieldsL_byt (h : Hd) : Byt (fieldsL h) := by
  unfold fieldsL
  exact byt_append (le_byt _ _) (byt_append (le_byt _ _) (byt_append (le_byt _ _) (byt_append (le_byt _ _) (byt_append (le_byt _ _) (byt_append (le_byt _ _) (byt_append (le_byt _ _) (byt_append (le_byt _ _) (le_byt _ _))))))))
def sumL (h : Hd) (data bes : List Int) : Int := crcOf (fieldsL h ++ data ++ tailL bes)
/-- What stands beside a page. -/
def sealL (h : Hd) (data bes : List Int) : List Int := fieldsL h ++ (le (sumL h data bes) 4 ++ (le 0 4 ++ tailL bes))
theorem sealL_length (h : Hd) (data bes : List Int) : (sealL h data bes).length = 64 := by simp [sealL, fieldsL_length, le_length, tailL_length]
theorem sealL_byt (h : Hd) (data : List Int) {bes : List Int} (hb : Byt bes) : Byt (sealL h data bes) :=
  byt_append (fieldsL_byt h) (byt_append (le_byt _ _) (byt_append (le_byt _ _) (tailL_byt hb)))
def openH (o : List Int) : Hd := ⟨at_ o 2 1, at_ o 4 4, at_ o 8 4, at_ o 12 2, at_ o 14 2, at_ o 16 4, at_ o 20 4⟩
theorem openH_ok {o : List Int} (hb : Byt o) : (openH o).ok := by
  have a1 := at_bound o 2 1 hb (by omega)
  have a2 := at_bound o 4 4 hb (by omega)
  have a3 := at_bound o 8 4 hb (by omega)
  have a4 := at_bound o 12 2 hb (by omega)
  have a5 := at_bound o 14 2 hb (by omega)
  have a6 := at_bound o 16 4 hb (by omega)
  have a7 := at_bound o 20 4 hb (by omega)
  constructor <;> simp [openH] <;> omega
/-- What Open asks behind the length. -/
def rightO (data o : List Int) : Bool := at_ o 0 2 == 22356 && (at_ o 3 1 == 0 && (at_ o 28 4 == 0 && at_ o 24 4 == crcOf (o.take 24 ++ data ++ o.drop 32)))
theorem right_no {data o : List Int} (hs : at_ o 24 4 ≠ crcOf (o.take 24 ++ data ++ o.drop 32)) : rightO data o = false := by rw [rightO, beq_eq_false_iff_ne.2 hs]; simp
def openB (data o : List Int) : Bool := decide (o.length = 64) && (rightO data o && (decide (1 ≤ at_ o 2 1) && decide (at_ o 2 1 ≤ 6)))
theorem at_app (a b : List Int) (k n : Nat) (h : a.length = k) : at_ (a ++ b) k n = num (b.take n) := by
  rw [at_, List.drop_append_of_le_length (by omega), List.drop_of_length_le (by omega), List.nil_append]
theorem at_le {xs a b : List Int} {k n : Nat} {x : Int} (e : xs = a ++ (le x n ++ b)) (h : a.length = k) (h0 : 0 ≤ x) (h1 : x < 256 ^ n) : at_ xs k n = x := by
  rw [e, at_app a _ k n h, List.take_append_of_le_length (by rw [le_length]; omega), List.take_of_length_le (by rw [le_length]; omega), num_le x n h0 h1]
theorem le_at {xs : List Int} (hb : Byt xs) (k n : Nat) (h : k + n ≤ xs.length) : le (at_ xs k n) n = (xs.drop k).take n := by
  have hl : ((xs.drop k).take n).length = n := by rw [List.length_take, List.length_drop]; omega
  have h_ := le_num ((xs.drop k).take n) (fun x hx => hb x (List.drop_subset _ _ (List.take_subset _ _ hx)))
  rw [hl] at h_
  exact h_
section
variable (h : Hd) (data bes : List Int)
theorem seal_take : (sealL h data bes).take 24 = fieldsL h := by
  rw [sealL, List.take_append_of_le_length (by rw [fieldsL_length]; omega), List.take_of_length_le (by rw [fieldsL_length]; omega)]
theorem seal_drop : (sealL h data bes).drop 32 = tailL bes := by
  have e : sealL h data bes = (fieldsL h ++ (le (sumL h data bes) 4 ++ le 0 4)) ++ tailL bes := by simp [sealL]
  have hl : (fieldsL h ++ (le (sumL h data bes) 4 ++ le 0 4)).length = 32 := by simp [fieldsL_length, le_length]
  rw [e, List.drop_append_of_le_length (by omega), List.drop_of_length_le (by omega), List.nil_append]
theorem seal_sum : at_ (sealL h data bes) 24 4 = sumL h data bes := by
  have hb := crcOf_bound (fieldsL h ++ data ++ tailL bes)
  exact at_le (a := fieldsL h) rfl (fieldsL_length h) hb.1 hb.2
theorem seal_rest : at_ (sealL h data bes) 28 4 = 0 :=
  at_le (a := fieldsL h ++ le (sumL h data bes) 4) (b := tailL bes) (by simp [sealL]) (by simp [fieldsL_length, le_length]) (by omega) (by decide)
variable {h}
theorem seal_magic : at_ (sealL h data bes) 0 2 = 22356 :=
  at_le (a := []) (b := (le h.k 1 ++ (le 0 1 ++ (le h.e 4 ++ (le h.b 4 ++ (le h.i 2 ++ (le h.c 2 ++ (le h.l 4 ++ le h.m 4))))))) ++ (le (sumL h data bes) 4 ++ (le 0 4 ++ tailL bes))) (by simp [sealL, fieldsL]) rfl (by omega) (by decide)
theorem seal_zero : at_ (sealL h data bes) 3 1 = 0 :=
  at_le (a := le 22356 2 ++ le h.k 1) (b := (le h.e 4 ++ (le h.b 4 ++ (le h.i 2 ++ (le h.c 2 ++ (le h.l 4 ++ le h.m 4))))) ++ (le (sumL h data bes) 4 ++ (le 0 4 ++ tailL bes))) (by simp [sealL, fieldsL]) (by simp [le_length]) (by omega) (by decide)
theorem seal_head (ho : h.ok) : openH (sealL h data bes) = h := by
  have a1 : at_ (sealL h data bes) 2 1 = h.k := at_le (a := le 22356 2) (b := (le 0 1 ++ (le h.e 4 ++ (le h.b 4 ++ (le h.i 2 ++ (le h.c 2 ++ (le h.l 4 ++ le h.m 4)))))) ++ (le (sumL h data bes) 4 ++ (le 0 4 ++ tailL bes))) (by simp [sealL, fieldsL]) (by simp [le_length]) ho.k0 (by have := ho.k1; omega)
  have a2 : at_ (sealL h data bes) 4 4 = h.e := at_le (a := le 22356 2 ++ (le h.k 1 ++ le 0 1)) (b := (le h.b 4 ++ (le h.i 2 ++ (le h.c 2 ++ (le h.l 4 ++ le h.m 4)))) ++ (le (sumL h data bes) 4 ++ (le 0 4 ++ tailL bes))) (by simp [sealL, fieldsL]) (by simp [le_length]) ho.e0 (by have := ho.e1; omega)
  have a3 : at_ (sealL h data bes) 8 4 = h.b := at_le (a := le 22356 2 ++ (le h.k 1 ++ (le 0 1 ++ le h.e 4))) (b := (le h.i 2 ++ (le h.c 2 ++ (le h.l 4 ++ le h.m 4))) ++ (le (sumL h data bes) 4 ++ (le 0 4 ++ tailL bes))) (by simp [sealL, fieldsL]) (by simp [le_length]) ho.b0 (by have := ho.b1; omega)
  have a4 : at_ (sealL h data bes) 12 2 = h.i := at_le (a := le 22356 2 ++ (le h.k 1 ++ (le 0 1 ++ (le h.e 4 ++ le h.b 4)))) (b := (le h.c 2 ++ (le h.l 4 ++ le h.m 4)) ++ (le (sumL h data bes) 4 ++ (le 0 4 ++ tailL bes))) (by simp [sealL, fieldsL]) (by simp [le_length]) ho.i0 (by have := ho.i1; omega)
  have a5 : at_ (sealL h data bes) 14 2 = h.c := at_le (a := le 22356 2 ++ (le h.k 1 ++ (le 0 1 ++ (le h.e 4 ++ (le h.b 4 ++ le h.i 2))))) (b := (le h.l 4 ++ le h.m 4) ++ (le (sumL h data bes) 4 ++ (le 0 4 ++ tailL bes))) (by simp [sealL, fieldsL]) (by simp [le_length]) ho.c0 (by have := ho.c1; omega)
  have a6 : at_ (sealL h data bes) 16 4 = h.l := at_le (a := le 22356 2 ++ (le h.k 1 ++ (le 0 1 ++ (le h.e 4 ++ (le h.b 4 ++ (le h.i 2 ++ le h.c 2)))))) (b := le h.m 4 ++ (le (sumL h data bes) 4 ++ (le 0 4 ++ tailL bes))) (by simp [sealL, fieldsL]) (by simp [le_length]) ho.l0 (by have := ho.l1; omega)
  have a7 : at_ (sealL h data bes) 20 4 = h.m := at_le (a := le 22356 2 ++ (le h.k 1 ++ (le 0 1 ++ (le h.e 4 ++ (le h.b 4 ++ (le h.i 2 ++ (le h.c 2 ++ le h.l 4))))))) (b := le (sumL h data bes) 4 ++ (le 0 4 ++ tailL bes)) (by simp [sealL, fieldsL]) (by simp [le_length]) ho.m0 (by have := ho.m1; omega)
  rw [openH, a1, a2, a3, a4, a5, a6, a7]
theorem seal_right : rightO data (sealL h data bes) = true := by
  rw [rightO, seal_magic, seal_zero, seal_rest, seal_sum, seal_take, seal_drop, sumL]
  simp
def kindB (h : Hd) : Bool := decide (1 ≤ h.k) && decide (h.k ≤ 6)
theorem openB_def (data o : List Int) : openB data o = (decide (o.length = 64) && (rightO data o && kindB (openH o))) := rfl
theorem seal_open (ho : h.ok) : openB data (sealL h data bes) = kindB h := by
  rw [openB_def, sealL_length, seal_right, seal_head data bes ho]
  simp
/-- Other data of the same sum's beginning: the sum tells. -/
theorem seal_other {d2 : List Int} (hne : crcS (crcS (~~~ 0#32) (fieldsL h)) d2 ≠ crcS (crcS (~~~ 0#32) (fieldsL h)) data) : openB d2 (sealL h data bes) = false := by
  have hs : at_ (sealL h data bes) 24 4 ≠ crcOf ((sealL h data bes).take 24 ++ d2 ++ (sealL h data bes).drop 32) := by
    rw [seal_sum, seal_take, seal_drop, sumL]
    intro e
    have e2 := crcOf_inj e
    have ha : ∀ (s : BitVec 32) (a b : List Int), crcS s (a ++ b) = crcS (crcS s a) b := fun s a b => by rw [crcS, List.map_append, crcB_append]; rfl
    rw [ha, ha, ha, ha] at e2
    exact hne (crcB_inj _ e2).symm
  rw [openB_def, right_no hs]
  simp
end
theorem num_inj {a b : List Int} (ha : Byt a) (hb : Byt b) (hl : a.length = b.length) (h : num a = num b) : a = b := by
  have h1 := le_num a ha
  rw [h, hl, le_num b hb] at h1
  exact h1.symm
theorem take_set_lt (o : List Int) (k n : Nat) (c : Int) (h : k < n) : (o.set k c).take n = (o.take n).set k c := by rw [List.take_set]
theorem set_split {o : List Int} {k : Nat} (c : Int) (h : k < o.length) : o.set k c = o.take k ++ c :: o.drop (k + 1) := by
  rw [List.set_eq_take_append_cons_drop, if_pos h]
theorem get_split {o : List Int} {k : Nat} (h : k < o.length) : o = o.take k ++ o.getD k 0 :: o.drop (k + 1) := by
  rw [List.getD_eq_getElem?_getD, List.getElem?_eq_getElem h]
  simp
/-- One other byte of what is summed tells. -/
theorem crcOf_set {a : List Int} (x b : List Int) (k : Nat) (c : Int) (hk : k < a.length) (ha : Byt a) (c0 : 0 ≤ c ∧ c < 256) (e : crcOf (x ++ a.set k c ++ b) = crcOf (x ++ a ++ b)) : a.getD k 0 = c := by
  have e2 := crcOf_inj e
  rw [set_split c hk] at e2
  have e3 : x ++ a ++ b = (x ++ a.take k) ++ a.getD k 0 :: (a.drop (k + 1) ++ b) := by
    conv => lhs; rw [get_split hk]
    simp
  have e4 : x ++ (a.take k ++ c :: a.drop (k + 1)) ++ b = (x ++ a.take k) ++ c :: (a.drop (k + 1) ++ b) := by simp
  rw [e3, e4] at e2
  have hx : 0 ≤ a.getD k 0 ∧ a.getD k 0 < 256 := ha _ (by rw [List.getD_eq_getElem?_getD, List.getElem?_eq_getElem hk]; simp)
  exact (crc_byte _ _ _ c (a.getD k 0) c0 hx e2).symm
/-- Whichever one byte is another one, it is sealed no longer. -/
theorem seal_byte {h : Hd} {data bes : List Int} (ho : h.ok) (hd : Byt data) (hb : Byt bes) (k : Nat) (c : Int) (hk : k < 64) (c0 : 0 ≤ c ∧ c < 256) (hne : (sealL h data bes).getD k 0 ≠ c) : openB data ((sealL h data bes).set k c) = false := by
  have hl := sealL_length h data bes
  have hy := sealL_byt h data hb
  obtain ⟨o, hO⟩ : ∃ o, sealL h data bes = o := ⟨_, rfl⟩
  have hr := seal_right (h := h) data bes
  rw [hO] at hl hy hne hr ⊢
  rw [openB_def]
  suffices H : rightO data (o.set k c) = false by rw [H]; simp
  rw [rightO] at hr
  simp only [Bool.and_eq_true, beq_iff_eq] at hr
  obtain ⟨r1, r2, r3, r4⟩ := hr
  have hat : ∀ a n, k < a ∨ a + n ≤ k → at_ (o.set k c) a n = at_ o a n := by
    intro a n h_
    rw [at_, at_, List.drop_set]
    rcases h_ with h_ | h_
    · rw [if_pos h_]
    · rw [if_neg (by omega), List.take_set, List.set_eq_of_length_le (by rw [List.length_take]; omega)]
  by_cases k1 : k < 24
  · have hs : at_ (o.set k c) 24 4 ≠ crcOf ((o.set k c).take 24 ++ data ++ (o.set k c).drop 32) := by
      rw [hat 24 4 (by omega), r4, List.take_set, List.drop_set, if_pos (by omega)]
      intro e
      have e2 := crcOf_set (a := o.take 24) [] (data ++ o.drop 32) k c (by rw [List.length_take]; omega) (fun x hx => hy x (List.take_subset _ _ hx)) c0 (by simpa using e.symm)
      apply hne
      rw [← e2, List.getD_eq_getElem?_getD, List.getD_eq_getElem?_getD, List.getElem?_take_of_lt k1]
    exact right_no hs
  · have ht : (o.set k c).take 24 = o.take 24 := by rw [List.take_set, List.set_eq_of_length_le (by rw [List.length_take]; omega)]
    by_cases k2 : k < 32
    · have hd2 : (o.set k c).drop 32 = o.drop 32 := by rw [List.drop_set, if_pos k2]
      have key : ∀ a n, a ≤ k → k < a + n → a + n ≤ 64 → at_ (o.set k c) a n ≠ at_ o a n := by
        intro a n h1 h2 h3 e
        have h4 := num_inj (a := ((o.set k c).drop a).take n) (b := (o.drop a).take n) (fun x hx => by
          have := List.drop_subset _ _ (List.take_subset _ _ hx)
          rcases List.mem_or_eq_of_mem_set this with q | rfl
          · exact hy x q
          · exact c0) (fun x hx => hy x (List.drop_subset _ _ (List.take_subset _ _ hx))) (by simp) e
        have h5 := congrArg (fun l => l.getD (k - a) 0) h4
        simp only [List.getD_eq_getElem?_getD, List.getElem?_take_of_lt (show k - a < n by omega), List.getElem?_drop, show a + (k - a) = k by omega, List.getElem?_set_self (show k < o.length by omega)] at h5
        apply hne
        rw [List.getD_eq_getElem?_getD]
        exact h5.symm
      by_cases k3 : k < 28
      · have hs : at_ (o.set k c) 24 4 ≠ crcOf ((o.set k c).take 24 ++ data ++ (o.set k c).drop 32) := by
          rw [ht, hd2, ← r4]
          exact key 24 4 (by omega) (by omega) (by omega)
        exact right_no hs
      · have hs : at_ (o.set k c) 28 4 ≠ 0 := by
          rw [← r3]
          exact key 28 4 (by omega) (by omega) (by omega)
        rw [rightO]; simp [hs]
    · have hs : at_ (o.set k c) 24 4 ≠ crcOf ((o.set k c).take 24 ++ data ++ (o.set k c).drop 32) := by
        rw [hat 24 4 (by omega), r4, ht, List.drop_set, if_neg (by omega)]
        intro e
        have e2 := crcOf_set (a := o.drop 32) (o.take 24 ++ data) [] (k - 32) c (by rw [List.length_drop]; omega) (fun x hx => hy x (List.drop_subset _ _ hx)) c0 (by rw [List.append_nil, List.append_nil]; exact e.symm)
        apply hne
        rw [← e2, List.getD_eq_getElem?_getD, List.getD_eq_getElem?_getD, List.getElem?_drop, show 32 + (k - 32) = k by omega]
      exact right_no hs
/-- The document's way: bytes are a header's, if they are what is sealed. -/
theorem open_seal {data o : List Int} (hl : o.length = 64) (hb : Byt o) : (sealL (openH o) data (o.drop 32) = o) ↔ rightO data o = true := by
  have hd : (o.drop 32).length = 32 := by rw [List.length_drop]; omega
  have ht := tailL_self hd
  have cut : ∀ k n, k + n ≤ 64 → o.drop k = (o.drop k).take n ++ o.drop (k + n) := fun k n h_ => by rw [← List.drop_drop]; exact (List.take_append_drop n (o.drop k)).symm
  constructor
  · intro e
    rw [← e]
    have hr := seal_right (h := openH o) data (o.drop 32)
    exact hr
  · intro hr
    rw [rightO] at hr
    simp only [Bool.and_eq_true, beq_iff_eq] at hr
    obtain ⟨r1, r2, r3, r4⟩ := hr
    have f1 : fieldsL (openH o) = o.take 24 := by
      have L := fun k n (h_ : k + n ≤ 64) => le_at hb k n (by omega)
      rw [fieldsL, ← r1, ← r2, openH, L 0 2 (by omega), L 2 1 (by omega), L 3 1 (by omega), L 4 4 (by omega), L 8 4 (by omega), L 12 2 (by omega), L 14 2 (by omega), L 16 4 (by omega), L 20 4 (by omega)]
      have g : ∀ k n m, (o.drop k).take n ++ (o.drop (k + n)).take m = (o.drop k).take (n + m) := fun k n m => by rw [List.take_add, List.drop_drop]
      rw [g 16 4 4, g 14 2 (4 + 4), g 12 2 (2 + (4 + 4)), g 8 4 (2 + (2 + (4 + 4))), g 4 4 (4 + (2 + (2 + (4 + 4)))), g 3 1 (4 + (4 + (2 + (2 + (4 + 4))))), g 2 1 (1 + (4 + (4 + (2 + (2 + (4 + 4)))))), g 0 2 (1 + (1 + (4 + (4 + (2 + (2 + (4 + 4)))))))]
      rfl
    have e4 : sumL (openH o) data (o.drop 32) = at_ o 24 4 := by rw [sumL, f1, ht, r4]
    rw [sealL, e4, ht, f1, ← r3, le_at hb 24 4 (by omega), le_at hb 28 4 (by omega)]
    have c1 := cut 28 4 (by omega)
    have c2 := cut 24 4 (by omega)
    rw [← c1, ← c2]
    exact List.take_append_drop 24 o
end Go.Proofs.Ytkbjndfmbimjiaa
