import Derived.Test.YtjjhdddiabdfhaaDoorPat
/-! Patterns of escaped letters: their parts; what fits them. -/
set_option linter.unusedVariables false
namespace Go.Proofs.YtjjhdddiabdfhaaDoor
def esc : List Nat → List Nat
  | [] => []
  | x :: l => 92 :: x :: esc l
theorem esc_length : ∀ l, (esc l).length = 2 * l.length
  | [] => rfl
  | x :: l => by simp [esc, esc_length l]; omega
theorem rn_at (pre : List Nat) (y : Nat) (r : List Nat) : rnP (pre ++ y :: r) pre.length = y := by simp [rnP, List.getD_eq_getElem?_getD]
theorem rn_at1 (pre : List Nat) (y z : Nat) (r : List Nat) : rnP (pre ++ y :: z :: r) (pre.length + 1) = z := by
  have h := rn_at (pre ++ [y]) z r
  simpa using h
theorem partsF_succ (ps : List Nat) (k i : Nat) (out : List Part) : partsF ps (k + 1) i out = if i < ps.length then (stepP ps i out).bind (fun q => partsF ps k q.1 q.2) else some out := rfl
theorem parts_esc (post : List Nat) : ∀ (l pre : List Nat) (out : List Part) (K : Nat), partsF (pre ++ (esc l ++ post)) (K + l.length) pre.length out = partsF (pre ++ (esc l ++ post)) K (pre.length + 2 * l.length) (out ++ l.map oneP)
  | [], pre, out, K => by simp [esc]
  | x :: l, pre, out, K => by
    have hs : stepP (pre ++ (esc (x :: l) ++ post)) pre.length out = some (pre.length + 2, out ++ [oneP x]) := by
      have e0 : rnP (pre ++ (esc (x :: l) ++ post)) pre.length = 92 := rn_at pre 92 (x :: (esc l ++ post))
      have e1 : rnP (pre ++ (esc (x :: l) ++ post)) (pre.length + 1) = x := rn_at1 pre 92 x (esc l ++ post)
      rw [stepP, e0, e1]
      simp [esc]
    have ih := parts_esc post l (pre ++ [92, x]) (out ++ [oneP x]) K
    have e2 : pre ++ [92, x] ++ (esc l ++ post) = pre ++ (esc (x :: l) ++ post) := by simp [esc]
    rw [e2] at ih
    have e3 : K + (x :: l).length = (K + l.length) + 1 := by simp; omega
    rw [e3, partsF_succ, if_pos (by simp [esc]), hs, Option.bind_some]
    have e4 : (pre ++ [92, x]).length = pre.length + 2 := by simp
    rw [e4] at ih
    simp only
    rw [ih]
    simp [List.append_assoc]
    congr 1
    omega
theorem parts_self (l : List Nat) (K : Nat) : partsF (esc l) (K + 1 + l.length) 0 [] = some (l.map oneP) := by
  have h := parts_esc [] l [] [] (K + 1)
  simp only [List.nil_append, List.append_nil, List.length_nil, Nat.zero_add] at h
  rw [h, partsF_succ, if_neg (by rw [esc_length]; omega)]
theorem lastMany_ones (l : List Nat) : lastMany (l.map oneP) = false := by
  unfold lastMany
  by_cases h : 0 < l.length
  · have e : rdP (l.map oneP) ((l.map oneP).length - 1) = oneP (l[l.length - 1]'(by omega)) := by
      rw [rdP_getElem (by simp; omega)]
      simp
    rw [e]
    simp [oneP]
  · simp [h]
theorem parts_behind (l : List Nat) (K : Nat) : partsF (esc l ++ [42]) (K + 2 + l.length) 0 [] = some (l.map oneP ++ [manyP]) := by
  have h := parts_esc [42] l [] [] (K + 2)
  simp only [List.nil_append, List.length_nil, Nat.zero_add] at h
  have e0 : rnP (esc l ++ [42]) (2 * l.length) = 42 := by rw [← esc_length]; exact rn_at (esc l) 42 []
  rw [h, partsF_succ, if_pos (by simp [esc_length]), stepP, if_pos e0, lastMany_ones, if_neg (by simp), Option.bind_some, partsF_succ, if_neg (by simp [esc_length])]
theorem parts_ahead (l : List Nat) (K : Nat) : partsF (42 :: esc l) (K + 2 + l.length) 0 [] = some (manyP :: l.map oneP) := by
  have h := parts_esc [] l [42] [manyP] (K + 1)
  simp only [List.append_nil, List.length_singleton, List.singleton_append] at h
  have e : K + 2 + l.length = (K + 1 + l.length) + 1 := by omega
  have e0 : stepP (42 :: esc l) 0 [] = some (1, [manyP]) := rfl
  rw [e, partsF_succ, if_pos (by simp), e0, Option.bind_some]
  simp only
  rw [h, partsF_succ, if_neg (by simp [esc_length]; omega)]
theorem has_one (x y : Nat) : hasP (oneP x) ((y : Nat) : Int) = decide (x = y) := by
  simp only [hasP, oneP, inR, List.any_cons, List.any_nil, Bool.or_false, Bool.false_eq_true, if_false, Bool.bne_false]
  by_cases h : x = y
  · subst h; simp
  · simp [h]; omega
end Go.Proofs.YtjjhdddiabdfhaaDoor
