import Derived.Test.YtjjhdddiabdfhaaDoorXNampNam
/-! The plain laws of names. -/
set_option linter.unusedVariables false
set_option linter.unusedSimpArgs false
namespace Go.Proofs.YtjjhdddiabdfhaaDoor.XNam
open Go.RowKit Go.Proofs.YtjjhdddiabdfhaaDoorW.PrintWords Go.Proofs.YtjjhdddiabdfhaaDoorW.PrintLast Go.Proofs.YtjjhdddiabdfhaaDoorW.PrintMore
/-- Row by row. -/
theorem same_l0 (a b : List ByteArray) (hab : a.length = b.length) (hl : a.length ≤ 1000) : ∀ (m j : Nat), j + m = a.length → a.take j = b.take j → Ev (fun k => gabionlaw03_same.l0 k a b (j : Int)) (decide (a = b))
  | 0, j, hj, ht => by
    have e0 : ¬ (j : Int) < (a.length : Int) := by omega
    have e1 : a = b := by
      rw [List.take_of_length_le (by omega), List.take_of_length_le (by omega)] at ht
      exact ht
    have e2 : decide (a = b) = true := by simp [e1]
    clear e1
    refine Ev.step (f := fun _ => some (decide (a = b))) (fun k => ?_) (Ev.now _)
    simp only [gabionlaw03_same.l0, e0, if_false, e2]
  | m + 1, j, hj, ht => by
    have ha : j < a.length := by omega
    have hb : j < b.length := by omega
    have e0 : (j : Int) < (a.length : Int) := by omega
    have e1 : (0 : Int) ≤ (j : Int) := by omega
    have e2 : (j : Int) < (b.length : Int) := by omega
    have e3 : wrap64 ((j : Int) + 1) = ((j + 1 : Nat) : Int) := by unfold wrap64; omega
    by_cases hc : a[j] = b[j]
    · refine Ev.step (f := fun k => gabionlaw03_same.l0 k a b ((j + 1 : Nat) : Int)) (fun k => ?_) ?_
      · simp only [gabionlaw03_same.l0, e0, e1, e2, e3, if_true, rdB a j ha, rdB b j hb, hc]
      · exact same_l0 a b hab hl m (j + 1) (by omega) (by rw [List.take_succ_eq_append_getElem ha, List.take_succ_eq_append_getElem hb, ht, hc])
    · have hne : ¬ a[j].toList = b[j].toList := fun h => hc ((tl_iff _ _).1 h)
      have hab2 : ¬ a = b := fun h => hc (by subst h; rfl)
      refine Ev.step (f := fun _ => some (decide (a = b))) (fun k => ?_) (Ev.now _)
      simp only [gabionlaw03_same.l0, e0, e1, e2, if_true, rdB a j ha, rdB b j hb, hne, if_false, hab2, decide_false]
theorem same_eq (a b : List ByteArray) (hl : a.length ≤ 1000) : Ev (fun k => gabionlaw03_same.f k a b) (decide (a = b)) := by
  by_cases h : a.length = b.length
  · have e : (a.length : Int) = (b.length : Int) := by omega
    refine Ev.congr (f := fun k => gabionlaw03_same.l0 k a b 0) (fun k => ?_) (same_l0 a b h hl a.length 0 (by omega) (by simp))
    simp only [gabionlaw03_same.f, e, if_true]
  · have e : ¬ (a.length : Int) = (b.length : Int) := by omega
    have e2 : ¬ a = b := fun h2 => h (by rw [h2])
    refine Ev.congr (f := fun k => some (decide (a = b))) (fun k => ?_) (Ev.now _)
    simp only [gabionlaw03_same.f, e, if_false, e2, decide_false]
theorem within_l0 (a b : List ByteArray) (hab : b.length ≤ a.length) (hl : b.length ≤ 1000) : ∀ (m j : Nat), j + m = b.length → a.take j = b.take j → Ev (fun k => names_Within.l0 k a b (b.length : Int) (j : Int)) (decide (a.take b.length = b))
  | 0, j, hj, ht => by
    have e0 : ¬ (j : Int) < (b.length : Int) := by omega
    have e1 : a.take b.length = b := by
      have hj2 : j = b.length := by omega
      subst hj2
      rw [ht, List.take_of_length_le (Nat.le_refl _)]
    refine Ev.step (f := fun _ => some (decide (a.take b.length = b))) (fun k => ?_) (Ev.now _)
    simp only [names_Within.l0, e0, if_false, e1, decide_true]
  | m + 1, j, hj, ht => by
    have ha : j < a.length := by omega
    have hb : j < b.length := by omega
    have e0 : (j : Int) < (b.length : Int) := by omega
    have e1 : (0 : Int) ≤ (j : Int) := by omega
    have e2 : (j : Int) < (a.length : Int) := by omega
    have e3 : wrap64 ((j : Int) + 1) = ((j + 1 : Nat) : Int) := by unfold wrap64; omega
    by_cases hc : a[j] = b[j]
    · refine Ev.step (f := fun k => names_Within.l0 k a b (b.length : Int) ((j + 1 : Nat) : Int)) (fun k => ?_) ?_
      · simp only [names_Within.l0, e0, e1, e2, e3, if_true, rdB a j ha, rdB b j hb, hc]
      · exact within_l0 a b hab hl m (j + 1) (by omega) (by rw [List.take_succ_eq_append_getElem ha, List.take_succ_eq_append_getElem hb, ht, hc])
    · have hne : ¬ a[j].toList = b[j].toList := fun h => hc ((tl_iff _ _).1 h)
      have hab2 : ¬ a.take b.length = b := fun h => hc (by
        have h2 := congrArg (fun l => l[j]?) h
        simp only [List.getElem?_take, hb, if_true, List.getElem?_eq_getElem ha, List.getElem?_eq_getElem hb] at h2
        exact Option.some.inj h2)
      refine Ev.step (f := fun _ => some (decide (a.take b.length = b))) (fun k => ?_) (Ev.now _)
      simp only [names_Within.l0, e0, e1, e2, if_true, rdB a j ha, rdB b j hb, hne, if_false, hab2, decide_false]
theorem within_eq (a b : List ByteArray) (hl : b.length ≤ 1000) : Ev (fun k => names_Within.f k a b) (decide (b.length ≤ a.length) && decide (a.take b.length = b)) := by
  by_cases h : a.length < b.length
  · have e : (a.length : Int) < (b.length : Int) := by omega
    have e2 : decide (b.length ≤ a.length) = false := by simp; omega
    refine Ev.congr (f := fun k => some (decide (b.length ≤ a.length) && decide (a.take b.length = b))) (fun k => ?_) (Ev.now _)
    simp only [names_Within.f, e, if_true, e2, Bool.false_and]
  · have e : ¬ (a.length : Int) < (b.length : Int) := by omega
    have e2 : decide (b.length ≤ a.length) = true := by simp; omega
    rw [e2, Bool.true_and]
    refine Ev.congr (f := fun k => names_Within.l0 k a b (b.length : Int) 0) (fun k => ?_) (within_l0 a b (by omega) hl b.length 0 (by omega) (by simp))
    simp only [names_Within.f, e, if_false]
theorem within_pure (a b : List ByteArray) : ∃ k, gabionlaw03_NamesWithin.f k a b = some true := by
  apply Ev.rounds
  by_cases h1 : 50 < a.length
  · have e : (a.length : Int) > 50 := by omega
    refine Ev.congr (f := fun k => gabionlaw03_NamesWithin.j0 k a b true) (fun k => by simp only [gabionlaw03_NamesWithin.f, e, if_true]) (Ev.step (f := fun _ => some true) (fun k => ?_) (Ev.now _))
    simp only [gabionlaw03_NamesWithin.j0, if_true, split_true, Option.bind_some]
  have e : ¬ (a.length : Int) > 50 := by omega
  by_cases h2 : 50 < b.length
  · have e2 : decide ((b.length : Int) > 50) = true := by simp; omega
    refine Ev.congr (f := fun k => gabionlaw03_NamesWithin.j0 k a b true) (fun k => by simp only [gabionlaw03_NamesWithin.f, e, if_false, e2]) (Ev.step (f := fun _ => some true) (fun k => ?_) (Ev.now _))
    simp only [gabionlaw03_NamesWithin.j0, if_true, split_true, Option.bind_some]
  have e2 : decide ((b.length : Int) > 50) = false := by simp; omega
  refine Ev.congr (f := fun k => gabionlaw03_NamesWithin.j0 k a b false) (fun k => by simp only [gabionlaw03_NamesWithin.f, e, if_false, e2]) ?_
  refine Ev.step (f := fun k => (names_Within.f k a b).bind fun t198 => (if (b.length : Int) ≤ (a.length : Int) then (if 0 ≤ (mn (a.length : Int) (b.length : Int)) then (if (mn (a.length : Int) (b.length : Int)) ≤ (a.length : Int) then ((gabionlaw03_same.f k (a.take ((mn (a.length : Int) (b.length : Int)) : Int).toNat) b).bind fun t200 => (some (t198 == t200))) else (none)) else (none)) else (some (t198 == false)))) (fun k => ?_) ?_
  · simp only [gabionlaw03_NamesWithin.j0, Bool.false_eq_true, if_false, split_true, Option.bind_some, if_true]
  · refine Ev.bind (within_eq a b (by omega)) ?_
    by_cases h3 : b.length ≤ a.length
    · have e3 : (b.length : Int) ≤ (a.length : Int) := by omega
      have e4 : mn (a.length : Int) (b.length : Int) = (b.length : Int) := by unfold mn; split <;> omega
      have e5 : (0 : Int) ≤ (b.length : Int) := by omega
      have e6 : decide (b.length ≤ a.length) = true := by simp; omega
      refine Ev.congr (f := fun k => (gabionlaw03_same.f k (a.take b.length) b).bind fun t200 => some ((decide (b.length ≤ a.length) && decide (a.take b.length = b)) == t200)) (fun k => ?_) ?_
      · simp only [e3, e4, e5, if_true, Int.toNat_natCast]
      · refine Ev.bind (same_eq (a.take b.length) b (by rw [List.length_take]; omega)) ?_
        rw [e6, Bool.true_and]
        refine Ev.congr (f := fun _ => some true) (fun k => by rw [beq_self_eq_true]) (Ev.now _)
    · have e3 : ¬ (b.length : Int) ≤ (a.length : Int) := by omega
      have e6 : decide (b.length ≤ a.length) = false := by simp; omega
      refine Ev.congr (f := fun _ => some true) (fun k => ?_) (Ev.now _)
      simp only [e3, if_false, e6, Bool.false_and, beq_self_eq_true]
end Go.Proofs.YtjjhdddiabdfhaaDoor.XNam
