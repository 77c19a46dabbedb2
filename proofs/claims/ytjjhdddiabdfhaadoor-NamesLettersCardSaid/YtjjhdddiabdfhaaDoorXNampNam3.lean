import Derived.Test.YtjjhdddiabdfhaaDoorXNampNam2
/-! The plain laws of names: the order, the letters. -/
set_option linter.unusedVariables false
set_option linter.unusedSimpArgs false
namespace Go.Proofs.YtjjhdddiabdfhaaDoor.XNam
open Go.RowKit Go.Proofs.YtjjhdddiabdfhaaDoorW.PrintWords Go.Proofs.YtjjhdddiabdfhaaDoorW.PrintLast Go.Proofs.YtjjhdddiabdfhaaDoorW.PrintMore
theorem less_f (a b : ByteArray) (ha : a.size ≤ 1000) (hb : b.size ≤ 1000) : names_Less.f a b = some (lessS a b) := by
  rw [names_Less.f, if_pos (by omega), if_pos (by omega)]
theorem orders_big (a b c : ByteArray) : Ev (fun k => gabionlaw03_NamesOrders.j0 k a b c true) true := by
  refine Ev.step (f := fun _ => some true) (fun k => ?_) (Ev.now _)
  simp only [gabionlaw03_NamesOrders.j0, if_true, split_true, Option.bind_some]
theorem ne_tl (a b : ByteArray) : (a.toList != b.toList) = decide (a ≠ b) := by
  by_cases h : a = b
  · subst h; simp
  · have h2 : ¬ a.toList = b.toList := fun e => h ((tl_iff _ _).1 e)
    simp [h, h2]
theorem orders_small (a b c : ByteArray) (ha : a.size ≤ 1000) (hb : b.size ≤ 1000) (hc : c.size ≤ 1000) : Ev (fun k => gabionlaw03_NamesOrders.j0 k a b c false) true := by
  refine Ev.step (f := fun k => (gabionref03_Less.f k a b).bind fun t225 => (if (lessS a b == t225) = true then (if lessS a b = true then (if (true == (a.toList != b.toList)) = true then (if lessS b a = true then (some false) else (if lessS b c = true then (some (lessS a c)) else (some true))) else (some false)) else (if (lessS b a == (a.toList != b.toList)) = true then (some true) else (some false))) else (some false))) (fun k => ?_) ?_
  · simp only [gabionlaw03_NamesOrders.j0, Bool.false_eq_true, if_false, less_f a b ha hb, less_f b c hb hc, less_f a c ha hc, less_f b a hb ha, split_true, Option.bind_some, if_true]
  · refine Ev.bind (a := lessS a b) ⟨2 * a.size + b.size + 20, fun k hk => less_eq a b (by omega) (by omega) k hk⟩ ?_
    refine Ev.congr (f := fun _ => some true) (fun k => ?_) (Ev.now _)
    rw [beq_self_eq_true, if_pos rfl, ne_tl]
    cases h : lessS a b with
    | true =>
      have hne : a ≠ b := fun e => by rw [e, lessS_irrefl] at h; cases h
      rw [if_pos rfl, if_pos (by simp [hne]), if_neg (by rw [lessS_asymm h]; simp)]
      cases h2 : lessS b c with
      | true => rw [if_pos rfl, lessS_trans h h2]
      | false => rw [if_neg (by simp)]
    | false =>
      rw [if_neg (by simp)]
      by_cases e : a = b
      · subst e; rw [if_pos (by rw [lessS_irrefl]; simp)]
      · rcases lessS_total a b e with h1 | h1
        · rw [h] at h1; cases h1
        · rw [if_pos (by rw [h1]; simp [e])]
theorem orders_pure (a b c : ByteArray) : ∃ k, gabionlaw03_NamesOrders.f k a b c = some true := by
  apply Ev.rounds
  by_cases h1 : 100 < a.size
  · have e : (a.size : Int) > 100 := by omega
    exact Ev.congr (fun k => by simp only [gabionlaw03_NamesOrders.f, e, if_true]) (orders_big a b c)
  have e : ¬ (a.size : Int) > 100 := by omega
  by_cases h2 : 100 < b.size
  · have e2 : (b.size : Int) > 100 := by omega
    exact Ev.congr (fun k => by simp only [gabionlaw03_NamesOrders.f, e, if_false, e2, if_true]) (orders_big a b c)
  have e2 : ¬ (b.size : Int) > 100 := by omega
  by_cases h3 : 100 < c.size
  · have e3 : decide ((c.size : Int) > 100) = true := by simp; omega
    exact Ev.congr (fun k => by simp only [gabionlaw03_NamesOrders.f, e, if_false, e2, e3]) (orders_big a b c)
  have e3 : decide ((c.size : Int) > 100) = false := by simp; omega
  exact Ev.congr (fun k => by simp only [gabionlaw03_NamesOrders.f, e, if_false, e2, e3]) (orders_small a b c (by omega) (by omega) (by omega))
theorem let_l0 (l : List Int) (hl : l.length ≤ 1000) : ∀ (m j : Nat), j + m = l.length → Ev (fun k => gabionlaw03_NamesLetters.l0 k (l.length : Int) l l (j : Int)) true
  | 0, j, hj => by
    have e0 : ¬ (j : Int) < (l.length : Int) := by omega
    refine Ev.step (f := fun _ => some true) (fun k => ?_) (Ev.now _)
    simp only [gabionlaw03_NamesLetters.l0, e0, if_false]
  | m + 1, j, hj => by
    have e0 : (j : Int) < (l.length : Int) := by omega
    have e1 : (0 : Int) ≤ (j : Int) := by omega
    have e3 : wrap64 ((j : Int) + 1) = ((j + 1 : Nat) : Int) := by unfold wrap64; omega
    refine Ev.step (f := fun k => gabionlaw03_NamesLetters.l0 k (l.length : Int) l l ((j + 1 : Nat) : Int)) (fun k => ?_) (let_l0 l hl m (j + 1) (by omega))
    simp only [gabionlaw03_NamesLetters.l0, e0, e1, e3, if_true]
theorem letters_pure (s : ByteArray) : ∃ k, gabionlaw03_NamesLetters.f k s = some true := by
  apply Ev.rounds
  by_cases h : 300 < s.size
  · have e : (s.size : Int) > 300 := by omega
    exact Ev.congr (f := fun _ => some true) (fun k => by simp only [gabionlaw03_NamesLetters.f, e, if_true, split_true, Option.bind_some]) (Ev.now _)
  have e : ¬ (s.size : Int) > 300 := by omega
  have hf : names_Letters.f s = some (((starts s).length : Int), nI (starts s)) := by rw [names_Letters.f, if_pos (by omega)]
  have hrs : (runes s).length = (starts s).length := (startsF_length s _ _).symm
  have hsl : (starts s).length ≤ 300 := by have h_ := runes_length s; omega
  refine Ev.congr (f := fun k => (gabionref03_Letters.f k s).bind fun bt184 => if ((starts s).length : Int) = (bt184.1.length : Int) then (gabionlaw03_NamesLetters.j0 k ((starts s).length : Int) (nI (starts s)) bt184.2.1 (((nI (starts s)).length : Int) != ((starts s).length : Int))) else (gabionlaw03_NamesLetters.j0 k ((starts s).length : Int) (nI (starts s)) bt184.2.1 true)) (fun k => ?_) ?_
  · simp only [gabionlaw03_NamesLetters.f, e, if_false, hf, Option.bind_some, split_true, if_true]
  · refine Ev.bind (a := (nI (runes s), nI (starts s), allF s s.size 0)) ⟨s.size + 9, fun k hk => letters_eq s (by omega) k hk⟩ ?_
    have e1 : ((starts s).length : Int) = ((nI (runes s)).length : Int) := by simp [nI, hrs]
    have e2 : (((nI (starts s)).length : Int) != ((starts s).length : Int)) = false := by simp [nI]
    have e4 : (nI (starts s)).length = (starts s).length := by simp [nI]
    refine Ev.congr (f := fun k => gabionlaw03_NamesLetters.j0 k ((starts s).length : Int) (nI (starts s)) (nI (starts s)) false) (fun k => ?_) ?_
    · simp only []
      rw [if_pos e1, e2]
    · refine Ev.step (f := fun k => gabionlaw03_NamesLetters.l0 k ((starts s).length : Int) (nI (starts s)) (nI (starts s)) 0) (fun k => by simp only [gabionlaw03_NamesLetters.j0, Bool.false_eq_true, if_false]) ?_
      have h_ := let_l0 (nI (starts s)) (by omega) (nI (starts s)).length 0 (by omega)
      rw [e4] at h_
      exact h_
end Go.Proofs.YtjjhdddiabdfhaaDoor.XNam
