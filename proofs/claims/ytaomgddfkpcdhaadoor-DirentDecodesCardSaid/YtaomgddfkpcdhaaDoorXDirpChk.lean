import Derived.Test.YtaomgddfkpcdhaaDoorXDirpRef3n
/-! The document's check. -/
set_option linter.unusedVariables false
set_option linter.unusedSimpArgs false
namespace Go.Proofs.YtaomgddfkpcdhaaDoor.XDir
open Go.RowKit Go.Proofs.YtaomgddfkpcdhaaDoorW.PrintWords Go.Proofs.YtaomgddfkpcdhaaDoorW.PrintLast Go.Proofs.YtaomgddfkpcdhaaDoorW.PrintMore
theorem chk_l0 (s : ByteArray) : ∀ (m j : Nat) (b : Bool), j + m = (runes s).length → (runes s).length ≤ 1000 →
    Ev (fun k => gabionref03_Check.l0 k (nI (runes s)) b (j : Int)) (if b = true ∧ ((runes s).drop j).any badR = false then 0 else 22)
  | 0, j, b, hj, hl => by
    have e0 : ¬ (j : Int) < ((nI (runes s)).length : Int) := by simp [nI]; omega
    have e1 : (runes s).drop j = [] := List.drop_eq_nil_of_le (by omega)
    refine Ev.step (f := fun _ => some (if b = true ∧ ((runes s).drop j).any badR = false then 0 else 22)) (fun k => ?_) (Ev.now _)
    simp only [gabionref03_Check.l0, e0, if_false, e1, List.any_nil]
    cases b <;> simp
  | m + 1, j, b, hj, hl => by
    have hlt : j < (runes s).length := by omega
    have e0 : (j : Int) < ((nI (runes s)).length : Int) := by simp [nI]; omega
    have e1 : (0 : Int) ≤ (j : Int) := by omega
    have e2 : wrap64 ((j : Int) + 1) = ((j + 1 : Nat) : Int) := by unfold wrap64; omega
    have e3 : (runes s).drop j = (runes s)[j] :: (runes s).drop (j + 1) := List.drop_eq_getElem_cons hlt
    have e4 := rd_nI (runes s) j hlt
    obtain ⟨x, hx⟩ : ∃ x, (runes s)[j] = x := ⟨_, rfl⟩
    rw [hx] at e3 e4
    by_cases hb : badR x = true
    · refine Ev.step (f := fun k => gabionref03_Check.l0 k (nI (runes s)) false ((j + 1 : Nat) : Int)) (fun k => ?_) ?_
      · simp only [gabionref03_Check.l0, e0, e1, e2, e4, if_true]
        by_cases c1 : (x : Int) = 47
        · rw [if_pos c1]
        · by_cases c2 : (x : Int) < 32
          · rw [if_neg c1, if_pos c2]
          · have c3 : (x : Int) = 127 := by simp [badR] at hb; omega
            rw [if_neg c1, if_neg c2, if_pos c3]
      · have h_ := chk_l0 s m (j + 1) false (by omega) hl
        simpa [e3, hb] using h_
    · have hb' : badR x = false := by simpa using hb
      refine Ev.step (f := fun k => gabionref03_Check.l0 k (nI (runes s)) b ((j + 1 : Nat) : Int)) (fun k => ?_) ?_
      · simp only [gabionref03_Check.l0, e0, e1, e2, e4, if_true]
        have c1 : ¬ (x : Int) = 47 := by simp [badR] at hb'; omega
        have c2 : ¬ (x : Int) < 32 := by simp [badR] at hb'; omega
        have c3 : ¬ (x : Int) = 127 := by simp [badR] at hb'; omega
        rw [if_neg c1, if_neg c2, if_neg c3]
      · have h_ := chk_l0 s m (j + 1) b (by omega) hl
        simpa [e3, hb'] using h_
theorem check_eq (s : ByteArray) (hs : s.size ≤ 1000) : Ev (fun k => gabionref03_Check.f k s) (chkS s) := by
  by_cases c : s.toList = [] ∨ s.toList = [46] ∨ s.toList = [46, 46]
  · rw [chkS, if_pos c]
    refine Ev.congr (f := fun k => gabionref03_Check.j0 k s true) (fun k => ?_) (Ev.step (f := fun _ => some 22) (fun k => ?_) (Ev.now _))
    · unfold gabionref03_Check.f
      rcases c with c | c | c
      · rw [if_pos c]
      · by_cases c0 : s.toList = []
        · rw [if_pos c0]
        · rw [if_neg c0, if_pos c]
      · have c0 : ¬ s.toList = [] := by rw [c]; simp
        have c1 : ¬ s.toList = [46] := by rw [c]; simp
        rw [if_neg c0, if_neg c1, c]
        rfl
    · simp only [gabionref03_Check.j0, if_true]
  · rw [chkS, if_neg c]
    have c0 : ¬ s.toList = [] := fun h => c (.inl h)
    have c1 : ¬ s.toList = [46] := fun h => c (.inr (.inl h))
    have c2 : (s.toList == [46, 46]) = false := by simpa using fun h => c (.inr (.inr h))
    refine Ev.congr (f := fun k => gabionref03_Check.j0 k s false) (fun k => ?_) ?_
    · unfold gabionref03_Check.f
      rw [if_neg c0, if_neg c1, c2]
    · by_cases d : 24 < s.size
      · rw [if_pos d]
        refine Ev.step (f := fun _ => some 36) (fun k => ?_) (Ev.now _)
        have d' : (s.size : Int) > 24 := by omega
        simp only [gabionref03_Check.j0, Bool.false_eq_true, if_false, d', if_true]
      · rw [if_neg d]
        have d' : ¬ (s.size : Int) > 24 := by omega
        refine Ev.step (f := fun k => (gabionref03_Letters.f k s).bind fun bt127 => (gabionref03_Check.l0 k bt127.1 bt127.2.2 0)) (fun k => ?_) ?_
        · simp only [gabionref03_Check.j0, Bool.false_eq_true, if_false, d']
        · refine Ev.bind (a := (nI (runes s), nI (starts s), allF s s.size 0)) ⟨s.size + 9, fun k hk => letters_eq s (by omega) k hk⟩ ?_
          have h_ := chk_l0 s (runes s).length 0 (allF s s.size 0) (by omega) (Nat.le_trans (runes_length s) hs)
          rw [List.drop_zero] at h_
          have e9 : (if allF s s.size 0 = true ∧ (runes s).any badR = false then (0 : Int) else 22) = (if allF s s.size 0 = false then 22 else if (runes s).any badR = true then 22 else 0) := by
            cases allF s s.size 0 <;> cases (runes s).any badR <;> rfl
          rw [← e9]
          exact h_
end Go.Proofs.YtaomgddfkpcdhaaDoor.XDir
