import Derived.Test.YtaomgddfkpcdhaaDoorCuc
/-! The document's small functions (gabionref01). -/
namespace Go.Proofs.YtaomgddfkpcdhaaDoor
open Go.RowKit Go.Proofs.YtaomgddfkpcdhaaDoorW.PrintWords
/-- Each is a byte. -/
def Byt (xs : List Int) : Prop := ∀ x ∈ xs, 0 ≤ x ∧ x < 256
theorem Byt.of {xs : List Int} (h : xs.all (fun x => decide (0 ≤ x ∧ x < 256)) = true) : Byt xs := fun x hx => of_decide_eq_true (List.all_eq_true.1 h x hx)
theorem le_byt (x : Int) (n : Nat) : Byt (le x n) := by
  induction n generalizing x with
  | zero => intro y hy; simp [le] at hy
  | succ n ih =>
    intro y hy
    simp only [le, List.mem_cons] at hy
    rcases hy with rfl | hy
    · omega
    · exact ih _ y hy
/-- A slice that is answered, new since w. -/
def New (w w' : World) (v : Value) (xs : List Int) : Prop := w'.ownsRow w.heap.size 5 1 v xs.length (nums .u8 xs) ∧ Below w.heap.size w w'
theorem New.bel {w w' : World} {v : Value} {xs : List Int} (h : New w w' v xs) : Below w.heap.size w w' := h.2
theorem New.slice {w w' : World} {v : Value} {xs : List Int} (h : New w w' v xs) : ∃ A c, v = .slice A xs.length c ∧ xs.length ≤ c := by
  rcases h.1.2 with ⟨rfl, hn⟩ | ⟨g, cap, cur, rfl, _, _, hc, _⟩
  · exact ⟨none, 0, by rw [hn], by omega⟩
  · exact ⟨_, cap, rfl, hc⟩
theorem New.reads {w w' : World} {A : Option Addr} {c n : Nat} {xs : List Int} (h : New w w' (.slice A n c) xs) : ReadsInt w' .u8 A xs.length xs := by
  obtain ⟨A', c', e, _⟩ := h.slice
  injection e with e1 e2 e3
  subst e1 e2 e3
  exact own_reads' h.1
/-- New memory lies elsewhere than what was there. -/
theorem New.far {w w' : World} {v : Value} {xs : List Int} (h : New w w' v xs) {k : Nat} (hk : v.ownBlock = some k) : w.heap.size ≤ k := (h.1.lt k hk).1
set_option maxHeartbeats 1000000 in
theorem rIsZero_any (xs : List Int) (A : Option Addr) (c : Nat) (w : World) (hr : ReadsInt w .u8 A xs.length xs) :
    Calls Tryd.prog 15 #[.slice A xs.length c] w fun e w' => e = .returned (.bool (xs.all (· == 0))) ∧ Drawn0 w w' := by
  have hm := hr.2.1
  have HR := Lib.hid hr
  clear hr
  go_enter Tryd.func15, Tryd.ntmps15
  go_wp2
  go_loopw [3] (fun i wr => ∃ k : Nat, k ≤ xs.length ∧ i = .int .i64 (k : Int) ∧ Hid ((xs.take k).all (· == 0) = true) ∧ Hid (Drawn0 w wr)) (fun i _ => xs.length - (intOf i).toNat)
  case atStart => exact ⟨0, Nat.zero_le _, rfl, rfl, Lib.hid (Drawn0.refl _)⟩
  case round =>
    obtain ⟨k, hk, rfl, HZ, HD⟩ := hrel
    by_cases hlt : k < xs.length
    · have hr1 := HR.out.below HD.out.below
      obtain ⟨ad, he, hc⟩ := hr1.at_ (k : Int) (by omega) (by omega)
      subst he
      rw [Int.toNat_natCast, rd_getD] at hc
      clear hr1
      obtain ⟨x0, hx0⟩ : ∃ x0, xs.getD k 0 = x0 := ⟨_, rfl⟩
      rw [hx0] at hc
      have HX := Lib.hid hx0
      clear hx0
      have hi : (0 : Int) ≤ k ∧ (k : Int) < xs.length := by omega
      by_cases hz : x0 = 0
      · subst hz
        go_wp2
        go_roundw
        case rel =>
          refine ⟨k + 1, by omega, by go_num, ?_, ?_⟩
          · have h_ := HZ.out
            have e_ := HX.out
            rw [List.getD_eq_getElem?_getD, List.getElem?_eq_getElem hlt] at e_
            rw [List.take_succ_eq_append_getElem hlt]
            simp only [List.all_append, h_, List.all_cons, List.all_nil, Bool.and_true, Bool.true_and]
            exact Lib.hid (by simpa using e_)
          · first | exact HD | exact Lib.hid (HD.out.step _)
        case measure => simp [intOf]; omega
      · have hz1 : (x0 == 0) = false := by simpa using hz
        have hz2 : (x0 != 0) = true := by simpa using hz
        have hf : xs.all (· == 0) = false := by
          have e_ := HX.out
          rw [List.getD_eq_getElem?_getD, List.getElem?_eq_getElem hlt] at e_
          rw [Bool.eq_false_iff]
          intro ha
          have h2 := List.all_eq_true.1 ha xs[k] (List.getElem_mem _)
          simp only [Option.getD_some] at e_
          simp [e_] at h2
          exact hz h2
        have HF := Lib.hid hf
        clear hf
        go_wp2
        go_ret
        rw [HF.out]
        exact ⟨rfl, by first | exact HD.out | exact HD.out.step _⟩
    · have hf : xs.all (· == 0) = true := by have h_ := HZ.out; rwa [List.take_of_length_le (by omega)] at h_
      have HF := Lib.hid hf
      clear hf
      go_wp2
      go_ret
      rw [HF.out]
      exact ⟨rfl, by first | exact HD.out | exact HD.out.step _⟩
end Go.Proofs.YtaomgddfkpcdhaaDoor
