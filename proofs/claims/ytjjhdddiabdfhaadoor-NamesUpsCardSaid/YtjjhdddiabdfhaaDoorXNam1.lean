-- Printed by a program of this session (xprint.py) over the kit's print, with contracts of its own. Not trusted: Lean checks it.
import Derived.Test.YtjjhdddiabdfhaaDoorXNam0
namespace Go.Proofs.YtjjhdddiabdfhaaDoor.XNam
open Go.RowKit Go.Proofs.YtjjhdddiabdfhaaDoorW.PrintWords Go.Proofs.YtjjhdddiabdfhaaDoorW.PrintLast Go.Proofs.YtjjhdddiabdfhaaDoorW.PrintMore
attribute [local go_sem] max2_int min2_int max_two min_two max_three min_three max_four min_four   -- for this text's walks alone
set_option linter.unusedVariables false
set_option linter.unusedSimpArgs false


/-! ### names_Check: function 13 (of this session's own) -/
def names_Check.f (a0 : ByteArray) : Option (Int) := some (chkS a0)
set_option maxHeartbeats 4000000 in
set_option maxRecDepth 100000 in
theorem names_Check.calls (a0 : ByteArray) (r : Int) (w : World) (h : names_Check.f a0 = some r) (hgt : GT w) :
    Calls Tryd.prog 13 #[.string a0] w fun e w' => e = .returned (.int .i64 r) ∧ Below w.heap.size w w' := by
  have hr : chkS a0 = r := Option.some.inj h
  clear h
  by_cases e1 : a0.toList = []
  · have b1 : (a0.toList == ([] : List UInt8)) = true := by simp [e1]
    rw [chkS, if_pos (.inl e1)] at hr
    subst hr
    clear e1
    go_enter Tryd.func13, Tryd.ntmps13
    go_wp2
    go_ret
    exact ⟨rfl, Below.refl _ _⟩
  have b1 : (a0.toList == ([] : List UInt8)) = false := by simp [e1]
  by_cases e2 : a0.toList = [46]
  · have b2 : (a0.toList == ([46] : List UInt8)) = true := by simp [e2]
    rw [chkS, if_pos (.inr (.inl e2))] at hr
    subst hr
    clear e1 e2
    go_enter Tryd.func13, Tryd.ntmps13
    go_wp2
    go_ret
    exact ⟨rfl, Below.refl _ _⟩
  have b2 : (a0.toList == ([46] : List UInt8)) = false := by simp [e2]
  by_cases e3 : a0.toList = [46, 46]
  · have b3 : (a0.toList == ([46, 46] : List UInt8)) = true := by simp [e3]
    rw [chkS, if_pos (.inr (.inr e3))] at hr
    subst hr
    clear e1 e2 e3
    go_enter Tryd.func13, Tryd.ntmps13
    go_wp2
    go_ret
    exact ⟨rfl, Below.refl _ _⟩
  have b3 : (a0.toList == ([46, 46] : List UInt8)) = false := by simp [e3]
  rw [chkS, if_neg (by rintro (h | h | h); exact e1 h; exact e2 h; exact e3 h)] at hr
  clear e1 e2 e3
  by_cases c : 24 < a0.size
  · rw [if_pos c] at hr
    subst hr
    have cI : (24 : Int) < (a0.size : Int) := by omega
    clear c
    go_enter Tryd.func13, Tryd.ntmps13
    go_wp2
    go_ret
    exact ⟨rfl, Below.refl _ _⟩
  rw [if_neg c] at hr
  have cI : (a0.size : Int) ≤ 24 := by omega
  have HR := Lib.hid hr
  have HG := Lib.hid hgt
  clear c hr hgt
  cases hv : allF a0 a0.size 0 with
  | false =>
    rw [hv, if_pos rfl] at HR
    go_enter Tryd.func13, Tryd.ntmps13
    go_wp2_with fail
    refine (Valid_any a0 w (by omega) HG.out).mono ?_
    rw [hv]
    rintro e w1 ⟨rfl, hb⟩
    have HB := Lib.hid hb
    clear hb
    go_wp2_with fail
    go_ret
    exact ⟨by rw [← HR.out]; rfl, HB.out⟩
  | true =>
    rw [hv, if_neg (by simp)] at HR
    go_enter Tryd.func13, Tryd.ntmps13
    go_wp2_with fail
    refine (Valid_any a0 w (by omega) HG.out).mono ?_
    rw [hv]
    rintro e w1 ⟨rfl, hb⟩
    have HB := Lib.hid hb
    clear hb hv
    go_wp2_with fail
    go_loopw [2] (fun v wr => v = .int .i64 0 ∧ ∃ pos b : Nat, wr = w1.iter a0 pos ∧ a0.size ≤ pos + b ∧ Hid ((runesF a0 b pos).any badR = (runes a0).any badR)) (fun _ wr => a0.size - wr.iterPos w1.heap.size)
    case atStart => exact ⟨rfl, 0, a0.size, rfl, by omega, Lib.hid rfl⟩
    case round =>
      obtain ⟨rfl, pos, b, rfl, hpb, HE⟩ := hrel
      have BI : Hid (Below w.heap.size w (w1.iter a0 pos)) := Lib.hid (bl_seq_ HB.out (below_alloc (Below.refl _ _) _))
      by_cases hp : pos < a0.size
      · have hnx : ∀ ty, (Instr.next (.pointer (some ⟨w1.heap.size, 0, none⟩)) true ty).run Tryd.prog (w1.iter a0 pos) = _ := fun ty => run_next_any w1 a0 pos ty hp
        have hwd := Lib.decode_width_pos a0 pos hp
        have hst := runesF_step a0 b pos hp hpb
        obtain ⟨x, hx⟩ : ∃ x, (Utf8.decode a0 pos).1 = x := ⟨_, rfl⟩
        obtain ⟨wd, hwd0⟩ : ∃ wd, (Utf8.decode a0 pos).2 = wd := ⟨_, rfl⟩
        rw [hx, hwd0] at hnx hst
        rw [hwd0] at hwd
        have HST := Lib.hid hst
        clear hst hx hwd0
        by_cases d1 : x = 47
        · have f1 : ((x : Int) == 47) = true := by simp [d1]
          have HA : Hid ((runes a0).any badR = true) := Lib.hid (by rw [← HE.out, HST.out, List.any_cons]; simp [badR, d1])
          rw [HA.out, if_pos rfl] at HR
          clear HST HE
          go_wp2
          go_ret
          exact ⟨by rw [← HR.out]; rfl, (bl_seq_ HB.out (below_alloc (Below.refl _ _) _))⟩
        have f1 : ((x : Int) == 47) = false := by simp; omega
        by_cases d2 : x < 32
        · have f2 : decide ((x : Int) < 32) = true := by simp; omega
          have f2n : decide (x < 32) = true := by simp [d2]
          have HA : Hid ((runes a0).any badR = true) := Lib.hid (by rw [← HE.out, HST.out, List.any_cons]; simp [badR, d2])
          rw [HA.out, if_pos rfl] at HR
          clear HST HE
          go_wp2
          go_ret
          exact ⟨by rw [← HR.out]; rfl, (bl_seq_ HB.out (below_alloc (Below.refl _ _) _))⟩
        have f2 : decide ((x : Int) < 32) = false := by simp; omega
        have f2n : decide (x < 32) = false := by simp; omega
        by_cases d3 : x = 127
        · have f3 : ((x : Int) == 127) = true := by simp [d3]
          have HA : Hid ((runes a0).any badR = true) := Lib.hid (by rw [← HE.out, HST.out, List.any_cons]; simp [badR, d3])
          rw [HA.out, if_pos rfl] at HR
          clear HST HE
          go_wp2
          go_ret
          exact ⟨by rw [← HR.out]; rfl, (bl_seq_ HB.out (below_alloc (Below.refl _ _) _))⟩
        have f3 : ((x : Int) == 127) = false := by simp; omega
        have HN : Hid ((runesF a0 b (pos + wd)).any badR = (runes a0).any badR) := Lib.hid (by
          have h_ := HE.out
          rw [HST.out, List.any_cons] at h_
          rw [← h_]
          simp [badR, d1, d2, d3])
        clear HST HE d1 d2 d3
        go_wp2
        go_roundw
        case rel => exact ⟨rfl, pos + wd, b, rfl, by omega, HN⟩
        case measure => simp; omega
      · have hnx : ∀ ty, (Instr.next (.pointer (some ⟨w1.heap.size, 0, none⟩)) true ty).run Tryd.prog (w1.iter a0 pos) = _ := fun ty => run_next_end w1 a0 pos ty hp
        have HA : Hid ((runes a0).any badR = false) := Lib.hid (by rw [← HE.out, runesF_end a0 b pos hp]; rfl)
        rw [HA.out, if_neg (by simp)] at HR
        clear HE
        go_wp2
        go_ret
        exact ⟨by rw [← HR.out]; rfl, BI.out⟩

-- NOT PRINTED: function 46 (utf8_RuneCountInString)

-- NOT PRINTED: function 52 (utf8_decodeRuneInStringSlow)

-- NOT PRINTED: function 47 (utf8_DecodeRuneInString)

-- NOT PRINTED: function 41 (strings_explode)

-- NOT PRINTED: function 57 (bytealg_IndexByteString)

-- NOT PRINTED: function 53 (stringslite_IndexByte)

-- NOT PRINTED: function 54 (bytealg_IndexString)




end Go.Proofs.YtjjhdddiabdfhaaDoor.XNam
