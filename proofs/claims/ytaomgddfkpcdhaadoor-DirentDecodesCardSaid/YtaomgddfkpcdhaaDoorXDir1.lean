-- Printed by a program of this session (xprint.py) over the kit's print, with contracts of its own. Not trusted: Lean checks it.
import Derived.Test.YtaomgddfkpcdhaaDoorXDir0
namespace Go.Proofs.YtaomgddfkpcdhaaDoor.XDir
open Go.RowKit Go.Proofs.YtaomgddfkpcdhaaDoorW.PrintWords Go.Proofs.YtaomgddfkpcdhaaDoorW.PrintLast Go.Proofs.YtaomgddfkpcdhaaDoorW.PrintMore
attribute [local go_sem] max2_int min2_int max_two min_two max_three min_three max_four min_four   -- for this text's walks alone
set_option linter.unusedVariables false
set_option linter.unusedSimpArgs false

/-! ### names_Less: function 17 (of this session's own) -/
/-- The capacity, and the world, that a text's conversion to runes leaves. -/
def rcap (w : World) (s : ByteArray) : Nat := grownCap w (runes s).length 0 21
def rworld (w : World) (s : ByteArray) : World := w.drew.alloc (.cells (((runes s).map fun r : Nat => Value.int .i32 (r : Int)).toArray ++ Array.replicate (rcap w s - (runes s).length) (.int .i32 0)) 21)
theorem conv_size (s : ByteArray) : (Conv.runesFrom s s.size 0 #[]).size = (runes s).length := by rw [conv_runes]; simp [runes]
theorem conv_run (s : ByteArray) (hs : s.size ≤ 70368744177664) (w : World) : (convert 9 60 (.string s)).run Tryd.prog w = .ok (.slice (some ⟨w.heap.size, 0, none⟩) (runes s).length (rcap w s)) (rworld w s) := by
  have h := run_runes_of_string (P := Tryd.prog) w 9 60 21 s Tryd.underlying9 Tryd.underlying60 Tryd.underlying21 (by rw [conv_size]; exact Nat.le_trans (runes_length s) hs)
  rw [conv_size] at h
  rw [h, conv_runes]
  simp [rworld, rcap, runes]
theorem rworld_below (w : World) (s : ByteArray) : Below w.heap.size w (rworld w s) := below_alloc (below_drew (Below.refl _ _)) _
theorem rworld_cell (w : World) (s : ByteArray) (j : Nat) (h : j < (runes s).length) : (rworld w s).cell? ⟨w.heap.size, j, none⟩ = some (.int .i32 (((runes s)[j] : Nat) : Int)) := by
  show (w.drew.alloc (.cells (((runes s).map fun r : Nat => Value.int .i32 (r : Int)).toArray ++ Array.replicate (rcap w s - (runes s).length) (.int .i32 0)) 21)).cell? ⟨w.drew.heap.size, j, none⟩ = _
  rw [blk_cell (heap_alloc_new w.drew _) j, Array.getElem?_append_left (by simpa using h)]
  simp [h]
def names_Less.f (a0 : ByteArray) (a1 : ByteArray) : Option (Bool) := if a0.size ≤ 70368744177664 then (if a1.size ≤ 70368744177664 then some (lessS a0 a1) else none) else none
set_option maxHeartbeats 2000000 in
set_option maxRecDepth 100000 in
theorem names_Less.calls (a0 : ByteArray) (a1 : ByteArray) (r : Bool) (w : World) (h : names_Less.f a0 a1 = some r) :
    Calls Tryd.prog 17 #[.string a0, .string a1] w fun e w' => e = .returned (.bool r) ∧ Below w.heap.size w w' := by
  have h0 : a0.size ≤ 70368744177664 := by
    by_cases c : a0.size ≤ 70368744177664
    · exact c
    · simp [names_Less.f, c] at h
  have h1 : a1.size ≤ 70368744177664 := by
    by_cases c : a1.size ≤ 70368744177664
    · exact c
    · simp [names_Less.f, h0, c] at h
  have hR : Aside0 (lessS a0 a1 = r) := ⟨by simpa [names_Less.f, h0, h1] using h⟩
  have k0 := conv_run a0 h0
  have k1 := conv_run a1 h1
  have hl0 := Nat.le_trans (runes_length a0) h0
  have hl1 := Nat.le_trans (runes_length a1) h1
  have b0 := rworld_below w a0
  have b1 := rworld_below (rworld w a0) a1
  have hx : Aside0 (∀ j (h : j < (runes a0).length), (rworld (rworld w a0) a1).cell? ⟨w.heap.size, j, none⟩ = some (.int .i32 (((runes a0)[j] : Nat) : Int))) := ⟨fun j h => pw_cell_below b1 (rworld_cell w a0 j h)⟩
  have hy : Aside0 (∀ j (h : j < (runes a1).length), (rworld (rworld w a0) a1).cell? ⟨(rworld w a0).heap.size, j, none⟩ = some (.int .i32 (((runes a1)[j] : Nat) : Int))) := ⟨fun j h => rworld_cell (rworld w a0) a1 j h⟩
  have HB : Aside0 (Below w.heap.size w (rworld (rworld w a0) a1)) := ⟨below_then b0 b0.size b1⟩
  clear h b0 b1
  go_enter Tryd.func17, Tryd.ntmps17
  go_wp2
  obtain ⟨W2, hW2⟩ : ∃ W2, rworld (rworld w a0) a1 = W2 := ⟨_, rfl⟩
  rw [hW2] at hx hy HB ⊢
  obtain ⟨g1, hg1⟩ : ∃ g1, (rworld w a0).heap.size = g1 := ⟨_, rfl⟩
  rw [hg1] at hy ⊢
  clear hW2 hg1 k0 k1
  go_loopw [15] (fun i wr => ∃ j : Nat, i = .int .i64 (j : Int) ∧ j ≤ (runes a0).length ∧ j ≤ (runes a1).length ∧ Aside0 ((runes a0).take j = (runes a1).take j) ∧ wr = W2) (fun i _ => (runes a0).length - (intOf i).toNat)
  case atStart => exact ⟨0, rfl, Nat.zero_le _, Nat.zero_le _, ⟨by simp⟩, rfl⟩
  case round =>
    obtain ⟨j, rfl, hj0, hj1, HT, rfl⟩ := hrel
    by_cases c0 : j < (runes a0).length
    · have zx := hx.out j c0
      by_cases c1 : j < (runes a1).length
      · have zy := hy.out j c1
        by_cases c2 : (runes a0)[j] = (runes a1)[j]
        · have hn : Aside0 ((runes a0).take (j + 1) = (runes a1).take (j + 1)) := ⟨by rw [List.take_succ_eq_append_getElem c0, List.take_succ_eq_append_getElem c1, HT.out, c2]⟩
          have hb : ((((runes a0)[j] : Nat) : Int) != (((runes a1)[j] : Nat) : Int)) = false := by simp [c2]
          obtain ⟨x, hx0⟩ : ∃ x, (runes a0)[j] = x := ⟨_, rfl⟩
          obtain ⟨y, hy0⟩ : ∃ y, (runes a1)[j] = y := ⟨_, rfl⟩
          rw [hx0] at zx hb
          rw [hy0] at zy hb
          clear c2 hx0 hy0 HT
          go_wp2
          go_roundw
          case rel => exact ⟨j + 1, by go_num, by omega, by omega, hn, by first | rfl | trivial⟩
          case measure => simp [intOf]; omega
        · have hf := lessS_part HT.out c0 c1 c2
          rw [hR.out] at hf
          have hb : ((((runes a0)[j] : Nat) : Int) != (((runes a1)[j] : Nat) : Int)) = true := by simp; omega
          obtain ⟨x, hx0⟩ : ∃ x, (runes a0)[j] = x := ⟨_, rfl⟩
          obtain ⟨y, hy0⟩ : ∃ y, (runes a1)[j] = y := ⟨_, rfl⟩
          rw [hx0] at zx hb hf
          rw [hy0] at zy hb hf
          have HF : Aside0 (r = decide (x < y)) := ⟨hf⟩
          clear c2 hx0 hy0 HT hf
          go_wp2
          go_ret
          exact ⟨by rw [HF.out]; rfl, HB.out⟩
      · have hf := lessS_long HT.out c0 (by omega)
        rw [hR.out] at hf
        have HF : Aside0 (r = false) := ⟨hf⟩
        clear hf HT
        go_wp2
        go_ret
        exact ⟨by rw [HF.out]; rfl, HB.out⟩
    · obtain rfl : j = (runes a0).length := by omega
      have hf := lessS_end HT.out (by omega)
      rw [hR.out, ← bytesLess_nats] at hf
      by_cases c1 : (runes a0).length < (runes a1).length
      · have HF : Aside0 (r = true) := ⟨by rw [hf]; simp [c1]⟩
        clear hf HT
        go_wp2
        go_ret
        exact ⟨by rw [HF.out]; rfl, HB.out⟩
      · have ce : (runes a0).length = (runes a1).length := by omega
        have HF : Aside0 (r = Op.bytesLess a0.toList a1.toList) := ⟨by rw [hf]; simp [ce]⟩
        have hb1 : decide (((runes a0).length : Int) < ((runes a1).length : Int)) = false := by simp; omega
        have hb2 : (((runes a0).length : Int) == ((runes a1).length : Int)) = true := by simp [ce]
        clear hf HT
        go_wp2
        go_ret
        exact ⟨by rw [HF.out]; rfl, HB.out⟩

end Go.Proofs.YtaomgddfkpcdhaaDoor.XDir
