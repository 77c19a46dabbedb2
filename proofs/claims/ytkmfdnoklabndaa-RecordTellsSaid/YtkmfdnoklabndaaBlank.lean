import Derived.Test.YtkmfdnoklabndaaRopn
import Derived.Laws.StructEq
/-! record.Blank; headers that are equal. -/
set_option linter.unusedVariables false
set_option linter.unusedSimpArgs false
namespace Go.Proofs.Ytkmfdnoklabndaa
open Go.RowKit Go.Proofs.YtkmfdnoklabndaaW.PrintWords Go.Proofs.YtkmfdnoklabndaaW.PrintLast
def hdEq (h g : Hd) : Bool := h.k == g.k && (h.e == g.e && (h.b == g.b && (h.i == g.i && (h.c == g.c && (h.l == g.l && (h.m == g.m))))))
theorem hdEq_self (h : Hd) : hdEq h h = true := by simp [hdEq]
theorem hdEq_iff (h g : Hd) : hdEq h g = true ↔ h = g := by
  cases h; cases g; simp [hdEq]
set_option maxHeartbeats 2000000 in
theorem eqInHd (h g : Hd) (w : World) : (Op.equalIn 10000 25 (.agg (hdC h)) (.agg (hdC g))).run Try.prog w = .ok (hdEq h g) w := by
  rw [run_equalIn_struct _ 9999 25 _ _ (by kernel_rfl) (by kernel_rfl)]
  rw [show (Try.prog.fieldsOf 25).toList = _ from by simp [Program.fieldsOf, Try.underlying25]; rfl]
  simp only [Op.eqFields]
  obtain ⟨k, e, b, i, c, l, m⟩ := h
  obtain ⟨k', e', b', i', c', l', m'⟩ := g
  simp [go_sem, hdC, hdEq]
  by_cases h0 : k = k' <;> by_cases h1 : e = e' <;> by_cases h2 : b = b' <;> by_cases h3 : i = i' <;> by_cases h4 : c = c' <;> by_cases h5 : l = l' <;> by_cases h6 : m = m' <;> simp [h0, h1, h2, h3, h4, h5, h6]
theorem eqHd (h g : Hd) (w : World) : (binOp .eql 25 (.agg (hdC h)) (.agg (hdC g))).run Try.prog w = .ok (.bool (hdEq h g)) w := by rw [run_eql_struct, eqInHd]; rfl
theorem neHd (h g : Hd) (w : World) : (binOp .neq 25 (.agg (hdC h)) (.agg (hdC g))).run Try.prog w = .ok (.bool (!hdEq h g)) w := by rw [run_neq_struct, eqInHd]; rfl
set_option maxHeartbeats 4000000 in
set_option maxRecDepth 100000 in
theorem Blank_any (A B : Option Addr) (n m c d : Nat) (xs ys : List Int) (w : World) (hr : ReadsInt w .u8 A n xs) (hs : ReadsInt w .u8 B m ys) :
    Calls Try.prog 18 #[.slice A n c, .slice B m d] w fun e w' => e = .returned (.bool (xs.all (· == 255) && ys.all (· == 255))) ∧ Drawn0 w w' := by
  have hm := hr.2.1
  have hm2 := hs.2.1
  have HR := Lib.hid (And.intro hr trivial)
  have HS := Lib.hid (And.intro hs trivial)
  have hix0 : ∀ w : World, (Instr.index 85 (.agg #[.slice A n c, .slice B m d]) (.int .i64 0)).run Try.prog w = .ok (.slice A n c) w := fun w => by first | rfl | kernel_rfl | (simp [go_sem, Instr.index, Program.cellsOf, Try.underlying85]; done)
  have hix1 : ∀ w : World, (Instr.index 85 (.agg #[.slice A n c, .slice B m d]) (.int .i64 1)).run Try.prog w = .ok (.slice B m d) w := fun w => by first | rfl | kernel_rfl | (simp [go_sem, Instr.index, Program.cellsOf, Try.underlying85]; done)
  clear hr hs
  go_enter Try.func18, Try.ntmps18
  go_wp2
  go_loopw [12] (fun i wr => ∃ k : Nat, k ≤ 2 ∧ i = .int .i64 (k : Int) ∧ Hid (1 ≤ k → xs.all (· == 255) = true) ∧ Hid (2 ≤ k → ys.all (· == 255) = true) ∧ Hid (Drawn0 w wr)) (fun i _ => 2 - (intOf i).toNat)
  case atStart => exact ⟨0, by omega, rfl, Lib.hid (fun h => by omega), Lib.hid (fun h => by omega), Lib.hid (Drawn0.refl _)⟩
  case round =>
    obtain ⟨k, hk, rfl, HX, HY, HD⟩ := hrel
    have hk3 : k = 0 ∨ k = 1 ∨ k = 2 := by omega
    rcases hk3 with rfl | rfl | rfl
    · skip
      go_wp2
      go_loopw [17] (fun i wr2 => ∃ j : Nat, j ≤ n ∧ i = .int .i64 (j : Int) ∧ Hid ((xs.take j).all (· == 255) = true) ∧ Hid (Drawn0 w wr2)) (fun i _ => n - (intOf i).toNat)
      case atStart => exact ⟨0, Nat.zero_le _, rfl, Lib.hid (by simp), by first | exact HD | exact Lib.hid (HD.out.step _)⟩
      case round =>
        obtain ⟨j, hj, rfl, HT, HD2⟩ := hrel
        clear HD
        by_cases hlt2 : j < n
        · have hr1 := HR.out.1.below HD2.out.below
          obtain ⟨ad2, he2, hc2⟩ := hr1.at_ (j : Int) (by omega) (by omega)
          have hA2 : A = some ad2 := he2
          have hlen := hr1.1
          have hsn : xs.take (j + 1) = xs.take j ++ [xs.getD j 0] := by rw [List.take_succ_eq_append_getElem (by omega), List.getD_eq_getElem?_getD, List.getElem?_eq_getElem (by omega)]; rfl
          have hmem : xs.getD j 0 ∈ xs := by rw [List.getD_eq_getElem?_getD, List.getElem?_eq_getElem (by omega)]; simp
          rw [Int.toNat_natCast, rd_getD] at hc2
          obtain ⟨x, hx⟩ : ∃ x, xs.getD j 0 = x := ⟨_, rfl⟩
          rw [hx] at hc2 hsn hmem
          have HSN := Lib.hid hsn
          have HMEM := Lib.hid hmem
          clear hr1 he2 hx hsn hmem hlen
          by_cases h255 : x = 255
          · have b255 : (x != 255) = false := by simp [h255]
            go_wp2
            go_roundw
            case rel => exact ⟨j + 1, by omega, by go_num, Lib.hid (by rw [HSN.out, List.all_append, HT.out]; simp [h255]), by first | exact HD2 | exact Lib.hid (HD2.out.step _)⟩
            case measure => simp [intOf]; omega
          · have b255 : (x != 255) = true := by simpa using h255
            go_wp2
            go_ret
            have hno : xs.all (· == 255) = false := by
              rw [List.all_eq_false]
              exact ⟨x, HMEM.out, by simpa using h255⟩
            exact ⟨by rw [hno]; simp, by first | exact HD2.out | exact HD2.out.step _⟩
        · have hfin : xs.take j = xs := List.take_of_length_le (by have h_ := HR.out.1.1; omega)
          rw [hfin] at HT
          clear hfin
          go_wp2
          go_roundw
          case rel => exact ⟨1, by omega, by go_num, Lib.hid (fun _ => HT.out), Lib.hid (fun h => by omega), by first | exact HD2 | exact Lib.hid (HD2.out.step _)⟩
          case measure => simp [intOf]
    · skip
      go_wp2
      go_loopw [17] (fun i wr2 => ∃ j : Nat, j ≤ m ∧ i = .int .i64 (j : Int) ∧ Hid ((ys.take j).all (· == 255) = true) ∧ Hid (Drawn0 w wr2)) (fun i _ => m - (intOf i).toNat)
      case atStart => exact ⟨0, Nat.zero_le _, rfl, Lib.hid (by simp), by first | exact HD | exact Lib.hid (HD.out.step _)⟩
      case round =>
        obtain ⟨j, hj, rfl, HT, HD2⟩ := hrel
        clear HD
        by_cases hlt2 : j < m
        · have hr1 := HS.out.1.below HD2.out.below
          obtain ⟨ad2, he2, hc2⟩ := hr1.at_ (j : Int) (by omega) (by omega)
          have hA2 : B = some ad2 := he2
          have hlen := hr1.1
          have hsn : ys.take (j + 1) = ys.take j ++ [ys.getD j 0] := by rw [List.take_succ_eq_append_getElem (by omega), List.getD_eq_getElem?_getD, List.getElem?_eq_getElem (by omega)]; rfl
          have hmem : ys.getD j 0 ∈ ys := by rw [List.getD_eq_getElem?_getD, List.getElem?_eq_getElem (by omega)]; simp
          rw [Int.toNat_natCast, rd_getD] at hc2
          obtain ⟨x, hx⟩ : ∃ x, ys.getD j 0 = x := ⟨_, rfl⟩
          rw [hx] at hc2 hsn hmem
          have HSN := Lib.hid hsn
          have HMEM := Lib.hid hmem
          clear hr1 he2 hx hsn hmem hlen
          by_cases h255 : x = 255
          · have b255 : (x != 255) = false := by simp [h255]
            go_wp2
            go_roundw
            case rel => exact ⟨j + 1, by omega, by go_num, Lib.hid (by rw [HSN.out, List.all_append, HT.out]; simp [h255]), by first | exact HD2 | exact Lib.hid (HD2.out.step _)⟩
            case measure => simp [intOf]; omega
          · have b255 : (x != 255) = true := by simpa using h255
            go_wp2
            go_ret
            have hno : ys.all (· == 255) = false := by
              rw [List.all_eq_false]
              exact ⟨x, HMEM.out, by simpa using h255⟩
            exact ⟨by rw [hno]; simp, by first | exact HD2.out | exact HD2.out.step _⟩
        · have hfin : ys.take j = ys := List.take_of_length_le (by have h_ := HS.out.1.1; omega)
          rw [hfin] at HT
          clear hfin
          go_wp2
          go_roundw
          case rel => exact ⟨2, by omega, by go_num, Lib.hid (fun _ => HX.out (by omega)), Lib.hid (fun _ => HT.out), by first | exact HD2 | exact Lib.hid (HD2.out.step _)⟩
          case measure => simp [intOf]
    · go_wp2
      go_ret
      exact ⟨by rw [HX.out (by omega), HY.out (by omega)]; rfl, by first | exact HD.out | exact HD.out.step _⟩
end Go.Proofs.Ytkmfdnoklabndaa
