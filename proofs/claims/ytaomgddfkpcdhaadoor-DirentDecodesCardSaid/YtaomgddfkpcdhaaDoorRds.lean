import Derived.Test.YtaomgddfkpcdhaaDoorRdr
/-! The cursor's reader: U8, U16, U32. -/
set_option linter.unusedVariables false
set_option linter.unusedSimpArgs false
namespace Go.Proofs.YtaomgddfkpcdhaaDoor
open Go.RowKit Go.Proofs.YtaomgddfkpcdhaaDoorW.PrintWords
set_option maxHeartbeats 1000000 in
theorem rdU8_no (p : Nat) (A : Option Addr) (m c : Nat) (k : Int) (w : World) (h : RdV w p A m c k) (hk : 0 ≤ k) (hkm : k ≤ m) (hm : m ≤ 9223372036854775807) (hn : m - k < 1) :
    Calls Tryd.prog 21 #[.pointer (some ⟨p, 0, none⟩)] w fun e w' => e = .panicked (shortP k) ∧ ∃ q, w' = w.drewN q := by
  have hc := Lib.hid (rnum_no p A m c k 1 w h hk hkm hm (.inr hn))
  go_enter Tryd.func21, Tryd.ntmps21
  go_wp2_with fail
  refine hc.out.mono ?_
  rintro e w1 ⟨rfl, q, rfl⟩
  exact ⟨rfl, rfl, _, rfl⟩
set_option maxHeartbeats 1000000 in
theorem rdU8_yes (p : Nat) (A : Option Addr) (m c : Nat) (k : Nat) (xs : List Int) (w : World) (h : RdV w p A m c k) (hr : ReadsInt w .u8 A m xs) (hb : Byt xs) (hc : m ≤ c) (hkn : k + 1 ≤ m) (hne : ∀ a, A = some a → a.block ≠ p) :
    Calls Tryd.prog 21 #[.pointer (some ⟨p, 0, none⟩)] w fun e w' => e = .returned (.int .u8 (num ((xs.drop k).take 1))) ∧ ∃ q, w' = (w.drewN q).setCell ⟨p, 1, none⟩ (.int .i64 ((k : Int) + 1)) := by
  have hcc := Lib.hid (rnum_yes p A m c k 1 xs w h hr hb hc hkn (by omega) hne)
  have hl : ((xs.drop k).take 1).length = 1 := by rw [List.length_take, List.length_drop, hr.1]; omega
  have hy : Byt ((xs.drop k).take 1) := fun x hx => hb x (List.mem_of_mem_drop (List.mem_of_mem_take hx))
  have hnb := num_bound _ hy
  rw [hl] at hnb
  obtain ⟨z, hz⟩ : ∃ z, num ((xs.drop k).take 1) = z := ⟨_, rfl⟩
  rw [hz] at hcc hnb ⊢
  have z0 : 0 ≤ z := hnb.1
  have z1 : z < 256 := hnb.2
  clear hnb hy hl hr hb hne hz h
  go_enter Tryd.func21, Tryd.ntmps21
  go_wp2_with fail
  refine hcc.out.mono ?_
  rintro e w1 ⟨rfl, q, rfl⟩
  have hw : IntKind.u8.wrap z = z := by first | (rw [IntKind.wrap_u8]; omega) | (rw [IntKind.wrap_u8']; omega)
  go_wp2_with fail
  go_ret
  exact ⟨by first | rfl | simp [hw], q, rfl⟩
set_option maxHeartbeats 1000000 in
theorem rdU32_no (p : Nat) (A : Option Addr) (m c : Nat) (k : Int) (w : World) (h : RdV w p A m c k) (hk : 0 ≤ k) (hkm : k ≤ m) (hm : m ≤ 9223372036854775807) (hn : m - k < 4) :
    Calls Tryd.prog 10 #[.pointer (some ⟨p, 0, none⟩)] w fun e w' => e = .panicked (shortP k) ∧ ∃ q, w' = w.drewN q := by
  have hc := Lib.hid (rnum_no p A m c k 4 w h hk hkm hm (.inr hn))
  go_enter Tryd.func10, Tryd.ntmps10
  go_wp2_with fail
  refine hc.out.mono ?_
  rintro e w1 ⟨rfl, q, rfl⟩
  exact ⟨rfl, rfl, _, rfl⟩
set_option maxHeartbeats 1000000 in
theorem rdU32_yes (p : Nat) (A : Option Addr) (m c : Nat) (k : Nat) (xs : List Int) (w : World) (h : RdV w p A m c k) (hr : ReadsInt w .u8 A m xs) (hb : Byt xs) (hc : m ≤ c) (hkn : k + 4 ≤ m) (hne : ∀ a, A = some a → a.block ≠ p) :
    Calls Tryd.prog 10 #[.pointer (some ⟨p, 0, none⟩)] w fun e w' => e = .returned (.int .u32 (num ((xs.drop k).take 4))) ∧ ∃ q, w' = (w.drewN q).setCell ⟨p, 1, none⟩ (.int .i64 ((k : Int) + 4)) := by
  have hcc := Lib.hid (rnum_yes p A m c k 4 xs w h hr hb hc hkn (by omega) hne)
  have hl : ((xs.drop k).take 4).length = 4 := by rw [List.length_take, List.length_drop, hr.1]; omega
  have hy : Byt ((xs.drop k).take 4) := fun x hx => hb x (List.mem_of_mem_drop (List.mem_of_mem_take hx))
  have hnb := num_bound _ hy
  rw [hl] at hnb
  obtain ⟨z, hz⟩ : ∃ z, num ((xs.drop k).take 4) = z := ⟨_, rfl⟩
  rw [hz] at hcc hnb ⊢
  have z0 : 0 ≤ z := hnb.1
  have z1 : z < 4294967296 := hnb.2
  clear hnb hy hl hr hb hne hz h
  go_enter Tryd.func10, Tryd.ntmps10
  go_wp2_with fail
  refine hcc.out.mono ?_
  rintro e w1 ⟨rfl, q, rfl⟩
  have hw : IntKind.u32.wrap z = z := by first | (rw [IntKind.wrap_u32]; omega) | (rw [IntKind.wrap_u32']; omega)
  go_wp2_with fail
  go_ret
  exact ⟨by first | rfl | simp [hw], q, rfl⟩
end Go.Proofs.YtaomgddfkpcdhaaDoor
