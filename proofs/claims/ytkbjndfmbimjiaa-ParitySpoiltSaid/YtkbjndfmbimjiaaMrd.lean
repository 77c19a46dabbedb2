import Derived.Test.YtkbjndfmbimjiaaReg
import Derived.Defers
import Derived.Recover
import Derived.WalkSmall
import Derived.Laws.BitsAllLaws
import Derived.Laws.Pointers
import Derived.Test.YtkbjndfmbimjiaaWLast
import Derived.WalkSpells
/-! The cursor's reader: take. -/
set_option linter.unusedVariables false
set_option linter.unusedSimpArgs false
namespace Go.Proofs.Ytkbjndfmbimjiaa
open Go.RowKit Go.Proofs.YtkbjndfmbimjiaaW.PrintWords
/-- The reader at p: its bytes, its place. -/
abbrev RdV (w : World) (p : Nat) (A : Option Addr) (n c : Nat) (k : Int) : Prop := w.heap[p]? = some (.cells #[.slice A n c, .int .i64 k] 99 (0, 0))
/-- What a reader gives up with. -/
abbrev shortP (k : Int) : List PanicEntry := [{ v := .iface 96 (.agg #[.int .i64 k]), recovered := false }]
theorem rd_set {w : World} {k : IntKind} {A : Option Addr} {n p : Nat} {xs : List Int} (h : ReadsInt w k A n xs) (hne : ∀ a, A = some a → a.block ≠ p) (q : Nat) (v : Value) : ReadsInt ((w.drewN q).setCell ⟨p, 1, none⟩ v) k A n xs :=
  reads_keep (h.drewN q) (KeepBut.set_ (KeepBut.refl (w.drewN q) p none) 1 v) (fun _ a ha => ⟨hne a ha, by simp⟩)
set_option maxHeartbeats 1000000 in
theorem take_no (p : Nat) (A : Option Addr) (m c : Nat) (k n : Int) (w : World) (h : RdV w p A m c k) (hk : 0 ≤ k) (hkm : k ≤ m) (hm : m ≤ 9223372036854775807) (hn : n < 0 ∨ m - k < n) :
    Calls Try.prog 49 #[.pointer (some ⟨p, 0, none⟩), .int .i64 n] w fun e w' => e = .panicked (shortP k) ∧ ∃ q, w' = w.drewN q := by
  have z0 := (blk_cell h 0).trans rfl
  have z1 := (blk_cell h 1).trans rfl
  by_cases c0 : n < 0
  · clear hn
    go_enter Try.func49, Try.ntmps49
    go_wp2
    go_quiet (fail)
    go_wp2
    exact ⟨rfl, rfl, _, rfl⟩
  · have c1 : (m : Int) - k < n := by omega
    clear hn
    go_enter Try.func49, Try.ntmps49
    go_wp2
    have c0 : ¬ n < 0 := by omega
    go_quiet (fail)
    go_wp2
    exact ⟨rfl, rfl, _, rfl⟩
set_option maxHeartbeats 1000000 in
theorem take_yes (p : Nat) (A : Option Addr) (m c : Nat) (k n : Nat) (xs : List Int) (w : World) (h : RdV w p A m c k) (hr : ReadsInt w .u8 A m xs) (hc : m ≤ c) (hkn : k + n ≤ m) (hne : ∀ a, A = some a → a.block ≠ p) :
    Calls Try.prog 49 #[.pointer (some ⟨p, 0, none⟩), .int .i64 n] w fun e w' => ∃ B d, e = .returned (.slice B n d) ∧ ReadsInt w' .u8 B n ((xs.drop k).take n) ∧ n ≤ d ∧ (∀ b, B = some b → b.block ≠ p) ∧ ∃ q, w' = (w.drewN q).setCell ⟨p, 1, none⟩ (.int .i64 ((k : Int) + n)) := by
  have hm := hr.2.1
  have z0 := (blk_cell h 0).trans rfl
  have z1 := (blk_cell h 1).trans rfl
  have zf := blk_frozen h 1
  have hd := (hr.drop_ k (by omega) hc).take_ n (by omega)
  have HD := Lib.hid hd
  have e0 : ((k : Int) + (n : Int)).toNat - (k : Int).toNat = n := by omega
  have e1 : (k : Int).toNat = k := by omega
  clear hr hd
  by_cases ck : c = k
  · subst ck
    rw [if_pos rfl] at HD
    have HN : Hid (∀ B : Option Addr, B = A → ∀ b, B = some b → b.block ≠ p) := Lib.hid (by rintro B rfl b hb; exact hne b hb)
    clear hne
    have e3 : c + n - c = n := by omega
    go_enter Try.func49, Try.ntmps49
    go_wp2
    have c0 : ¬ (n : Int) < 0 := by omega
    have c1 : ¬ (m : Int) - (c : Int) < n := by omega
    go_quiet (fail)
    go_wp2
    go_quiet (fail)
    go_wp2
    rw [e3]
    go_ret
    exact ⟨_, _, rfl, rd_set HD.out (HN.out _ rfl) _ _, by omega, HN.out _ rfl, _, rfl⟩
  · rw [if_neg ck] at HD
    have HN : Hid (∀ b, A.map (fun x => x.add k) = some b → b.block ≠ p) := Lib.hid (by intro b hb; cases A with | none => cases hb | some a => (simp at hb; subst hb; have h_ := hne a rfl; unfold Addr.add; split <;> simpa using h_))
    clear hne
    have e3 : k + n - k = n := by omega
    go_enter Try.func49, Try.ntmps49
    go_wp2
    have c0 : ¬ (n : Int) < 0 := by omega
    have c1 : ¬ (m : Int) - (k : Int) < n := by omega
    go_quiet (fail)
    go_wp2
    go_quiet (fail)
    go_wp2
    rw [e3]
    go_ret
    exact ⟨_, _, rfl, rd_set HD.out HN.out _ _, by omega, HN.out, _, rfl⟩
set_option maxHeartbeats 1000000 in
theorem rnum_no (p : Nat) (A : Option Addr) (m c : Nat) (k n : Int) (w : World) (h : RdV w p A m c k) (hk : 0 ≤ k) (hkm : k ≤ m) (hm : m ≤ 9223372036854775807) (hn : n < 0 ∨ m - k < n) :
    Calls Try.prog 48 #[.pointer (some ⟨p, 0, none⟩), .int .i64 n] w fun e w' => e = .panicked (shortP k) ∧ ∃ q, w' = w.drewN q := by
  have hc := Lib.hid (take_no p A m c k n w h hk hkm hm hn)
  clear hn
  go_enter Try.func48, Try.ntmps48
  go_wp2_with fail
  refine hc.out.mono ?_
  rintro e w1 ⟨rfl, q, rfl⟩
  exact ⟨rfl, rfl, _, rfl⟩
set_option maxRecDepth 100000 in
theorem or_shift (a x : Int) (j : Nat) (ha : 0 ≤ a) (ha2 : a < 256 ^ j) (x0 : 0 ≤ x) (x1 : x < 256) (hj : j < 8) : Go.bits .or .u64 a (IntKind.u64.wrap (x * 2 ^ (8 * j))) = a + x * 256 ^ j := by
  obtain ⟨A, rfl⟩ := Int.eq_ofNat_of_zero_le ha
  obtain ⟨X, rfl⟩ := Int.eq_ofNat_of_zero_le x0
  have hp : (2 : Nat) ^ (8 * j) = 256 ^ j := by rw [Nat.pow_mul]
  have hA : A < 2 ^ (8 * j) := by rw [hp]; exact_mod_cast ha2
  have hX : X < 256 := by omega
  have hq : (256 : Nat) ^ j ≤ 256 ^ 7 := Nat.pow_le_pow_right (by omega) (by omega)
  have hm : X * 256 ^ j < 18446744073709551616 := by
    have h1 : X * 256 ^ j ≤ 255 * 256 ^ 7 := Nat.mul_le_mul (by omega) hq
    omega
  have e1 : ((X : Int) * 2 ^ (8 * j)) = ((X * 256 ^ j : Nat) : Int) := by rw [← hp]; push_cast; rfl
  have e2 : IntKind.u64.wrap ((X * 256 ^ j : Nat) : Int) = ((X * 256 ^ j : Nat) : Int) := by generalize X * 256 ^ j = Z at hm; rw [IntKind.wrap_u64]; omega
  have hA2 : A < 18446744073709551616 := by
    have : A < 256 ^ 7 := by rw [hp] at hA; omega
    omega
  rw [e1, e2, u64_or_nat A (X * 256 ^ j) hA2 hm]
  have h3 := Nat.shiftLeft_add_eq_or_of_lt hA X
  rw [Nat.shiftLeft_eq, hp] at h3
  rw [Nat.or_comm, ← h3]
  push_cast
  omega
set_option maxHeartbeats 2000000 in
set_option maxRecDepth 100000 in
theorem rnum_yes (p : Nat) (A : Option Addr) (m c : Nat) (k n : Nat) (xs : List Int) (w : World) (h : RdV w p A m c k) (hr : ReadsInt w .u8 A m xs) (hb : Byt xs) (hc : m ≤ c) (hkn : k + n ≤ m) (hn : n ≤ 8) (hne : ∀ a, A = some a → a.block ≠ p) :
    Calls Try.prog 48 #[.pointer (some ⟨p, 0, none⟩), .int .i64 n] w fun e w' => e = .returned (.int .u64 (num ((xs.drop k).take n))) ∧ ∃ q, w' = (w.drewN q).setCell ⟨p, 1, none⟩ (.int .i64 ((k : Int) + n)) := by
  have hcc := Lib.hid (take_yes p A m c k n xs w h hr hc hkn hne)
  have hl : ((xs.drop k).take n).length = n := by rw [List.length_take, List.length_drop, hr.1]; omega
  have hy : Byt ((xs.drop k).take n) := fun x hx => hb x (List.mem_of_mem_drop (List.mem_of_mem_take hx))
  obtain ⟨ys, hys⟩ : ∃ ys, (xs.drop k).take n = ys := ⟨_, rfl⟩
  rw [hys] at hcc hl hy ⊢
  have HY := Lib.hid hy
  clear hr hb hne hys hy h
  go_enter Try.func48, Try.ntmps48
  go_wp2_with fail
  refine hcc.out.mono ?_
  rintro e w1 ⟨B, d, rfl, hb, hd, _, q, hw⟩
  have HW := Lib.hid hw
  have HB := Lib.hid hb
  clear hcc hw hb
  go_wp2
  go_loopw [5, 12] (fun v i wr => ∃ (j : Nat), v = .int .u64 (num (ys.take j)) ∧ i = .int .i64 (j : Int) ∧ j ≤ n ∧ wr = w1) (fun _ i _ => n - (intOf i).toNat)
  case atStart => exact ⟨0, by simp [num], rfl, by omega, rfl⟩
  case round =>
    obtain ⟨j, rfl, rfl, hj, rfl⟩ := hrel
    by_cases hlt : j < n
    · obtain ⟨ad, rfl, hcell⟩ := HB.out.at_ j (by omega) (by omega)
      rw [rd_getD, Int.toNat_natCast] at hcell
      have hj2 : j < ys.length := by omega
      have hx : 0 ≤ ys.getD j 0 ∧ ys.getD j 0 < 256 := HY.out _ (by rw [List.getD_eq_getElem?_getD, List.getElem?_eq_getElem hj2]; exact List.getElem_mem hj2)
      have htk : num (ys.take (j + 1)) = num (ys.take j) + ys.getD j 0 * 256 ^ j := by
        rw [List.take_succ_eq_append_getElem hj2, num_snoc, List.length_take, Nat.min_eq_left (by omega), List.getD_eq_getElem?_getD, List.getElem?_eq_getElem hj2]; rfl
      have HT := Lib.hid htk
      obtain ⟨x, hxe⟩ : ∃ x, ys.getD j 0 = x := ⟨_, rfl⟩
      rw [hxe] at hcell hx HT
      obtain ⟨x0, x1⟩ := hx
      clear htk hxe hj2
      have hnb := num_bound (ys.take j) (fun x hx => HY.out x (List.mem_of_mem_take hx))
      rw [List.length_take, Nat.min_eq_left (by omega)] at hnb
      have HO := Lib.hid (or_shift (num (ys.take j)) x j hnb.1 hnb.2 x0 x1 (by omega))
      clear hnb
      go_wp2
      rw [HO.out, ← HT.out]
      exact ⟨⟨j + 1, rfl, by go_num, by omega, trivial⟩, by simp [intOf]; omega⟩
    · have hjn : j = n := by omega
      have hfin : ys.take j = ys := List.take_of_length_le (by omega)
      have HF := Lib.hid hfin
      clear hfin
      go_wp2
      rw [HF.out]
      go_ret
      exact ⟨rfl, q, HW.out⟩
end Go.Proofs.Ytkbjndfmbimjiaa

/-! The cursor's reader: numbers; cursor.Read. -/
set_option linter.unusedVariables false
set_option linter.unusedSimpArgs false
namespace Go.Proofs.Ytkbjndfmbimjiaa
open Go.RowKit Go.Proofs.YtkbjndfmbimjiaaW.PrintWords
theorem catch_idle (p : Addr) (w : World) :
    CallsD Try.prog 47 #[.pointer (some p)] .returning w fun e u' w' => e = .returned (.tuple #[]) ∧ u' = .returning ∧ w' = w := by
  refine callsD_of_wpS Try.func47 rfl fun c₀ cs hu => ?_
  apply wpS_seq
  apply wpS_region
  simp [wpOpsS, go_sem, recoverD, hu, Try.ntmps47, Exit.thenS]
  refine wpS_of_wp ?_
  go_wp2
  cases c₀
  simp_all [bodyPostS, results, Try.results47]
theorem assert_short (k : Int) (w : World) : (Instr.typeAssert (.iface 96 (.agg #[.int .i64 k])) 20 96 true).run Try.prog w = .ok (.tuple #[.agg #[.int .i64 k], .bool true]) w := by
  kernel_rfl
set_option maxHeartbeats 2000000 in
theorem catch_panicking (p : Nat) (x : Int) (k : Int) (w : World) (hb : w.heap[p]? = some (.cells #[.int .i64 x] 52 (0, 0))) :
    CallsD Try.prog 47 #[.pointer (some ⟨p, 0, none⟩)] (.panicking (shortP k)) w fun e u' w' =>
      e = .returned (.tuple #[]) ∧ u' = .panicking [{ v := .iface 96 (.agg #[.int .i64 k]), recovered := true }] ∧ ∃ o, w' = (w.setCell ⟨p, 0, none⟩ (.int .i64 62)).alloc o := by
  refine callsD_of_wpS Try.func47 rfl fun c₀ cs hu => ?_
  rw [show (#[Value.pointer (some ⟨p, 0, none⟩)] ++ Array.replicate (Try.f47.ntmps - (#[Value.pointer (some ⟨p, 0, none⟩)]).size) undef) = #[.pointer (some ⟨p, 0, none⟩), undef, undef, undef, undef, undef, undef, undef, undef, undef, undef, undef, undef, undef, undef] from by rw [Try.ntmps47]; rfl]
  apply wpS_seq
  apply wpS_region
  simp [wpOpsS, go_sem, recoverD, hu, Exit.thenS]
  have has := assert_short k
  have hc := (blk_cell hb 0).trans rfl
  have hz := blk_frozen hb 0
  have hlt := blk_lt hb
  have hne : ¬ p = w.heap.size := by omega
  have hne2 : ¬ w.heap.size = p := by omega
  have hc2 : ∀ o, (w.alloc o).cell? ⟨p, 0, none⟩ = some (.int .i64 x) := fun o => (blk_cell (blk_alloc hb o) 0).trans rfl
  have hz2 : ∀ o, (w.alloc o).frozen? ⟨p, 0, none⟩ = false := fun o => blk_frozen (blk_alloc hb o) 0
  refine wpS_of_wp ?_
  go_wp2
  simp [bodyPostS, results, Try.results47]
  exact ⟨_, rfl⟩
end Go.Proofs.Ytkbjndfmbimjiaa

/-! The cursor's reader: U8, U16, U32. -/
set_option linter.unusedVariables false
set_option linter.unusedSimpArgs false
namespace Go.Proofs.Ytkbjndfmbimjiaa
open Go.RowKit Go.Proofs.YtkbjndfmbimjiaaW.PrintWords
set_option maxHeartbeats 1000000 in
theorem rdU8_no (p : Nat) (A : Option Addr) (m c : Nat) (k : Int) (w : World) (h : RdV w p A m c k) (hk : 0 ≤ k) (hkm : k ≤ m) (hm : m ≤ 9223372036854775807) (hn : m - k < 1) :
    Calls Try.prog 41 #[.pointer (some ⟨p, 0, none⟩)] w fun e w' => e = .panicked (shortP k) ∧ ∃ q, w' = w.drewN q := by
  have hc := Lib.hid (rnum_no p A m c k 1 w h hk hkm hm (.inr hn))
  go_enter Try.func41, Try.ntmps41
  go_wp2_with fail
  refine hc.out.mono ?_
  rintro e w1 ⟨rfl, q, rfl⟩
  exact ⟨rfl, rfl, _, rfl⟩
set_option maxHeartbeats 1000000 in
theorem rdU8_yes (p : Nat) (A : Option Addr) (m c : Nat) (k : Nat) (xs : List Int) (w : World) (h : RdV w p A m c k) (hr : ReadsInt w .u8 A m xs) (hb : Byt xs) (hc : m ≤ c) (hkn : k + 1 ≤ m) (hne : ∀ a, A = some a → a.block ≠ p) :
    Calls Try.prog 41 #[.pointer (some ⟨p, 0, none⟩)] w fun e w' => e = .returned (.int .u8 (num ((xs.drop k).take 1))) ∧ ∃ q, w' = (w.drewN q).setCell ⟨p, 1, none⟩ (.int .i64 ((k : Int) + 1)) := by
  have hcc := Lib.hid (rnum_yes p A m c k 1 xs w h hr hb hc hkn (by omega) hne)
  have hl : ((xs.drop k).take 1).length = 1 := by rw [List.length_take, List.length_drop, hr.1]; omega
  have hy : Byt ((xs.drop k).take 1) := fun x hx => hb x (List.mem_of_mem_drop (List.mem_of_mem_take hx))
  have hnb := num_bound _ hy
  rw [hl] at hnb
  obtain ⟨z, hz⟩ : ∃ z, num ((xs.drop k).take 1) = z := ⟨_, rfl⟩
  rw [hz] at hcc hnb ⊢
  have z0 : 0 ≤ z := hnb.1
  have z1 : z < 256 := hnb.2
  clear hnb hy hl hr hb hne hz h
  go_enter Try.func41, Try.ntmps41
  go_wp2_with fail
  refine hcc.out.mono ?_
  rintro e w1 ⟨rfl, q, rfl⟩
  have hw : IntKind.u8.wrap z = z := by first | (rw [IntKind.wrap_u8]; omega) | (rw [IntKind.wrap_u8']; omega)
  go_wp2_with fail
  go_ret
  exact ⟨by first | rfl | simp [hw], q, rfl⟩
set_option maxHeartbeats 1000000 in
theorem rdU16_no (p : Nat) (A : Option Addr) (m c : Nat) (k : Int) (w : World) (h : RdV w p A m c k) (hk : 0 ≤ k) (hkm : k ≤ m) (hm : m ≤ 9223372036854775807) (hn : m - k < 2) :
    Calls Try.prog 40 #[.pointer (some ⟨p, 0, none⟩)] w fun e w' => e = .panicked (shortP k) ∧ ∃ q, w' = w.drewN q := by
  have hc := Lib.hid (rnum_no p A m c k 2 w h hk hkm hm (.inr hn))
  go_enter Try.func40, Try.ntmps40
  go_wp2_with fail
  refine hc.out.mono ?_
  rintro e w1 ⟨rfl, q, rfl⟩
  exact ⟨rfl, rfl, _, rfl⟩
set_option maxHeartbeats 1000000 in
theorem rdU16_yes (p : Nat) (A : Option Addr) (m c : Nat) (k : Nat) (xs : List Int) (w : World) (h : RdV w p A m c k) (hr : ReadsInt w .u8 A m xs) (hb : Byt xs) (hc : m ≤ c) (hkn : k + 2 ≤ m) (hne : ∀ a, A = some a → a.block ≠ p) :
    Calls Try.prog 40 #[.pointer (some ⟨p, 0, none⟩)] w fun e w' => e = .returned (.int .u16 (num ((xs.drop k).take 2))) ∧ ∃ q, w' = (w.drewN q).setCell ⟨p, 1, none⟩ (.int .i64 ((k : Int) + 2)) := by
  have hcc := Lib.hid (rnum_yes p A m c k 2 xs w h hr hb hc hkn (by omega) hne)
  have hl : ((xs.drop k).take 2).length = 2 := by rw [List.length_take, List.length_drop, hr.1]; omega
  have hy : Byt ((xs.drop k).take 2) := fun x hx => hb x (List.mem_of_mem_drop (List.mem_of_mem_take hx))
  have hnb := num_bound _ hy
  rw [hl] at hnb
  obtain ⟨z, hz⟩ : ∃ z, num ((xs.drop k).take 2) = z := ⟨_, rfl⟩
  rw [hz] at hcc hnb ⊢
  have z0 : 0 ≤ z := hnb.1
  have z1 : z < 65536 := hnb.2
  clear hnb hy hl hr hb hne hz h
  go_enter Try.func40, Try.ntmps40
  go_wp2_with fail
  refine hcc.out.mono ?_
  rintro e w1 ⟨rfl, q, rfl⟩
  have hw : IntKind.u16.wrap z = z := by first | (rw [IntKind.wrap_u16]; omega) | (rw [IntKind.wrap_u16']; omega)
  go_wp2_with fail
  go_ret
  exact ⟨by first | rfl | simp [hw], q, rfl⟩
set_option maxHeartbeats 1000000 in
theorem rdU32_no (p : Nat) (A : Option Addr) (m c : Nat) (k : Int) (w : World) (h : RdV w p A m c k) (hk : 0 ≤ k) (hkm : k ≤ m) (hm : m ≤ 9223372036854775807) (hn : m - k < 4) :
    Calls Try.prog 42 #[.pointer (some ⟨p, 0, none⟩)] w fun e w' => e = .panicked (shortP k) ∧ ∃ q, w' = w.drewN q := by
  have hc := Lib.hid (rnum_no p A m c k 4 w h hk hkm hm (.inr hn))
  go_enter Try.func42, Try.ntmps42
  go_wp2_with fail
  refine hc.out.mono ?_
  rintro e w1 ⟨rfl, q, rfl⟩
  exact ⟨rfl, rfl, _, rfl⟩
set_option maxHeartbeats 1000000 in
theorem rdU32_yes (p : Nat) (A : Option Addr) (m c : Nat) (k : Nat) (xs : List Int) (w : World) (h : RdV w p A m c k) (hr : ReadsInt w .u8 A m xs) (hb : Byt xs) (hc : m ≤ c) (hkn : k + 4 ≤ m) (hne : ∀ a, A = some a → a.block ≠ p) :
    Calls Try.prog 42 #[.pointer (some ⟨p, 0, none⟩)] w fun e w' => e = .returned (.int .u32 (num ((xs.drop k).take 4))) ∧ ∃ q, w' = (w.drewN q).setCell ⟨p, 1, none⟩ (.int .i64 ((k : Int) + 4)) := by
  have hcc := Lib.hid (rnum_yes p A m c k 4 xs w h hr hb hc hkn (by omega) hne)
  have hl : ((xs.drop k).take 4).length = 4 := by rw [List.length_take, List.length_drop, hr.1]; omega
  have hy : Byt ((xs.drop k).take 4) := fun x hx => hb x (List.mem_of_mem_drop (List.mem_of_mem_take hx))
  have hnb := num_bound _ hy
  rw [hl] at hnb
  obtain ⟨z, hz⟩ : ∃ z, num ((xs.drop k).take 4) = z := ⟨_, rfl⟩
  rw [hz] at hcc hnb ⊢
  have z0 : 0 ≤ z := hnb.1
  have z1 : z < 4294967296 := hnb.2
  clear hnb hy hl hr hb hne hz h
  go_enter Try.func42, Try.ntmps42
  go_wp2_with fail
  refine hcc.out.mono ?_
  rintro e w1 ⟨rfl, q, rfl⟩
  have hw : IntKind.u32.wrap z = z := by first | (rw [IntKind.wrap_u32]; omega) | (rw [IntKind.wrap_u32']; omega)
  go_wp2_with fail
  go_ret
  exact ⟨by first | rfl | simp [hw], q, rfl⟩
end Go.Proofs.Ytkbjndfmbimjiaa

/-! cursor.Read, by its closure's contract. -/
set_option linter.unusedVariables false
set_option linter.unusedSimpArgs false
namespace Go.Proofs.Ytkbjndfmbimjiaa
open Go.RowKit Go.Proofs.YtkbjndfmbimjiaaW.PrintWords Go.Proofs.YtkbjndfmbimjiaaW.PrintLast
set_option maxHeartbeats 2000000 in
set_option maxRecDepth 100000 in
theorem read_any (A : Option Addr) (n c g : Nat) (cap : Array Value) (w : World) (R1 R2 : World → Prop) (fn : Func) (hf : Try.prog.funcs[g]? = some fn) (hname : (fn.name == "runtime.NumGoroutine") = false) (hbody : fn.body.isSome = true)
    (hcall : Hid (Calls Try.prog g (#[.pointer (some ⟨w.heap.size + 1, 0, none⟩)] ++ cap) ((w.alloc (.cells #[.int .i64 0] 52)).alloc (.cells #[.slice A n c, .int .i64 0] 99)) fun e w' => w'.heap[w.heap.size]? = some (.cells #[.int .i64 0] 52 (0, 0)) ∧ ((e = .returned (.tuple #[]) ∧ R1 w') ∨ ∃ k, e = .panicked (shortP k) ∧ R2 w'))) :
    Calls Try.prog 38 #[.slice A n c, .func (.func g) #[] cap] w fun e w' => (∃ w1, R1 w1 ∧ e = .returned (.int .i64 0) ∧ w' = w1.setCell ⟨w.heap.size, 0, none⟩ (.int .i64 0)) ∨ (∃ w1 o, R2 w1 ∧ e = .returned (.int .i64 62) ∧ w' = (w1.setCell ⟨w.heap.size, 0, none⟩ (.int .i64 62)).alloc o) := by
  have hmf : ∀ (fn : Fn) (first cap : Array Value) (w : World), (Instr.makeFunc fn first cap).run Try.prog w = .ok (.func fn first cap) w := fun _ _ _ _ => rfl
  have heq : ∀ w : World, (binOp .eql 88 (.func (.func g) #[] cap) .nilFunc).run Try.prog w = .ok (.bool false) w := fun w => by first | rfl | kernel_rfl
  have hen : ∀ (args : Array Value) (w : World), (callFunc g args).run Try.prog w = .ok (.enter g args) w := enters_ hf hname hbody
  go_enter_defers Try.func38, Try.ntmps38
  go_wp2_with fail
  refine hcall.out.mono ?_
  rintro e w1 ⟨hb, ⟨rfl, hR⟩ | ⟨k, rfl, hR⟩⟩
  · have hc := (blk_cell hb 0).trans rfl
    have hz := blk_frozen hb 0
    go_wp2_with fail
    refine leaves_cons (f := 47) (args := #[.pointer (some ⟨w.heap.size, 0, none⟩)]) (by simp) (by simp [go_sem]) ?_
    refine (catch_idle ⟨w.heap.size, 0, none⟩ _).mono ?_
    rintro e u' w'' ⟨rfl, rfl, rfl⟩
    simp [Leaves, settle, results, Try.results38, go_sem, hc, hz]
    exact ⟨w1, hR, rfl⟩
  · go_wp2_with fail
    refine leaves_cons (f := 47) (args := #[.pointer (some ⟨w.heap.size, 0, none⟩)]) (by simp) (by simp [go_sem]) ?_
    refine (catch_panicking w.heap.size 0 k _ hb).mono ?_
    rintro e u' w'' ⟨rfl, rfl, o, rfl⟩
    have hc := (blk_cell (blk_alloc (blk_set hb 0 (.int .i64 62)) o) 0).trans rfl
    simp [Leaves, settle, results, Try.results38, go_sem, hc]
    exact ⟨w1, hR, o, rfl⟩
end Go.Proofs.Ytkbjndfmbimjiaa

/-! What a reader's call leaves: its own block turns, the rest is as it was. -/
set_option linter.unusedVariables false
set_option linter.unusedSimpArgs false
namespace Go.Proofs.Ytkbjndfmbimjiaa
open Go.RowKit Go.Proofs.YtkbjndfmbimjiaaW.PrintWords
/-- Only blocks of S may have turned; new ones may have come. -/
structure Mods (S : Nat → Prop) (w w' : World) : Prop where
  os : w'.os = w.os
  tape : w'.tape = w.tape
  output : w'.output = w.output
  size : w.heap.size ≤ w'.heap.size
  block : ∀ k, k < w.heap.size → ¬ S k → w'.heap[k]? = w.heap[k]?
section
variable {S T : Nat → Prop} {w w1 w2 : World}
theorem Mods.refl (S : Nat → Prop) (w : World) : Mods S w w := ⟨rfl, rfl, rfl, Nat.le_refl _, fun _ _ _ => rfl⟩
theorem Mods.trans (h : Mods S w w1) (k : Mods S w1 w2) : Mods S w w2 :=
  ⟨k.os.trans h.os, k.tape.trans h.tape, k.output.trans h.output, Nat.le_trans h.size k.size, fun i hi hs => (k.block i (Nat.lt_of_lt_of_le hi h.size) hs).trans (h.block i hi hs)⟩
theorem Mods.mono (h : Mods S w w1) (hs : ∀ i, S i → T i) : Mods T w w1 := ⟨h.os, h.tape, h.output, h.size, fun i hi ht => h.block i hi fun e => ht (hs i e)⟩
/-- What is new may turn besides. -/
theorem Mods.less (h : Mods T w w1) (hs : ∀ i, T i → S i ∨ w.heap.size ≤ i) : Mods S w w1 := ⟨h.os, h.tape, h.output, h.size, fun i hi ht => h.block i hi fun e => by rcases hs i e with e | e; exact ht e; omega⟩
theorem Mods.of_below (h : Below w.heap.size w w1) : Mods S w w1 := ⟨h.os, h.tape, h.output, h.size, fun i hi _ => h.block i hi⟩
theorem Mods.drewN (h : Mods S w w1) (n : Nat) : Mods S w (w1.drewN n) := ⟨h.os, h.tape, h.output, h.size, h.block⟩
theorem Mods.set (h : Mods S w w1) {p : Addr} (hp : S p.block ∨ w.heap.size ≤ p.block) (u : Value) : Mods S w (w1.setCell p u) :=
  ⟨h.os, h.tape, h.output, by simpa [World.setCell] using h.size, fun i hi hs => (Below.heap_setCell w1 p u i (fun e => by subst e; rcases hp with hp | hp; exact hs hp; omega)).trans (h.block i hi hs)⟩
theorem Mods.at_ (h : Mods S w w1) {p : Nat} (hp : S p ∨ w.heap.size ≤ p) (j : Nat) (u : Value) : Mods S w (w1.setCell ⟨p, j, none⟩ u) := Mods.set h (p := ⟨p, j, none⟩) hp u
theorem Mods.alloc (h : Mods S w w1) (o : Obj) : Mods S w (w1.alloc o) := h.trans (Mods.of_below (bl_alloc (Below.refl _ _) o))
theorem Mods.blk (h : Mods S w w1) {g : Nat} {o : Obj} (hb : w.heap[g]? = some o) (hs : ¬ S g) : w1.heap[g]? = some o := (h.block g (blk_lt hb) hs).trans hb
theorem Mods.below (h : Mods S w w1) {B : Nat} (hB : B ≤ w.heap.size) (hs : ∀ i, S i → B ≤ i) : Below B w w1 :=
  ⟨h.os, h.tape, h.output, h.size, fun i hi => h.block i (by omega) fun e => by have := hs i e; omega⟩
theorem Mods.reads (h : Mods S w w1) {k : IntKind} {A : Option Addr} {n : Nat} {xs : List Int} (hr : ReadsInt w k A n xs) (hs : ∀ a, A = some a → ¬ S a.block) : ReadsInt w1 k A n xs :=
  ⟨hr.1, hr.2.1, fun hn => by
    obtain ⟨ad, e, hc⟩ := hr.2.2 hn
    refine ⟨ad, e, fun j hj => ?_⟩
    have hb : ((ad.add j).block) = ad.block := by unfold Addr.add; split <;> rfl
    have hlt := World.block_lt_of_cell? w _ (hc j hj)
    rw [World.cell?_of_block (w := w) (h.block _ hlt (by rw [hb]; exact hs ad e))]
    exact hc j hj⟩
theorem Mods.own (h : Mods S w w1) {base : Nat} {e : TypeId} {size n : Nat} {v : Value} {xs : List Value} (ho : w.ownsRow base e size v n xs) (hs : ∀ k, v.ownBlock = some k → ¬ S k) : w1.ownsRow base e size v n xs :=
  own_move ho fun k hk => h.block k (ho.lt k hk).2 (hs k hk)
theorem Mods.keep {p : Nat} (h : Mods (fun i => i = p) w w1) : KeepBut w w1 p none := ⟨h.size, fun i hi hp _ => h.block i hi hp⟩
end
theorem mU8_yes (p : Nat) (A : Option Addr) (m c : Nat) (k : Nat) (xs : List Int) (w : World) (h : RdV w p A m c k) (hr : ReadsInt w .u8 A m xs) (hb : Byt xs) (hc : m ≤ c) (hkn : k + 1 ≤ m) (hne : ∀ a, A = some a → a.block ≠ p) :
    Calls Try.prog 41 #[.pointer (some ⟨p, 0, none⟩)] w fun e w' => e = .returned (.int .u8 (num ((xs.drop k).take 1))) ∧ RdV w' p A m c ((k + 1 : Nat) : Int) ∧ Mods (fun i => i = p) w w' := by
  refine (rdU8_yes p A m c k xs w h hr hb hc hkn hne).mono ?_
  rintro e w' ⟨he, q, rfl⟩
  exact ⟨he, blk_put (blk_drewN h q) 1 _ (by simp), Mods.at_ (S := fun i => i = p) ((Mods.refl _ w).drewN q) (.inl rfl) 1 _⟩
theorem mU8_no (p : Nat) (A : Option Addr) (m c : Nat) (k : Nat) (w : World) (h : RdV w p A m c k) (hkm : k ≤ m) (hm : m ≤ 9223372036854775807) (hn : m < k + 1) :
    Calls Try.prog 41 #[.pointer (some ⟨p, 0, none⟩)] w fun e w' => e = .panicked (shortP k) ∧ Mods (fun i => i = p) w w' := by
  refine (rdU8_no p A m c k w h (by omega) (by omega) hm (by omega)).mono ?_
  rintro e w' ⟨he, q, rfl⟩
  exact ⟨he, (Mods.refl _ w).drewN q⟩
theorem mU16_yes (p : Nat) (A : Option Addr) (m c : Nat) (k : Nat) (xs : List Int) (w : World) (h : RdV w p A m c k) (hr : ReadsInt w .u8 A m xs) (hb : Byt xs) (hc : m ≤ c) (hkn : k + 2 ≤ m) (hne : ∀ a, A = some a → a.block ≠ p) :
    Calls Try.prog 40 #[.pointer (some ⟨p, 0, none⟩)] w fun e w' => e = .returned (.int .u16 (num ((xs.drop k).take 2))) ∧ RdV w' p A m c ((k + 2 : Nat) : Int) ∧ Mods (fun i => i = p) w w' := by
  refine (rdU16_yes p A m c k xs w h hr hb hc hkn hne).mono ?_
  rintro e w' ⟨he, q, rfl⟩
  exact ⟨he, blk_put (blk_drewN h q) 1 _ (by simp), Mods.at_ (S := fun i => i = p) ((Mods.refl _ w).drewN q) (.inl rfl) 1 _⟩
theorem mU16_no (p : Nat) (A : Option Addr) (m c : Nat) (k : Nat) (w : World) (h : RdV w p A m c k) (hkm : k ≤ m) (hm : m ≤ 9223372036854775807) (hn : m < k + 2) :
    Calls Try.prog 40 #[.pointer (some ⟨p, 0, none⟩)] w fun e w' => e = .panicked (shortP k) ∧ Mods (fun i => i = p) w w' := by
  refine (rdU16_no p A m c k w h (by omega) (by omega) hm (by omega)).mono ?_
  rintro e w' ⟨he, q, rfl⟩
  exact ⟨he, (Mods.refl _ w).drewN q⟩
theorem mU32_yes (p : Nat) (A : Option Addr) (m c : Nat) (k : Nat) (xs : List Int) (w : World) (h : RdV w p A m c k) (hr : ReadsInt w .u8 A m xs) (hb : Byt xs) (hc : m ≤ c) (hkn : k + 4 ≤ m) (hne : ∀ a, A = some a → a.block ≠ p) :
    Calls Try.prog 42 #[.pointer (some ⟨p, 0, none⟩)] w fun e w' => e = .returned (.int .u32 (num ((xs.drop k).take 4))) ∧ RdV w' p A m c ((k + 4 : Nat) : Int) ∧ Mods (fun i => i = p) w w' := by
  refine (rdU32_yes p A m c k xs w h hr hb hc hkn hne).mono ?_
  rintro e w' ⟨he, q, rfl⟩
  exact ⟨he, blk_put (blk_drewN h q) 1 _ (by simp), Mods.at_ (S := fun i => i = p) ((Mods.refl _ w).drewN q) (.inl rfl) 1 _⟩
theorem mU32_no (p : Nat) (A : Option Addr) (m c : Nat) (k : Nat) (w : World) (h : RdV w p A m c k) (hkm : k ≤ m) (hm : m ≤ 9223372036854775807) (hn : m < k + 4) :
    Calls Try.prog 42 #[.pointer (some ⟨p, 0, none⟩)] w fun e w' => e = .panicked (shortP k) ∧ Mods (fun i => i = p) w w' := by
  refine (rdU32_no p A m c k w h (by omega) (by omega) hm (by omega)).mono ?_
  rintro e w' ⟨he, q, rfl⟩
  exact ⟨he, (Mods.refl _ w).drewN q⟩
theorem Mods.err {S : Nat → Prop} {w w1 : World} {B : Nat} (h : Mods S w w1) (hB : w.heap.size ≤ B) (v : Value) : Mods S w (w1.setCell ⟨B, 0, none⟩ v) := h.set (.inr hB) v
set_option maxHeartbeats 1000000 in
/-- cursor.Read, by its closure's contract: what may turn is told by blocks. -/
theorem read_mods (A : Option Addr) (n c g : Nat) (cap : Array Value) (w : World) (S : Nat → Prop) (P1 P2 : World → Prop) (fn : Func) (hf : Try.prog.funcs[g]? = some fn) (hname : (fn.name == "runtime.NumGoroutine") = false) (hbody : fn.body.isSome = true)
    (hS : ∀ i, S i → i < w.heap.size) (hP1 : ∀ w1 w2, P1 w1 → KeepBut w1 w2 w.heap.size none → P1 w2) (hP2 : ∀ w1 w2, P2 w1 → KeepBut w1 w2 w.heap.size none → P2 w2)
    (hcall : ∀ w2 : World, w2.heap[w.heap.size]? = some (.cells #[.int .i64 0] 52 (0, 0)) → RdV w2 (w.heap.size + 1) A n c ((0 : Nat) : Int) → Below w.heap.size w w2 → w2.heap.size = w.heap.size + 2 →
      Calls Try.prog g (#[.pointer (some ⟨w.heap.size + 1, 0, none⟩)] ++ cap) w2 fun e w' => Mods (fun i => i = w.heap.size + 1 ∨ S i) w2 w' ∧ ((e = .returned (.tuple #[]) ∧ P1 w') ∨ ∃ k, e = .panicked (shortP k) ∧ P2 w')) :
    Calls Try.prog 38 #[.slice A n c, .func (.func g) #[] cap] w fun e w' => Mods S w w' ∧ ((e = .returned (.int .i64 0) ∧ P1 w') ∨ (e = .returned (.int .i64 62) ∧ P2 w')) := by
  have hb0 : ((w.alloc (.cells #[.int .i64 0] 52)).alloc (.cells #[.slice A n c, .int .i64 0] 99)).heap[w.heap.size]? = some (.cells #[.int .i64 0] 52 (0, 0)) := blk_alloc (heap_alloc_new w _) _
  have hb1 : ((w.alloc (.cells #[.int .i64 0] 52)).alloc (.cells #[.slice A n c, .int .i64 0] 99)).heap[w.heap.size + 1]? = some (.cells #[.slice A n c, .int .i64 ((0 : Nat) : Int)] 99 (0, 0)) := by
    have h_ := heap_alloc_new (w.alloc (.cells #[.int .i64 0] 52)) (.cells #[.slice A n c, .int .i64 0] 99)
    simpa using h_
  have hbl : Below w.heap.size w ((w.alloc (.cells #[.int .i64 0] 52)).alloc (.cells #[.slice A n c, .int .i64 0] 99)) := bl_alloc (bl_alloc (Below.refl _ _) _) _
  have hz : ((w.alloc (.cells #[.int .i64 0] 52)).alloc (.cells #[.slice A n c, .int .i64 0] 99)).heap.size = w.heap.size + 2 := by simp
  have hm := hcall _ hb0 hb1 hbl hz
  obtain ⟨W2, hW2⟩ : ∃ W2, (w.alloc (.cells #[.int .i64 0] 52)).alloc (.cells #[.slice A n c, .int .i64 0] 99) = W2 := ⟨_, rfl⟩
  have key := read_any A n c g cap w (fun w' => Mods (fun i => i = w.heap.size + 1 ∨ S i) W2 w' ∧ P1 w') (fun w' => Mods (fun i => i = w.heap.size + 1 ∨ S i) W2 w' ∧ P2 w') fn hf hname hbody (by
    refine Lib.hid (hm.mono ?_)
    rintro e w' ⟨h1, h2⟩
    rw [hW2] at h1 hb0
    refine ⟨h1.blk hb0 (fun e => ?_), ?_⟩
    · rcases e with e | e
      · omega
      · have := hS _ e; omega
    · rcases h2 with ⟨a, b⟩ | ⟨k, a, b⟩
      · exact .inl ⟨a, h1, b⟩
      · exact .inr ⟨k, a, h1, b⟩)
  rw [hW2] at hbl hz
  refine key.mono ?_
  have tm : ∀ w1, Mods (fun i => i = w.heap.size + 1 ∨ S i) W2 w1 → Mods S w w1 := by
    intro w1 h1
    refine ⟨h1.os.trans hbl.os, h1.tape.trans hbl.tape, h1.output.trans hbl.output, Nat.le_trans hbl.size h1.size, fun i hi hs => (h1.block i (by omega) ?_).trans (hbl.block i hi)⟩
    rintro (e | e)
    · omega
    · exact hs e
  rintro e w' (⟨w1, ⟨h1, h2⟩, he, rfl⟩ | ⟨w1, o, ⟨h1, h2⟩, he, rfl⟩)
  · exact ⟨(tm w1 h1).set (.inr (Nat.le_refl _)) _, .inl ⟨he, hP1 _ _ h2 ((KeepBut.refl w1 w.heap.size none).set_ 0 _)⟩⟩
  · refine ⟨((tm w1 h1).set (.inr (Nat.le_refl _)) _).alloc o, .inr ⟨he, hP2 _ _ h2 ?_⟩⟩
    have k1 := (KeepBut.refl w1 w.heap.size none).set_ 0 (.int .i64 62)
    exact k1.trans (KeepBut.of_below (bl_alloc (Below.refl _ _) o) _ none) (.inl rfl)
end Go.Proofs.Ytkbjndfmbimjiaa

/-! The reader, further: U64, Raw, Text, Left, Zero. -/
set_option linter.unusedVariables false
set_option linter.unusedSimpArgs false
namespace Go.Proofs.Ytkbjndfmbimjiaa
open Go.RowKit Go.Proofs.YtkbjndfmbimjiaaW.PrintWords
theorem RdV.mods {w : World} {p m c : Nat} {A : Option Addr} {k : Int} (h : RdV w p A m c k) (q : Nat) (x : Int) : RdV ((w.drewN q).setCell ⟨p, 1, none⟩ (.int .i64 x)) p A m c x := blk_put (blk_drewN h q) 1 _ (by simp)
end Go.Proofs.Ytkbjndfmbimjiaa
