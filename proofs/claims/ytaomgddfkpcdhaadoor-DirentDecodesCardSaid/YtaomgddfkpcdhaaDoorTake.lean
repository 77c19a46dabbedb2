import Derived.Test.YtaomgddfkpcdhaaDoorReg
import Derived.Defers
import Derived.Recover
import Derived.WalkSmall
import Derived.Laws.BitsAllLaws
/-! The cursor's reader: take. -/
set_option linter.unusedVariables false
set_option linter.unusedSimpArgs false
namespace Go.Proofs.YtaomgddfkpcdhaaDoor
open Go.RowKit Go.Proofs.YtaomgddfkpcdhaaDoorW.PrintWords
/-- The reader at p: its bytes, its place. -/
abbrev RdV (w : World) (p : Nat) (A : Option Addr) (n c : Nat) (k : Int) : Prop := w.heap[p]? = some (.cells #[.slice A n c, .int .i64 k] 52 (0, 0))
/-- What a reader gives up with. -/
abbrev shortP (k : Int) : List PanicEntry := [{ v := .iface 49 (.agg #[.int .i64 k]), recovered := false }]
theorem rd_set {w : World} {k : IntKind} {A : Option Addr} {n p : Nat} {xs : List Int} (h : ReadsInt w k A n xs) (hne : ∀ a, A = some a → a.block ≠ p) (q : Nat) (v : Value) : ReadsInt ((w.drewN q).setCell ⟨p, 1, none⟩ v) k A n xs :=
  reads_keep (h.drewN q) (KeepBut.set_ (KeepBut.refl (w.drewN q) p none) 1 v) (fun _ a ha => ⟨hne a ha, by simp⟩)
set_option maxHeartbeats 1000000 in
theorem take_no (p : Nat) (A : Option Addr) (m c : Nat) (k n : Int) (w : World) (h : RdV w p A m c k) (hk : 0 ≤ k) (hkm : k ≤ m) (hm : m ≤ 9223372036854775807) (hn : n < 0 ∨ m - k < n) :
    Calls Tryd.prog 20 #[.pointer (some ⟨p, 0, none⟩), .int .i64 n] w fun e w' => e = .panicked (shortP k) ∧ ∃ q, w' = w.drewN q := by
  have z0 := (blk_cell h 0).trans rfl
  have z1 := (blk_cell h 1).trans rfl
  by_cases c0 : n < 0
  · clear hn
    go_enter Tryd.func20, Tryd.ntmps20
    go_wp2
    go_quiet (fail)
    go_wp2
    exact ⟨rfl, rfl, _, rfl⟩
  · have c1 : (m : Int) - k < n := by omega
    clear hn
    go_enter Tryd.func20, Tryd.ntmps20
    go_wp2
    have c0 : ¬ n < 0 := by omega
    go_quiet (fail)
    go_wp2
    exact ⟨rfl, rfl, _, rfl⟩
set_option maxHeartbeats 1000000 in
theorem take_yes (p : Nat) (A : Option Addr) (m c : Nat) (k n : Nat) (xs : List Int) (w : World) (h : RdV w p A m c k) (hr : ReadsInt w .u8 A m xs) (hc : m ≤ c) (hkn : k + n ≤ m) (hne : ∀ a, A = some a → a.block ≠ p) :
    Calls Tryd.prog 20 #[.pointer (some ⟨p, 0, none⟩), .int .i64 n] w fun e w' => ∃ B d, e = .returned (.slice B n d) ∧ ReadsInt w' .u8 B n ((xs.drop k).take n) ∧ n ≤ d ∧ (∀ b, B = some b → b.block ≠ p) ∧ ∃ q, w' = (w.drewN q).setCell ⟨p, 1, none⟩ (.int .i64 ((k : Int) + n)) := by
  have hm := hr.2.1
  have z0 := (blk_cell h 0).trans rfl
  have z1 := (blk_cell h 1).trans rfl
  have zf := blk_frozen h 1
  have hd := (hr.drop_ k (by omega) hc).take_ n (by omega)
  have HD := Lib.hid hd
  have e0 : ((k : Int) + (n : Int)).toNat - (k : Int).toNat = n := by omega
  have e1 : (k : Int).toNat = k := by omega
  clear hr hd
  by_cases ck : c = k
  · subst ck
    rw [if_pos rfl] at HD
    have HN : Hid (∀ B : Option Addr, B = A → ∀ b, B = some b → b.block ≠ p) := Lib.hid (by rintro B rfl b hb; exact hne b hb)
    clear hne
    have e3 : c + n - c = n := by omega
    go_enter Tryd.func20, Tryd.ntmps20
    go_wp2
    have c0 : ¬ (n : Int) < 0 := by omega
    have c1 : ¬ (m : Int) - (c : Int) < n := by omega
    go_quiet (fail)
    go_wp2
    go_quiet (fail)
    go_wp2
    rw [e3]
    go_ret
    exact ⟨_, _, rfl, rd_set HD.out (HN.out _ rfl) _ _, by omega, HN.out _ rfl, _, rfl⟩
  · rw [if_neg ck] at HD
    have HN : Hid (∀ b, A.map (fun x => x.add k) = some b → b.block ≠ p) := Lib.hid (by intro b hb; cases A with | none => cases hb | some a => (simp at hb; subst hb; have h_ := hne a rfl; unfold Addr.add; split <;> simpa using h_))
    clear hne
    have e3 : k + n - k = n := by omega
    go_enter Tryd.func20, Tryd.ntmps20
    go_wp2
    have c0 : ¬ (n : Int) < 0 := by omega
    have c1 : ¬ (m : Int) - (k : Int) < n := by omega
    go_quiet (fail)
    go_wp2
    go_quiet (fail)
    go_wp2
    rw [e3]
    go_ret
    exact ⟨_, _, rfl, rd_set HD.out HN.out _ _, by omega, HN.out, _, rfl⟩
set_option maxHeartbeats 1000000 in
theorem rnum_no (p : Nat) (A : Option Addr) (m c : Nat) (k n : Int) (w : World) (h : RdV w p A m c k) (hk : 0 ≤ k) (hkm : k ≤ m) (hm : m ≤ 9223372036854775807) (hn : n < 0 ∨ m - k < n) :
    Calls Tryd.prog 19 #[.pointer (some ⟨p, 0, none⟩), .int .i64 n] w fun e w' => e = .panicked (shortP k) ∧ ∃ q, w' = w.drewN q := by
  have hc := Lib.hid (take_no p A m c k n w h hk hkm hm hn)
  clear hn
  go_enter Tryd.func19, Tryd.ntmps19
  go_wp2_with fail
  refine hc.out.mono ?_
  rintro e w1 ⟨rfl, q, rfl⟩
  exact ⟨rfl, rfl, _, rfl⟩
set_option maxRecDepth 100000 in
theorem or_shift (a x : Int) (j : Nat) (ha : 0 ≤ a) (ha2 : a < 256 ^ j) (x0 : 0 ≤ x) (x1 : x < 256) (hj : j < 8) : Go.bits .or .u64 a (IntKind.u64.wrap (x * 2 ^ (8 * j))) = a + x * 256 ^ j := by
  obtain ⟨A, rfl⟩ := Int.eq_ofNat_of_zero_le ha
  obtain ⟨X, rfl⟩ := Int.eq_ofNat_of_zero_le x0
  have hp : (2 : Nat) ^ (8 * j) = 256 ^ j := by rw [Nat.pow_mul]
  have hA : A < 2 ^ (8 * j) := by rw [hp]; exact_mod_cast ha2
  have hX : X < 256 := by omega
  have hq : (256 : Nat) ^ j ≤ 256 ^ 7 := Nat.pow_le_pow_right (by omega) (by omega)
  have hm : X * 256 ^ j < 18446744073709551616 := by
    have h1 : X * 256 ^ j ≤ 255 * 256 ^ 7 := Nat.mul_le_mul (by omega) hq
    omega
  have e1 : ((X : Int) * 2 ^ (8 * j)) = ((X * 256 ^ j : Nat) : Int) := by rw [← hp]; push_cast; rfl
  have e2 : IntKind.u64.wrap ((X * 256 ^ j : Nat) : Int) = ((X * 256 ^ j : Nat) : Int) := by generalize X * 256 ^ j = Z at hm; rw [IntKind.wrap_u64]; omega
  have hA2 : A < 18446744073709551616 := by
    have : A < 256 ^ 7 := by rw [hp] at hA; omega
    omega
  rw [e1, e2, u64_or_nat A (X * 256 ^ j) hA2 hm]
  have h3 := Nat.shiftLeft_add_eq_or_of_lt hA X
  rw [Nat.shiftLeft_eq, hp] at h3
  rw [Nat.or_comm, ← h3]
  push_cast
  omega
set_option maxHeartbeats 2000000 in
set_option maxRecDepth 100000 in
theorem rnum_yes (p : Nat) (A : Option Addr) (m c : Nat) (k n : Nat) (xs : List Int) (w : World) (h : RdV w p A m c k) (hr : ReadsInt w .u8 A m xs) (hb : Byt xs) (hc : m ≤ c) (hkn : k + n ≤ m) (hn : n ≤ 8) (hne : ∀ a, A = some a → a.block ≠ p) :
    Calls Tryd.prog 19 #[.pointer (some ⟨p, 0, none⟩), .int .i64 n] w fun e w' => e = .returned (.int .u64 (num ((xs.drop k).take n))) ∧ ∃ q, w' = (w.drewN q).setCell ⟨p, 1, none⟩ (.int .i64 ((k : Int) + n)) := by
  have hcc := Lib.hid (take_yes p A m c k n xs w h hr hc hkn hne)
  have hl : ((xs.drop k).take n).length = n := by rw [List.length_take, List.length_drop, hr.1]; omega
  have hy : Byt ((xs.drop k).take n) := fun x hx => hb x (List.mem_of_mem_drop (List.mem_of_mem_take hx))
  obtain ⟨ys, hys⟩ : ∃ ys, (xs.drop k).take n = ys := ⟨_, rfl⟩
  rw [hys] at hcc hl hy ⊢
  have HY := Lib.hid hy
  clear hr hb hne hys hy h
  go_enter Tryd.func19, Tryd.ntmps19
  go_wp2_with fail
  refine hcc.out.mono ?_
  rintro e w1 ⟨B, d, rfl, hb, hd, _, q, hw⟩
  have HW := Lib.hid hw
  have HB := Lib.hid hb
  clear hcc hw hb
  go_wp2
  go_loopw [5, 12] (fun v i wr => ∃ (j : Nat), v = .int .u64 (num (ys.take j)) ∧ i = .int .i64 (j : Int) ∧ j ≤ n ∧ wr = w1) (fun _ i _ => n - (intOf i).toNat)
  case atStart => exact ⟨0, by simp [num], rfl, by omega, rfl⟩
  case round =>
    obtain ⟨j, rfl, rfl, hj, rfl⟩ := hrel
    by_cases hlt : j < n
    · obtain ⟨ad, rfl, hcell⟩ := HB.out.at_ j (by omega) (by omega)
      rw [rd_getD, Int.toNat_natCast] at hcell
      have hj2 : j < ys.length := by omega
      have hx : 0 ≤ ys.getD j 0 ∧ ys.getD j 0 < 256 := HY.out _ (by rw [List.getD_eq_getElem?_getD, List.getElem?_eq_getElem hj2]; exact List.getElem_mem hj2)
      have htk : num (ys.take (j + 1)) = num (ys.take j) + ys.getD j 0 * 256 ^ j := by
        rw [List.take_succ_eq_append_getElem hj2, num_snoc, List.length_take, Nat.min_eq_left (by omega), List.getD_eq_getElem?_getD, List.getElem?_eq_getElem hj2]; rfl
      have HT := Lib.hid htk
      obtain ⟨x, hxe⟩ : ∃ x, ys.getD j 0 = x := ⟨_, rfl⟩
      rw [hxe] at hcell hx HT
      obtain ⟨x0, x1⟩ := hx
      clear htk hxe hj2
      have hnb := num_bound (ys.take j) (fun x hx => HY.out x (List.mem_of_mem_take hx))
      rw [List.length_take, Nat.min_eq_left (by omega)] at hnb
      have HO := Lib.hid (or_shift (num (ys.take j)) x j hnb.1 hnb.2 x0 x1 (by omega))
      clear hnb
      go_wp2
      rw [HO.out, ← HT.out]
      exact ⟨⟨j + 1, rfl, by go_num, by omega, trivial⟩, by simp [intOf]; omega⟩
    · have hjn : j = n := by omega
      have hfin : ys.take j = ys := List.take_of_length_le (by omega)
      have HF := Lib.hid hfin
      clear hfin
      go_wp2
      rw [HF.out]
      go_ret
      exact ⟨rfl, q, HW.out⟩
end Go.Proofs.YtaomgddfkpcdhaaDoor
