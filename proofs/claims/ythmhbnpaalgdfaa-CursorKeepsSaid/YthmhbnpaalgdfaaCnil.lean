import Derived.Test.YthmhbnpaalgdfaaCtexts
/-! A nil writer lays nothing. -/
set_option linter.unusedVariables false
set_option linter.unusedSimpArgs false
namespace Go.Proofs.Ythmhbnpaalgdfaa
open Go.RowKit Go.Proofs.YthmhbnpaalgdfaaW.PrintWords
theorem num_nil (x n : Int) (w : World) : Calls Try.prog 41 #[.pointer none, .int .u64 x, .int .i64 n] w fun e w' => e = .returned (.pointer none) ∧ w = w' := by
  go_enter Try.func41, Try.ntmps41
  go_wp2
  go_ret
  exact ⟨rfl, rfl⟩
theorem Raw_nil (A : Option Addr) (n c : Nat) (w : World) : Calls Try.prog 25 #[.pointer none, .slice A n c] w fun e w' => e = .returned (.pointer none) ∧ w = w' := by
  go_enter Try.func25, Try.ntmps25
  go_wp2
  go_ret
  exact ⟨rfl, rfl⟩
theorem Pad_nil (n : Int) (w : World) : Calls Try.prog 26 #[.pointer none, .int .i64 n] w fun e w' => e = .returned (.pointer none) ∧ w = w' := by
  go_enter Try.func26, Try.ntmps26
  go_wp2
  go_ret
  exact ⟨rfl, rfl⟩
theorem Bytes_nil (w : World) : Calls Try.prog 17 #[.pointer none] w fun e w' => e = .returned (.slice none 0 0) ∧ w = w' := by
  go_enter Try.func17, Try.ntmps17
  go_wp2
  go_ret
  exact ⟨rfl, rfl⟩
theorem read_nil (A : Option Addr) (n c : Nat) (w : World) : Calls Try.prog 21 #[.slice A n c, .nilFunc] w fun e w' => e = .returned (.int .i64 60) ∧ Below w.heap.size w w' := by
  have heq : ∀ w : World, (binOp .eql 54 .nilFunc .nilFunc).run Try.prog w = .ok (.bool true) w := fun w => by first | rfl | kernel_rfl
  have hb : (w.alloc (.cells #[.int .i64 0] 49)).heap[w.heap.size]? = some (.cells #[.int .i64 0] 49 (0, 0)) := heap_alloc_new w _
  have hc := (blk_cell hb 0).trans rfl
  have hz := blk_frozen hb 0
  have hbl : Below w.heap.size w ((w.alloc (.cells #[.int .i64 0] 49)).setCell ⟨w.heap.size, 0, none⟩ (.int .i64 60)) := (Mods.at_ (S := fun _ => False) (Mods.of_below (bl_alloc (Below.refl w.heap.size w) (.cells #[.int .i64 0] 49))) (.inr (Nat.le_refl _)) 0 (.int .i64 60)).below (Nat.le_refl _) (fun i h => h.elim)
  go_enter_defers Try.func21, Try.ntmps21
  go_wp2_with fail
  simp [bodyPostD, Leaves, settle, results, Try.results21, go_sem]
  exact bl_alloc (Below.refl _ _) _
set_option maxHeartbeats 1000000 in
theorem U8_nil (xs : List Int) (A : Option Addr) (c : Nat) (w : World) (hr : ReadsInt w .u8 A xs.length xs) :
    Calls Try.prog 11 #[.pointer none, .slice A xs.length c] w fun e w' => e = .returned (.pointer none) ∧ Below w.heap.size w w' := by
  have HR := Lib.hid hr
  have hlen := hr.2.1
  clear hr
  go_enter Try.func11, Try.ntmps11
  go_wp2
  go_loopw [9] (fun i wr => ∃ k : Nat, k ≤ xs.length ∧ i = .int .i64 (k : Int) ∧ Hid (Below w.heap.size w wr)) (fun i _ => xs.length - (intOf i).toNat)
  case atStart => exact ⟨0, Nat.zero_le _, rfl, Lib.hid (Below.refl _ _)⟩
  case round =>
    obtain ⟨k, hk, rfl, HW⟩ := hrel
    by_cases hlt : k < xs.length
    · obtain ⟨ad, he, hc⟩ := (HR.out.below HW.out).at_ (k : Int) (by omega) (by omega)
      subst he
      rw [Int.toNat_natCast, rd_getD] at hc
      obtain ⟨x0, hx0⟩ : ∃ x0, xs.getD k 0 = x0 := ⟨_, rfl⟩
      rw [hx0] at hc
      clear hx0
      go_wp2_with fail
      refine (num_nil _ _ _).mono ?_
      rintro e w2 ⟨rfl, rfl⟩
      go_wp2_with fail
      go_roundw
      case rel => exact ⟨k + 1, by omega, by go_num, HW⟩
      case measure => simp [intOf]; omega
    · go_wp2
      go_ret
      exact ⟨rfl, HW.out⟩
set_option maxHeartbeats 1000000 in
theorem U64_nil (xs : List Int) (A : Option Addr) (c : Nat) (w : World) (hr : ReadsInt w .u64 A xs.length xs) :
    Calls Try.prog 14 #[.pointer none, .slice A xs.length c] w fun e w' => e = .returned (.pointer none) ∧ Below w.heap.size w w' := by
  have HR := Lib.hid hr
  have hlen := hr.2.1
  clear hr
  go_enter Try.func14, Try.ntmps14
  go_wp2
  go_loopw [9] (fun i wr => ∃ k : Nat, k ≤ xs.length ∧ i = .int .i64 (k : Int) ∧ Hid (Below w.heap.size w wr)) (fun i _ => xs.length - (intOf i).toNat)
  case atStart => exact ⟨0, Nat.zero_le _, rfl, Lib.hid (Below.refl _ _)⟩
  case round =>
    obtain ⟨k, hk, rfl, HW⟩ := hrel
    by_cases hlt : k < xs.length
    · obtain ⟨ad, he, hc⟩ := (HR.out.below HW.out).at_ (k : Int) (by omega) (by omega)
      subst he
      rw [Int.toNat_natCast, rd_getD] at hc
      obtain ⟨x0, hx0⟩ : ∃ x0, xs.getD k 0 = x0 := ⟨_, rfl⟩
      rw [hx0] at hc
      clear hx0
      go_wp2_with fail
      refine (num_nil _ _ _).mono ?_
      rintro e w2 ⟨rfl, rfl⟩
      go_wp2_with fail
      go_roundw
      case rel => exact ⟨k + 1, by omega, by go_num, HW⟩
      case measure => simp [intOf]; omega
    · go_wp2
      go_ret
      exact ⟨rfl, HW.out⟩
theorem Text_nil (s : ByteArray) (w : World) (hlt : s.size ≤ 255) (hs : s.size ≤ 1099511627776) : Calls Try.prog 20 #[.pointer none, .string s] w fun e w' => e = .returned (.pointer none) ∧ Below w.heap.size w w' := by
  have kb := fun (s : ByteArray) (W : World) => print_bytes (P := Try.prog) 9 22 5 Try.underlying9 Try.underlying22 Try.underlying5 s W
  go_enter Try.func20, Try.ntmps20
  go_wp2_with fail
  refine (U8_nil [(s.size : Int)] (some ⟨w.heap.size, 0, none⟩) 1 _ (reads_box w .u8 [(s.size : Int)] 1 5 rfl (by omega))).mono ?_
  rintro e w1 ⟨rfl, hb1⟩
  have T1 := Lib.hid (bl_seq (bl_alloc (Below.refl w.heap.size w) (.cells #[.int .u8 (s.size : Int)] 5)) hb1)
  clear hb1
  go_wp2_with fail
  refine (Raw_nil _ _ _ _).mono ?_
  rintro e w2 ⟨rfl, rfl⟩
  go_wp2_with fail
  go_ret
  exact ⟨rfl, bl_seq T1.out (bytes_below (Below.refl _ _) (Nat.le_refl _) 5 s)⟩
set_option maxHeartbeats 1000000 in
theorem keeps1_any (p qc qp : Nat) (A B : Option Addr) (m c d : Nat) (xs : List Int) (w : World) (h : RdV w p A m c ((0 : Nat) : Int)) (hr : ReadsInt w .u8 A m xs) (hc : m ≤ c) (hm : m ≤ 1099511627776) (hne : ∀ a, A = some a → a.block ≠ p) (hq : w.heap[qc]? = some (.cells #[.slice B m d] 22 (0, 0))) (hp : w.heap[qp]? = some (.cells #[.slice none 0 0] 22 (0, 0))) (d1 : qp ≠ p) (d2 : qc ≠ p) :
    Calls Try.prog 38 #[.pointer (some ⟨p, 0, none⟩), .pointer (some ⟨qc, 0, none⟩), .pointer (some ⟨qp, 0, none⟩)] w fun e w' => Mods (fun i => i = p ∨ i = qp) w w' ∧ e = .returned (.tuple #[]) ∧ ∃ v, w'.heap[qp]? = some (.cells #[v] 22 (0, 0)) ∧ w'.ownsRow w.heap.size 5 1 v m (nums .u8 xs) := by
  have hlt : qp < w.heap.size := blk_lt hp
  have hx : xs.length = m := hr.1
  have hcc := mRaw_yes p A m c 0 m xs w h hr hc (by omega) hm hne
  rw [List.drop_zero, List.take_of_length_le (by omega)] at hcc
  have HC := Lib.hid hcc
  have zq : w.cell? ⟨qc, 0, none⟩ = some (.slice B m d) := (blk_cell hq 0).trans rfl
  have HP := Lib.hid hp
  clear hcc h hr hne hq hp
  go_enter Try.func38, Try.ntmps38
  go_wp2_with fail
  refine HC.out.mono ?_
  rintro e w1 ⟨v, rfl, ho, h1, h2⟩
  have hb := h2.blk HP.out d1
  have zp := (blk_cell hb 0).trans rfl
  have fz := blk_frozen hb 0
  have G := Lib.hid (And.intro ho (And.intro h2 hb))
  obtain ⟨A1, c1, rfl⟩ := own_slice ho
  clear ho h1 h2 hb
  go_wp2_with fail
  go_end0
  refine ⟨(G.out.2.1.mono (fun i e => .inl e)).at_ (.inl (.inr rfl)) 0 _, rfl, _, blk_put G.out.2.2 0 _ (cs' := #[.slice A1 m c1]) (by simp), own_move G.out.1 fun k hk => Below.heap_setCell w1 ⟨qp, 0, none⟩ _ k (fun e => ?_)⟩
  have h_ := (G.out.1.lt k hk).1
  have e : k = qp := by first | exact e | exact e.symm
  omega
end Go.Proofs.Ythmhbnpaalgdfaa
