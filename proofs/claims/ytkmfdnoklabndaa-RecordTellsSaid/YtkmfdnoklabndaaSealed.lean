import Derived.Test.YtkmfdnoklabndaaBlank
import Derived.Test.YtkmfdnoklabndaaSeal
import Derived.Lib.SlBytesConst
/-! sealed. -/
set_option linter.unusedVariables false
set_option linter.unusedSimpArgs false
namespace Go.Proofs.Ytkmfdnoklabndaa
open Go.RowKit Go.Proofs.YtkmfdnoklabndaaW.PrintWords Go.Proofs.YtkmfdnoklabndaaW.PrintLast
def hdA : Hd := ⟨4, 3, 0, 0, 0, 9, 0⟩
theorem hdA_ok : hdA.ok := by constructor <;> simp [hdA]
def abcL : List Int := [97, 98, 99]
theorem abc_byt : Byt abcL := Byt.of (by decide)
theorem reads_mark (w : World) (xs : List Int) (n : Nat) (e : TypeId) (r : Nat × Nat) (hn : xs.length = n) (hm : n ≤ 9223372036854775807) : ReadsInt (w.alloc (.cells (nums .u8 xs).toArray e r)) .u8 (some ⟨w.heap.size, 0, none⟩) n xs := by
  refine ⟨hn, hm, fun _ => ⟨_, rfl, fun j hj => ?_⟩⟩
  have h3 : (⟨w.heap.size, 0, none⟩ : Addr).add j = ⟨w.heap.size, j, none⟩ := by unfold Addr.add; split <;> simp_all
  have hs : xs[j]? = some (xs.getD j 0) := by rw [List.getD_eq_getElem?_getD, List.getElem?_eq_getElem (by omega)]; rfl
  have h2 : (nums .u8 xs)[j]? = some (.int .u8 (xs.getD j 0)) := by rw [nums, List.getElem?_map, hs]; rfl
  rw [h3]
  have hb : (w.alloc (.cells (nums .u8 xs).toArray e r)).heap[w.heap.size]? = some (.cells (nums .u8 xs).toArray e r) := by
    show (w.heap.push (.cells (nums .u8 xs).toArray e r))[w.heap.size]? = _
    simp
  simp only [World.cell?, hb]
  simpa using h2
theorem open_abc (A B : Option Addr) (c d : Nat) (w : World) (hr : ReadsInt w .u8 A 64 (sealL hdA abcL [])) (hc : 64 ≤ c) (hs : ReadsInt w .u8 B 3 abcL) (hd : 3 ≤ d) :
    Calls Try.prog 12 #[.slice B 3 d, .slice A 64 c] w fun e w' => Below w.heap.size w w' ∧ e = .returned (.tuple #[.agg #[.int .u8 4, .int .u32 3, .int .u32 0, .int .u16 0, .int .u16 0, .int .u32 9, .int .u32 0], .bool true]) := by
  refine (open_any A B c 3 d 64 (sealL hdA abcL []) abcL w hr (sealL_byt _ _ (fun x hx => by cases hx)) hc hs abc_byt hd).mono ?_
  rintro e w' ⟨hb, rfl⟩
  have ho : openB abcL (sealL hdA abcL []) = true := by rw [seal_open _ _ hdA_ok]; rfl
  refine ⟨hb, ?_⟩
  rw [openR_yes ho, ho, seal_head _ _ hdA_ok]
  rfl
def fullL : List Int := List.replicate 64 255
theorem full_byt : Byt fullL := fun x hx => by obtain ⟨_, rfl⟩ := List.mem_replicate.1 hx; omega
theorem full_open : openB fullL fullL = false := by
  have h : (at_ fullL 0 2 == 22356) = false := by decide
  rw [openB, rightO, h]; simp
theorem open_full (A : Option Addr) (c : Nat) (w : World) (hr : ReadsInt w .u8 A 64 fullL) (hc : 64 ≤ c) :
    Calls Try.prog 12 #[.slice A 64 c, .slice A 64 c] w fun e w' => Below w.heap.size w w' ∧ e = .returned (.tuple #[.agg #[.int .u8 0, .int .u32 0, .int .u32 0, .int .u16 0, .int .u16 0, .int .u32 0, .int .u32 0], .bool false]) := by
  refine (open_any A A c 64 c 64 fullL fullL w hr full_byt hc hr full_byt hc).mono ?_
  rintro e w' ⟨hb, rfl⟩
  refine ⟨hb, ?_⟩
  rw [openR_no full_open, full_open]
  rfl
def partL (j : Nat) : List Int := List.replicate j 255 ++ List.replicate (64 - j) 0
theorem partL_len (j : Nat) (h : j ≤ 64) : (partL j).length = 64 := by simp [partL]; omega
theorem partL_set (j : Nat) (h : j < 64) : (partL j).set j 255 = partL (j + 1) := by
  rw [partL, partL, List.set_append_right _ _ (by simp), List.length_replicate, Nat.sub_self]
  obtain ⟨q, hq⟩ : ∃ q, 64 - j = q + 1 := ⟨63 - j, by omega⟩
  rw [hq, show 64 - (j + 1) = q by omega, List.replicate_succ, List.set_cons_zero, List.replicate_succ', List.append_assoc]
  rfl
set_option maxHeartbeats 4000000 in
set_option maxRecDepth 100000 in
theorem sealed_any (w : World) : Calls Try.prog 10 #[] w fun e w' => e = .returned (.bool true) ∧ Below w.heap.size w w' := by
  have hmk : ∀ W : World, (Instr.makeSlice 26 (.int .i64 64) (.int .i64 64)).run Try.prog W = .ok (.slice (some ⟨W.heap.size, 0, none⟩) 64 64) (W.alloc (.cells (madeCells #[.int .u8 0] 64) 5)) := print_make (P := Try.prog) 26 5 .u8 1 Try.underlying26 info5' (by decide) 64 (by omega)
  have kc := fun (w : World) (C : Array Value) (n c : Nat) => Lib.run_convert_bytes_const (P := Try.prog) w 26 5 C n c Try.underlying26 Try.underlying5
  go_enter Try.func10, Try.ntmps10
  go_wp2_with fail
  have hW0 : ReadsInt ((w.alloc (.cells #[.int .u8 97, .int .u8 98, .int .u8 99] 5 (3, 4))).alloc (.cells #[.int .u8 4, .int .u32 3, .int .u32 0, .int .u16 0, .int .u16 0, .int .u32 9, .int .u32 0] 25)) .u8 (some ⟨w.heap.size, 0, none⟩) 3 abcL ∧ ((w.alloc (.cells #[.int .u8 97, .int .u8 98, .int .u8 99] 5 (3, 4))).alloc (.cells #[.int .u8 4, .int .u32 3, .int .u32 0, .int .u16 0, .int .u16 0, .int .u32 9, .int .u32 0] 25)).heap[w.heap.size + 1]? = some (.cells #[.int .u8 4, .int .u32 3, .int .u32 0, .int .u16 0, .int .u16 0, .int .u32 9, .int .u32 0] 25 (0, 0)) ∧ Below w.heap.size w ((w.alloc (.cells #[.int .u8 97, .int .u8 98, .int .u8 99] 5 (3, 4))).alloc (.cells #[.int .u8 4, .int .u32 3, .int .u32 0, .int .u16 0, .int .u16 0, .int .u32 9, .int .u32 0] 25)) := by
    refine ⟨(reads_mark w abcL 3 5 (3, 4) rfl (by omega)).below (bl_alloc (Below.refl _ _) _), ?_, bl_alloc (bl_alloc (Below.refl _ _) _) _⟩
    have h_ := heap_alloc_new (w.alloc (.cells #[.int .u8 97, .int .u8 98, .int .u8 99] 5 (3, 4))) (.cells #[.int .u8 4, .int .u32 3, .int .u32 0, .int .u16 0, .int .u16 0, .int .u32 9, .int .u32 0] 25)
    simp only [World.size_alloc] at h_
    exact h_
  obtain ⟨W1, hW1⟩ : ∃ W1, ((w.alloc (.cells #[.int .u8 97, .int .u8 98, .int .u8 99] 5 (3, 4))).alloc (.cells #[.int .u8 4, .int .u32 3, .int .u32 0, .int .u16 0, .int .u16 0, .int .u32 9, .int .u32 0] 25)) = W1 := ⟨_, rfl⟩
  rw [hW1] at hW0 ⊢
  have H0 := Lib.hid hW0
  clear hW0 hW1
  refine (Seal_any hdA _ none 3 0 3 0 abcL [] W1 hdA_ok H0.out.1 (by omega) abc_byt (by omega) ⟨rfl, by omega, fun h => absurd h (by omega)⟩ (by omega) (fun x hx => by cases hx)).mono ?_
  rintro e w2 ⟨v2, rfl, hn2⟩
  obtain ⟨A2, c2, rfl, hc2⟩ := hn2.shape 64 (sealL_length _ _ _)
  have N2 := Lib.hid hn2
  clear hn2
  go_wp2_with fail
  refine (open_abc A2 _ c2 3 w2 (N2.out.read (sealL_length _ _ _)).1 hc2 (H0.out.1.below N2.out.bel) (by omega)).mono ?_
  rintro e w3 ⟨hb3, rfl⟩
  have T3 := Lib.hid (bl_seq N2.out.bel hb3)
  clear hb3
  go_wp2_with fail
  have hW4 : (w3.alloc (.cells #[.int .u8 4, .int .u32 3, .int .u32 0, .int .u16 0, .int .u16 0, .int .u32 9, .int .u32 0] 25)).heap[w3.heap.size]? = some (.cells #[.int .u8 4, .int .u32 3, .int .u32 0, .int .u16 0, .int .u16 0, .int .u32 9, .int .u32 0] 25 (0, 0)) ∧ Below W1.heap.size W1 (w3.alloc (.cells #[.int .u8 4, .int .u32 3, .int .u32 0, .int .u16 0, .int .u16 0, .int .u32 9, .int .u32 0] 25)) ∧ (w3.alloc (.cells #[.int .u8 4, .int .u32 3, .int .u32 0, .int .u16 0, .int .u16 0, .int .u32 9, .int .u32 0] 25)).heap.size = w3.heap.size + 1 := ⟨heap_alloc_new _ _, bl_seq T3.out (bl_alloc (Below.refl _ _) _), by simp⟩
  obtain ⟨W4, hW4e⟩ : ∃ W4, w3.alloc (.cells #[.int .u8 4, .int .u32 3, .int .u32 0, .int .u16 0, .int .u16 0, .int .u32 9, .int .u32 0] 25) = W4 := ⟨_, rfl⟩
  rw [hW4e] at hW4 ⊢
  have hz4 := hW4.2.2
  rw [← hz4]
  have H4 := Lib.hid hW4
  have O4 := Lib.hid (show (W4.alloc (.cells (madeCells #[.int .u8 0] 64) 5)).ownsRow W4.heap.size 5 1 (.slice (some ⟨W4.heap.size, 0, none⟩) 64 64) 64 (nums .u8 (partL 0)) from own_made W4 W4.heap.size 5 .u8 64 (Nat.le_refl _) (by omega))
  have B4 := Lib.hid (show Below W4.heap.size W4 (W4.alloc (.cells (madeCells #[.int .u8 0] 64) 5)) from bl_alloc (Below.refl _ _) _)
  obtain ⟨qb, hqb⟩ : ∃ qb, W4.heap.size = qb := ⟨_, rfl⟩
  have Z4 := Lib.hid hqb
  rw [hqb] at O4 B4 ⊢
  clear hW4 hW4e N2 hc2 hz4 hqb
  go_loopw [6] (fun i wr => ∃ j : Nat, j ≤ 64 ∧ i = .int .i64 (j : Int) ∧ Hid (wr.ownsRow qb 5 1 (.slice (some ⟨qb, 0, none⟩) 64 64) 64 (nums .u8 (partL j))) ∧ Hid (Below qb W4 wr)) (fun i _ => 64 - (intOf i).toNat)
  case atStart => exact ⟨0, Nat.zero_le _, rfl, O4, B4⟩
  case round =>
    obtain ⟨j, hj, rfl, HO, HB⟩ := hrel
    clear O4 B4
    by_cases hlt : j < 64
    · have hpl := partL_len j hj
      obtain ⟨hc3, hf3⟩ := own_at (show wr.ownsRow qb 5 1 (.slice (some ⟨qb, 0, none⟩) 64 64) 64 (nums .u8 (partL j)) from HO.out) (j : Int) (by omega) (by omega)
      rw [Int.toNat_natCast] at hc3 hf3
      clear hpl
      go_wp2
      go_roundw
      case rel =>
        refine ⟨j + 1, by omega, by go_num, ?_, Lib.hid (HB.out.setCell (by simp) _)⟩
        have h_ := (own_store HO.out (j : Int) 255).1
        rw [Int.toNat_natCast, partL_set j hlt] at h_
        exact Lib.hid h_
      case measure => simp [intOf]; omega
    · obtain rfl : j = 64 := by omega
      have hrd : ReadsInt wr .u8 (some ⟨qb, 0, none⟩) 64 fullL := own_reads' HO.out
      have hb5 : Below W1.heap.size W1 wr := by
        have h1_ := HB.out
        rw [← Z4.out] at h1_
        exact bl_seq H4.out.2.1 h1_
      have R5 := Lib.hid hrd
      have T5 := Lib.hid hb5
      have X5 := Lib.hid (show wr.heap[w3.heap.size]? = some (.cells #[.int .u8 4, .int .u32 3, .int .u32 0, .int .u16 0, .int .u16 0, .int .u32 9, .int .u32 0] 25 (0, 0)) from by
        have h1_ := HB.out
        rw [← Z4.out] at h1_
        exact blk_below H4.out.1 h1_)
      clear hrd hb5 HO HB
      go_wp2_with fail
      refine (open_full _ 64 wr R5.out (Nat.le_refl _)).mono ?_
      rintro e w6 ⟨hb6, rfl⟩
      have R6 := Lib.hid (R5.out.below hb6)
      have T6 := Lib.hid (bl_seq T5.out hb6)
      have hx6 := blk_below X5.out hb6
      have hh6 := blk_below H0.out.2.1 T6.out
      have x0 : ∀ o, (w6.alloc o).cell? ⟨w3.heap.size, 0, none⟩ = some (.int .u8 4) := fun o => (blk_cell (blk_alloc hx6 o) 0).trans rfl
      have y0 : ∀ o, (w6.alloc o).cell? ⟨w.heap.size + 1, 0, none⟩ = some (.int .u8 4) := fun o => (blk_cell (blk_alloc hh6 o) 0).trans rfl
      have x1 : ∀ o, (w6.alloc o).cell? ⟨w3.heap.size, 1, none⟩ = some (.int .u32 3) := fun o => (blk_cell (blk_alloc hx6 o) 1).trans rfl
      have y1 : ∀ o, (w6.alloc o).cell? ⟨w.heap.size + 1, 1, none⟩ = some (.int .u32 3) := fun o => (blk_cell (blk_alloc hh6 o) 1).trans rfl
      have x2 : ∀ o, (w6.alloc o).cell? ⟨w3.heap.size, 2, none⟩ = some (.int .u32 0) := fun o => (blk_cell (blk_alloc hx6 o) 2).trans rfl
      have y2 : ∀ o, (w6.alloc o).cell? ⟨w.heap.size + 1, 2, none⟩ = some (.int .u32 0) := fun o => (blk_cell (blk_alloc hh6 o) 2).trans rfl
      have x3 : ∀ o, (w6.alloc o).cell? ⟨w3.heap.size, 3, none⟩ = some (.int .u16 0) := fun o => (blk_cell (blk_alloc hx6 o) 3).trans rfl
      have y3 : ∀ o, (w6.alloc o).cell? ⟨w.heap.size + 1, 3, none⟩ = some (.int .u16 0) := fun o => (blk_cell (blk_alloc hh6 o) 3).trans rfl
      have x4 : ∀ o, (w6.alloc o).cell? ⟨w3.heap.size, 4, none⟩ = some (.int .u16 0) := fun o => (blk_cell (blk_alloc hx6 o) 4).trans rfl
      have y4 : ∀ o, (w6.alloc o).cell? ⟨w.heap.size + 1, 4, none⟩ = some (.int .u16 0) := fun o => (blk_cell (blk_alloc hh6 o) 4).trans rfl
      have x5 : ∀ o, (w6.alloc o).cell? ⟨w3.heap.size, 5, none⟩ = some (.int .u32 9) := fun o => (blk_cell (blk_alloc hx6 o) 5).trans rfl
      have y5 : ∀ o, (w6.alloc o).cell? ⟨w.heap.size + 1, 5, none⟩ = some (.int .u32 9) := fun o => (blk_cell (blk_alloc hh6 o) 5).trans rfl
      have x6 : ∀ o, (w6.alloc o).cell? ⟨w3.heap.size, 6, none⟩ = some (.int .u32 0) := fun o => (blk_cell (blk_alloc hx6 o) 6).trans rfl
      have y6 : ∀ o, (w6.alloc o).cell? ⟨w.heap.size + 1, 6, none⟩ = some (.int .u32 0) := fun o => (blk_cell (blk_alloc hh6 o) 6).trans rfl
      have eqh := eqHd hdA hdA
      rw [hdEq_self] at eqh
      simp only [hdA] at eqh
      clear hb6 hx6 hh6
      go_wp2_with fail
      refine (Blank_any _ _ 64 64 64 64 fullL fullL _ (R6.out.below (bl_alloc (Below.refl _ _) _)) (R6.out.below (bl_alloc (Below.refl _ _) _))).mono ?_
      rintro e w7 ⟨rfl, hd7⟩
      rw [show (fullL.all (fun x => x == 255) && fullL.all (fun x => x == 255)) = true from by decide]
      have T7_ := bl_seq (bl_seq T6.out (bl_alloc (Below.refl _ _) (.cells #[.int .u8 0, .int .u32 0, .int .u32 0, .int .u16 0, .int .u16 0, .int .u32 0, .int .u32 0] 25))) hd7.below
      have R7 := Lib.hid ((R6.out.below (bl_alloc (Below.refl _ _) (.cells #[.int .u8 0, .int .u32 0, .int .u32 0, .int .u16 0, .int .u16 0, .int .u32 0, .int .u32 0] 25))).below hd7.below)
      have T7 := Lib.hid T7_
      clear T7_ hd7
      go_wp2_with fail
      refine (Blank_any _ _ 3 64 3 64 abcL fullL _ (H0.out.1.below T7.out) R7.out).mono ?_
      rintro e w8 ⟨rfl, hd8⟩
      rw [show (abcL.all (fun x => x == 255) && fullL.all (fun x => x == 255)) = false from by decide]
      have T8 := Lib.hid (bl_seq H0.out.2.2 (bl_seq T7.out hd8.below))
      clear hd8
      go_wp2_with fail
      go_ret
      exact ⟨rfl, T8.out⟩
end Go.Proofs.Ytkmfdnoklabndaa
