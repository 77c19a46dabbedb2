import Derived.Test.YtaomgddfkpcdhaaDoorXDirpDen
/-! The walk of DirentDecodes. -/
set_option linter.unusedVariables false
set_option linter.unusedSimpArgs false
namespace Go.Proofs.YtaomgddfkpcdhaaDoor.XDir
open Go.RowKit Go.Proofs.YtaomgddfkpcdhaaDoorW.PrintWords Go.Proofs.YtaomgddfkpcdhaaDoorW.PrintLast Go.Proofs.YtaomgddfkpcdhaaDoorW.PrintMore
theorem ord_true : gabionlaw18_ordered.f = some true := by kernel_rfl
set_option maxHeartbeats 4000000 in
set_option maxRecDepth 100000 in
theorem decodes_walk (A : Option Addr) (c : Nat) (xs : List Int) (w : World) (hr : ReadsInt w .u8 A xs.length xs) (hb : Byt xs) (hc : xs.length ≤ c) (hA : ∀ a, A = some a → a.block < w.heap.size) (hg : GT w) :
    Calls Tryd.prog 3 #[.slice A xs.length c] w fun e w' => e = .returned (.bool true) ∧ Below w.heap.size w w' := by
  have HR := Lib.hid hr
  have HBy := Lib.hid hb
  have HC := Lib.hid hc
  by_cases h : 100 < xs.length
  · have e1 : (100 : Int) < (xs.length : Int) := by omega
    clear hr hb hc hA hg h
    go_enter Tryd.func3, Tryd.ntmps3
    go_wp2_with fail
    refine (gabionlaw18_ordered.calls true w ord_true).mono ?_
    rintro e w1 ⟨rfl, hb⟩
    have HB1 := Lib.hid hb
    clear hb
    go_wp2_with fail
    go_ret
    exact ⟨rfl, HB1.out⟩
  have e1 : (xs.length : Int) ≤ 100 := by omega
  have HD := Lib.hid (decode_any A c xs w hr hb hc hA hg)
  have hnb := num_bound ((xs.drop 0).take 4) (fun x hx => hb x (List.mem_of_mem_drop (List.mem_of_mem_take hx)))
  have hl4 : ((xs.drop 0).take 4).length ≤ 4 := by rw [List.length_take]; omega
  have hp4 := pow256 (q := 4) _ hl4 (Nat.le_refl _)
  have hw2 : wrap64 (ndX xs) = ndX xs := by
    have h1 : ndX xs = num ((xs.drop 0).take 4) := rfl
    have h2 : (256 : Int) ^ 4 = 4294967296 := by decide
    rw [h1]; unfold wrap64; omega
  have hw3 : IntKind.i64.wrap (ndX xs) = ndX xs := by rw [i64_w]; exact hw2
  clear hr hb hc hA hg h hnb hl4 hp4
  obtain ⟨nd, hnd⟩ : ∃ nd, ndX xs = nd := ⟨_, rfl⟩
  obtain ⟨nm, hnm⟩ : ∃ nm, nmX xs = nm := ⟨_, rfl⟩
  rw [hnd] at hw2 hw3
  have HN := Lib.hid (And.intro hnd hnm)
  clear hnd hnm
  go_enter Tryd.func3, Tryd.ntmps3
  go_wp2_with fail
  refine HD.out.mono ?_
  rintro e w1 ⟨hb, ⟨hd, rfl⟩ | ⟨hd, rfl⟩⟩
  · rw [HN.out.1, HN.out.2]
    have HE := Lib.hid hd
    have HB1 := Lib.hid hb
    clear hb hd
    go_wp2_with fail
    have hx := heap_alloc_new w1 (.cells #[.int .u32 nd, .string nm] 26)
    have hbl := bl_seq_ HB1.out (below_alloc (Below.refl w1.heap.size w1) (.cells #[.int .u32 nd, .string nm] 26))
    obtain ⟨W1, hW1⟩ : ∃ W1, w1.alloc (.cells #[.int .u32 nd, .string nm] 26) = W1 := ⟨_, rfl⟩
    rw [hW1] at hx hbl ⊢
    obtain ⟨g1, hg1⟩ : ∃ g1, w1.heap.size = g1 := ⟨_, rfl⟩
    rw [hg1] at hx ⊢
    have HX := Lib.hid hx
    have HB2 := Lib.hid hbl
    clear hW1 hg1 hx hbl
    refine (dent_any A c xs W1 (HR.out.below HB2.out) HBy.out HC.out).mono ?_
    rintro e w2 ⟨hb, ⟨hd, rfl⟩ | ⟨hd, rfl⟩⟩
    · rw [HN.out.1, HN.out.2]
      have HB3 := Lib.hid (bl_seq_ HB2.out hb)
      have HX3 := Lib.hid (blk_below HX.out hb)
      clear hb hd
      go_wp2_with fail
      have hx := heap_alloc_new w2 (.cells #[.int .i64 nd, .string nm] 31)
      have hal := below_alloc (Below.refl w2.heap.size w2) (.cells #[.int .i64 nd, .string nm] 31)
      have hbl := bl_seq_ HB3.out hal
      have hx1 := blk_below HX3.out hal
      obtain ⟨W2, hW2⟩ : ∃ W2, w2.alloc (.cells #[.int .i64 nd, .string nm] 31) = W2 := ⟨_, rfl⟩
      rw [hW2] at hx hbl hx1 ⊢
      obtain ⟨g2, hg2⟩ : ∃ g2, w2.heap.size = g2 := ⟨_, rfl⟩
      rw [hg2] at hx ⊢
      have HY := Lib.hid (And.intro hx1 hx)
      have HB4 := Lib.hid hbl
      clear hW2 hg2 hx hx1 hal hbl
      refine (gabionlaw18_ordered.calls true W2 ord_true).mono ?_
      rintro e w3 ⟨rfl, hb⟩
      have HB5 := Lib.hid (bl_seq_ HB4.out hb)
      have x0 := (blk_cell (blk_below HY.out.1 hb) 0).trans rfl
      have x1 := (blk_cell (blk_below HY.out.1 hb) 1).trans rfl
      have y0 := (blk_cell (blk_below HY.out.2 hb) 0).trans rfl
      have y1 := (blk_cell (blk_below HY.out.2 hb) 1).trans rfl
      clear hb
      go_wp2_with fail
      go_ret
      exact ⟨rfl, HB5.out⟩
    · exact absurd (HE.out.symm.trans hd) (by decide)
  · have HE := Lib.hid hd
    have HB1 := Lib.hid hb
    clear hb hd
    go_wp2_with fail
    have hx := heap_alloc_new w1 (.cells #[.int .u32 0, .string ⟨#[]⟩] 26)
    have hbl := bl_seq_ HB1.out (below_alloc (Below.refl w1.heap.size w1) (.cells #[.int .u32 0, .string ⟨#[]⟩] 26))
    obtain ⟨W1, hW1⟩ : ∃ W1, w1.alloc (.cells #[.int .u32 0, .string ⟨#[]⟩] 26) = W1 := ⟨_, rfl⟩
    rw [hW1] at hx hbl ⊢
    obtain ⟨g1, hg1⟩ : ∃ g1, w1.heap.size = g1 := ⟨_, rfl⟩
    rw [hg1] at hx ⊢
    have HX := Lib.hid hx
    have HB2 := Lib.hid hbl
    clear hW1 hg1 hx hbl
    refine (dent_any A c xs W1 (HR.out.below HB2.out) HBy.out HC.out).mono ?_
    rintro e w2 ⟨hb, ⟨hd, rfl⟩ | ⟨hd, rfl⟩⟩
    · exact absurd (HE.out.symm.trans hd) (by decide)
    · have HB3 := Lib.hid (bl_seq_ HB2.out hb)
      have HX3 := Lib.hid (blk_below HX.out hb)
      clear hb hd
      go_wp2_with fail
      have hx := heap_alloc_new w2 (.cells #[.int .i64 0, .string ⟨#[]⟩] 31)
      have hal := below_alloc (Below.refl w2.heap.size w2) (.cells #[.int .i64 0, .string ⟨#[]⟩] 31)
      have hbl := bl_seq_ HB3.out hal
      have hx1 := blk_below HX3.out hal
      obtain ⟨W2, hW2⟩ : ∃ W2, w2.alloc (.cells #[.int .i64 0, .string ⟨#[]⟩] 31) = W2 := ⟨_, rfl⟩
      rw [hW2] at hx hbl hx1 ⊢
      obtain ⟨g2, hg2⟩ : ∃ g2, w2.heap.size = g2 := ⟨_, rfl⟩
      rw [hg2] at hx ⊢
      have HY := Lib.hid (And.intro hx1 hx)
      have HB4 := Lib.hid hbl
      clear hW2 hg2 hx hx1 hal hbl
      refine (gabionlaw18_ordered.calls true W2 ord_true).mono ?_
      rintro e w3 ⟨rfl, hb⟩
      have HB5 := Lib.hid (bl_seq_ HB4.out hb)
      have x0 := (blk_cell (blk_below HY.out.1 hb) 0).trans rfl
      have x1 := (blk_cell (blk_below HY.out.1 hb) 1).trans rfl
      have y0 := (blk_cell (blk_below HY.out.2 hb) 0).trans rfl
      have y1 := (blk_cell (blk_below HY.out.2 hb) 1).trans rfl
      clear hb
      go_wp2_with fail
      go_ret
      exact ⟨rfl, HB5.out⟩
end Go.Proofs.YtaomgddfkpcdhaaDoor.XDir
