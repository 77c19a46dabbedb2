import Derived.Test.YtdcelfoomjahjaaIdecw
/-! The law InodeDecodes: its walk, too long. -/
set_option linter.unusedVariables false
set_option linter.unusedSimpArgs false
namespace Go.Proofs.Ytdcelfoomjahjaa
open Go.RowKit Go.Proofs.YtdcelfoomjahjaaW.PrintWords Go.Proofs.YtdcelfoomjahjaaW.PrintLast Go.Proofs.Ytdcelfoomjahjaa.PInodeDecodes
attribute [local go_sem ↓] Go.wp_at_zero Go.wp_at_succ
set_option maxHeartbeats 16000000 in
set_option maxRecDepth 100000 in
theorem idec_heavy (xs ts us : List Int) (A At Cc : Option Addr) (c ct cc : Nat) (k l s : Int) (d : Nat → Int) (na nb : Int) (w : World) (k0 : 0 ≤ k) (k1 : k < 256) (l0 : 0 ≤ l) (l1 : l < 65536) (s0 : 0 ≤ s) (s1 : s < 4294967296) (hd : ∀ j, 0 ≤ d j ∧ d j < 4294967296) (a0 : 0 ≤ na) (a1 : na < 4294967296) (b0 : 0 ≤ nb) (b1 : nb < 4294967296) (hx : ReadsInt w .u8 A xs.length xs) (hxb : Byt xs) (hxc : xs.length ≤ c) (fA : ∀ a, A = some a → a.block < w.heap.size) (ht : ReadsInt w .i64 At ts.length ts) (hu : ReadsInt w .u8 Cc us.length us) (hub : Byt us)
    (hh : 200 < xs.length ∨ 6 < ts.length ∨ us.length < ts.length) (rt : ∀ x ∈ ts, -9223372036854775808 ≤ x ∧ x ≤ 9223372036854775807) :
    Calls Try.prog 8 #[.agg #[.slice A xs.length c, .int .u8 k, .int .u16 l, .int .u32 s, .int .u32 (d 0), .int .u32 (d 1), .int .u32 (d 2), .int .u32 (d 3), .int .u32 (d 4), .int .u32 (d 5), .int .u32 (d 6), .int .u32 (d 7), .int .u32 na, .int .u32 nb, .slice At ts.length ct, .slice Cc us.length cc]] w fun e w' => e = .returned (.bool true) ∧ Below w.heap.size w w' := by
  have HD := Lib.hid hd
  have HX := Lib.hid (And.intro hx (And.intro hxb (And.intro fA (And.intro ht (And.intro hu (And.intro hub rt))))))
  have hun := hu.2.1
  clear hd hx hxb fA ht hu hub rt
  go_enter Try.func8, Try.ntmps8
  go_wp2_with fail
  have hb0 : (w.alloc (.cells #[.slice A xs.length c, .int .u8 k, .int .u16 l, .int .u32 s, .int .u32 (d 0), .int .u32 (d 1), .int .u32 (d 2), .int .u32 (d 3), .int .u32 (d 4), .int .u32 (d 5), .int .u32 (d 6), .int .u32 (d 7), .int .u32 na, .int .u32 nb, .slice At ts.length ct, .slice Cc us.length cc] 62)).heap[w.heap.size]? = some (.cells #[.slice A xs.length c, .int .u8 k, .int .u16 l, .int .u32 s, .int .u32 (d 0), .int .u32 (d 1), .int .u32 (d 2), .int .u32 (d 3), .int .u32 (d 4), .int .u32 (d 5), .int .u32 (d 6), .int .u32 (d 7), .int .u32 na, .int .u32 nb, .slice At ts.length ct, .slice Cc us.length cc] 62 (0, 0)) := heap_alloc_new w _
  have t0 : Below w.heap.size w (w.alloc (.cells #[.slice A xs.length c, .int .u8 k, .int .u16 l, .int .u32 s, .int .u32 (d 0), .int .u32 (d 1), .int .u32 (d 2), .int .u32 (d 3), .int .u32 (d 4), .int .u32 (d 5), .int .u32 (d 6), .int .u32 (d 7), .int .u32 na, .int .u32 nb, .slice At ts.length ct, .slice Cc us.length cc] 62)) := bl_alloc (Below.refl _ _) _
  have hs0 : (w.alloc (.cells #[.slice A xs.length c, .int .u8 k, .int .u16 l, .int .u32 s, .int .u32 (d 0), .int .u32 (d 1), .int .u32 (d 2), .int .u32 (d 3), .int .u32 (d 4), .int .u32 (d 5), .int .u32 (d 6), .int .u32 (d 7), .int .u32 na, .int .u32 nb, .slice At ts.length ct, .slice Cc us.length cc] 62)).heap.size = w.heap.size + 1 := by simp
  obtain ⟨W, hW⟩ : ∃ W, w.alloc (.cells #[.slice A xs.length c, .int .u8 k, .int .u16 l, .int .u32 s, .int .u32 (d 0), .int .u32 (d 1), .int .u32 (d 2), .int .u32 (d 3), .int .u32 (d 4), .int .u32 (d 5), .int .u32 (d 6), .int .u32 (d 7), .int .u32 na, .int .u32 nb, .slice At ts.length ct, .slice Cc us.length cc] 62) = W := ⟨_, rfl⟩
  rw [hW] at hb0 t0 hs0 ⊢
  have B0 := Lib.hid (And.intro t0 hs0)
  have z0 : W.cell? ⟨w.heap.size, 0, none⟩ = some (.slice A xs.length c) := (blk_cell hb0 0).trans rfl
  have z1 : W.cell? ⟨w.heap.size, 1, none⟩ = some (.int .u8 k) := (blk_cell hb0 1).trans rfl
  have z2 : W.cell? ⟨w.heap.size, 2, none⟩ = some (.int .u16 l) := (blk_cell hb0 2).trans rfl
  have z3 : W.cell? ⟨w.heap.size, 3, none⟩ = some (.int .u32 s) := (blk_cell hb0 3).trans rfl
  have z4 : W.cell? ⟨w.heap.size, 4, none⟩ = some (.int .u32 (d 0)) := (blk_cell hb0 4).trans rfl
  have z5 : W.cell? ⟨w.heap.size, 5, none⟩ = some (.int .u32 (d 1)) := (blk_cell hb0 5).trans rfl
  have z6 : W.cell? ⟨w.heap.size, 6, none⟩ = some (.int .u32 (d 2)) := (blk_cell hb0 6).trans rfl
  have z7 : W.cell? ⟨w.heap.size, 7, none⟩ = some (.int .u32 (d 3)) := (blk_cell hb0 7).trans rfl
  have z8 : W.cell? ⟨w.heap.size, 8, none⟩ = some (.int .u32 (d 4)) := (blk_cell hb0 8).trans rfl
  have z9 : W.cell? ⟨w.heap.size, 9, none⟩ = some (.int .u32 (d 5)) := (blk_cell hb0 9).trans rfl
  have z10 : W.cell? ⟨w.heap.size, 10, none⟩ = some (.int .u32 (d 6)) := (blk_cell hb0 10).trans rfl
  have z11 : W.cell? ⟨w.heap.size, 11, none⟩ = some (.int .u32 (d 7)) := (blk_cell hb0 11).trans rfl
  have z12 : W.cell? ⟨w.heap.size, 12, none⟩ = some (.int .u32 na) := (blk_cell hb0 12).trans rfl
  have z13 : W.cell? ⟨w.heap.size, 13, none⟩ = some (.int .u32 nb) := (blk_cell hb0 13).trans rfl
  have z14 : W.cell? ⟨w.heap.size, 14, none⟩ = some (.slice At ts.length ct) := (blk_cell hb0 14).trans rfl
  have z15 : W.cell? ⟨w.heap.size, 15, none⟩ = some (.slice Cc us.length cc) := (blk_cell hb0 15).trans rfl
  clear hW hb0 t0 hs0
  go_region_held3 (fun w' => w'.cell? ⟨w.heap.size, 0, none⟩ = some (.slice A xs.length c) ∧ w'.cell? ⟨w.heap.size, 1, none⟩ = some (.int .u8 k) ∧ w'.cell? ⟨w.heap.size, 2, none⟩ = some (.int .u16 l) ∧ w'.cell? ⟨w.heap.size, 3, none⟩ = some (.int .u32 s) ∧ w'.cell? ⟨w.heap.size, 4, none⟩ = some (.int .u32 (d 0)) ∧ w'.cell? ⟨w.heap.size, 5, none⟩ = some (.int .u32 (d 1)) ∧ w'.cell? ⟨w.heap.size, 6, none⟩ = some (.int .u32 (d 2)) ∧ w'.cell? ⟨w.heap.size, 7, none⟩ = some (.int .u32 (d 3)) ∧ w'.cell? ⟨w.heap.size, 8, none⟩ = some (.int .u32 (d 4)) ∧ w'.cell? ⟨w.heap.size, 9, none⟩ = some (.int .u32 (d 5)) ∧ w'.cell? ⟨w.heap.size, 10, none⟩ = some (.int .u32 (d 6)) ∧ w'.cell? ⟨w.heap.size, 11, none⟩ = some (.int .u32 (d 7)) ∧ w'.cell? ⟨w.heap.size, 12, none⟩ = some (.int .u32 na) ∧ w'.cell? ⟨w.heap.size, 13, none⟩ = some (.int .u32 nb) ∧ w'.cell? ⟨w.heap.size, 14, none⟩ = some (.slice At ts.length ct) ∧ w'.cell? ⟨w.heap.size, 15, none⟩ = some (.slice Cc us.length cc)) (go_keep) (fail)
  go_wp2_with fail
  clear z0 z1 z2 z3 z4 z5 z6 z7 z8 z9 z10 z11 z12 z13 z14 z15
  have hbn : ((W.alloc (.cells #[.int .u8 k, .int .u16 l, .int .u32 s, .int .u32 (d 0), .int .u32 (d 1), .int .u32 (d 2), .int .u32 (d 3), .int .u32 (d 4), .int .u32 (d 5), .int .u32 (d 6), .int .u32 (d 7), .int .u32 na, .int .u32 nb] 48)).drew).heap[W.heap.size]? = some (.cells #[.int .u8 k, .int .u16 l, .int .u32 s, .int .u32 (d 0), .int .u32 (d 1), .int .u32 (d 2), .int .u32 (d 3), .int .u32 (d 4), .int .u32 (d 5), .int .u32 (d 6), .int .u32 (d 7), .int .u32 na, .int .u32 nb] 48 (0, 0)) := heap_alloc_new W _
  have T0 : Hid (Below w.heap.size w ((W.alloc (.cells #[.int .u8 k, .int .u16 l, .int .u32 s, .int .u32 (d 0), .int .u32 (d 1), .int .u32 (d 2), .int .u32 (d 3), .int .u32 (d 4), .int .u32 (d 5), .int .u32 (d 6), .int .u32 (d 7), .int .u32 na, .int .u32 nb] 48)).drew)) := Lib.hid (bl_drew (bl_alloc B0.out.1 _))
  refine (laid_any _).mono ?_
  rintro e w1 ⟨rfl, hb1⟩
  have T1 := Lib.hid (bl_seq T0.out hb1)
  clear hb1 T0 hbn
  cases g1 : decide ((200 : Int) < xs.length) with
  | true =>
    go_wp2_with fail
    refine (laid_any _).mono ?_
    rintro e w2 ⟨rfl, hb2⟩
    have T2 := bl_seq T1.out hb2
    go_wp2_with fail
    go_ret
    exact ⟨by simp, T2⟩
  | false =>
    cases g2 : decide ((6 : Int) < ts.length) with
    | true =>
      go_wp2_with fail
      refine (laid_any _).mono ?_
      rintro e w2 ⟨rfl, hb2⟩
      have T2 := bl_seq T1.out hb2
      go_wp2_with fail
      go_ret
      exact ⟨by simp, T2⟩
    | false =>
      have g3 : decide (us.length < ts.length) = true := by
        have h1 : ¬ (200 : Int) < xs.length := by simpa using g1
        have h2 : ¬ (6 : Int) < ts.length := by simpa using g2
        simp; omega
      go_wp2_with fail
      refine (laid_any _).mono ?_
      rintro e w2 ⟨rfl, hb2⟩
      have T2 := bl_seq T1.out hb2
      go_wp2_with fail
      go_ret
      exact ⟨by simp, T2⟩
end Go.Proofs.Ytdcelfoomjahjaa
