import Derived.Test.YtdcelfoomjahjaaIlaw
/-! The law InodeCodes: its walk. -/
set_option linter.unusedVariables false
set_option linter.unusedSimpArgs false
namespace Go.Proofs.Ytdcelfoomjahjaa
open Go.RowKit Go.Proofs.YtdcelfoomjahjaaW.PrintWords Go.Proofs.Ytdcelfoomjahjaa.PInodeDecodes
theorem inoEq_self (k l s : Int) (d : Nat → Int) (a b : Int) : inoEq k l s d a b k l s d a b = true := by simp [inoEq]
def mayB (k l s : Int) (d : Nat → Int) (a b : Int) : Bool := decide (k ≤ 2) && (!(k == 0) || inoEq k l s d a b 0 0 0 dirN 0 0)
theorem decode_enc (k l s : Int) (d : Nat → Int) (a b : Int) (A : Option Addr) (c : Nat) (w : World) (k0 : 0 ≤ k) (k1 : k < 256) (l0 : 0 ≤ l) (l1 : l < 65536) (s0 : 0 ≤ s) (s1 : s < 4294967296) (hd : ∀ j, 0 ≤ d j ∧ d j < 4294967296) (a0 : 0 ≤ a) (a1 : a < 4294967296) (b0 : 0 ≤ b) (b1 : b < 4294967296) (hr : ReadsInt w .u8 A 64 (encL k l s (ats d a b))) (hc : 64 ≤ c) (hA : ∀ a, A = some a → a.block < w.heap.size) :
    Calls Try.prog 19 #[.slice A 64 c] w fun e w' => Below w.heap.size w w' ∧ e = if mayB k l s d a b then .returned (.tuple #[.agg (decA k l s d a b), .int .i64 0]) else .returned (.tuple #[.agg (decA 0 0 0 dirN 0 0), .int .i64 62]) := by
  have hl := encL_len k l s (ats d a b) (ats_get d a b)
  have hD := enc_dec k l s d a b k0 k1 l0 l1 s0 s1 hd a0 a1 b0 b1
  have h := decode_any A c (encL k l s (ats d a b)) w (by rw [hl]; exact hr) (encL_byt k l s _) (by omega) hA
  rw [hl] at h
  refine h.mono ?_
  rintro e w' ⟨hb, ⟨h1, rfl⟩ | ⟨h1, rfl⟩⟩
  · rw [hD.ok] at h1
    refine ⟨hb, ?_⟩
    rw [mayB, h1, if_pos rfl, hD.fk, hD.fl, hD.fs, hD.fa, hD.fb]
    simp only [decA, hD.fd 0 (by omega), hD.fd 1 (by omega), hD.fd 2 (by omega), hD.fd 3 (by omega), hD.fd 4 (by omega), hD.fd 5 (by omega), hD.fd 6 (by omega), hD.fd 7 (by omega)]
  · rw [hD.ok] at h1
    refine ⟨hb, ?_⟩
    rw [mayB, h1, if_neg (by simp)]
theorem encode_enc (k l s : Int) (d : Nat → Int) (a b : Int) (w : World) (k0 : 0 ≤ k) (k1 : k < 256) (l0 : 0 ≤ l) (l1 : l < 65536) (s0 : 0 ≤ s) (s1 : s < 4294967296) (hd : ∀ j, 0 ≤ d j ∧ d j < 4294967296) (a0 : 0 ≤ a) (a1 : a < 4294967296) (b0 : 0 ≤ b) (b1 : b < 4294967296) :
    Calls Try.prog 15 #[.agg #[.int .u8 k, .int .u16 l, .int .u32 s, .int .u32 (d 0), .int .u32 (d 1), .int .u32 (d 2), .int .u32 (d 3), .int .u32 (d 4), .int .u32 (d 5), .int .u32 (d 6), .int .u32 (d 7), .int .u32 a, .int .u32 b]] w fun e w' => ∃ v, e = .returned v ∧ New w w' v (encL k l s (ats d a b)) := by
  have h := encode_any k l s (d 0) (d 1) (d 2) (d 3) (d 4) (d 5) (d 6) (d 7) a b w k0 k1 l0 l1 s0 s1 (hd 0).1 (hd 0).2 (hd 1).1 (hd 1).2 (hd 2).1 (hd 2).2 (hd 3).1 (hd 3).2 (hd 4).1 (hd 4).2 (hd 5).1 (hd 5).2 (hd 6).1 (hd 6).2 (hd 7).1 (hd 7).2 a0 a1 b0 b1
  rw [inoL_eq k l s d a b k0 k1] at h
  exact h
theorem of_enc (k l s : Int) (d : Nat → Int) (a b : Int) (w : World) (k0 : 0 ≤ k) (k1 : k < 256) (l0 : 0 ≤ l) (l1 : l < 65536) (s0 : 0 ≤ s) (s1 : s < 4294967296) (hd : ∀ j, 0 ≤ d j ∧ d j < 4294967296) (a0 : 0 ≤ a) (a1 : a < 4294967296) (b0 : 0 ≤ b) (b1 : b < 4294967296) :
    Calls Try.prog 18 #[.agg #[.int .u8 k, .int .u16 l, .int .u32 s, .int .u32 (d 0), .int .u32 (d 1), .int .u32 (d 2), .int .u32 (d 3), .int .u32 (d 4), .int .u32 (d 5), .int .u32 (d 6), .int .u32 (d 7), .int .u32 a, .int .u32 b]] w fun e w' => ∃ A c, e = .returned (.agg #[.int .i64 k, .int .i64 l, .int .i64 s, .slice A 10 c]) ∧ 10 ≤ c ∧ ReadsInt w' .i64 A 10 (ats d a b) ∧ Below w.heap.size w w' := by
  refine (of_any k l s d a b w k0 k1 l0 l1 s0 s1 hd a0 a1 b0 b1).mono ?_
  rintro e w' ⟨v, rfl, ho, hb⟩
  obtain ⟨A, c, rfl⟩ := own_slice ho
  have hc := own_le ho
  exact ⟨A, c, rfl, hc, own_reads' ho, hb⟩
set_option maxHeartbeats 4000000 in
set_option maxRecDepth 100000 in
theorem icodes_walk (k l s : Int) (d : Nat → Int) (a b : Int) (w : World) (k0 : 0 ≤ k) (k1 : k < 256) (l0 : 0 ≤ l) (l1 : l < 65536) (s0 : 0 ≤ s) (s1 : s < 4294967296) (hd : ∀ j, 0 ≤ d j ∧ d j < 4294967296) (a0 : 0 ≤ a) (a1 : a < 4294967296) (b0 : 0 ≤ b) (b1 : b < 4294967296) :
    Calls Try.prog 7 #[.agg #[.int .u8 k, .int .u16 l, .int .u32 s, .int .u32 (d 0), .int .u32 (d 1), .int .u32 (d 2), .int .u32 (d 3), .int .u32 (d 4), .int .u32 (d 5), .int .u32 (d 6), .int .u32 (d 7), .int .u32 a, .int .u32 b]] w fun e w' => e = .returned (.bool true) ∧ Below w.heap.size w w' := by
  have HD := Lib.hid hd
  have hl := encL_len k l s (ats d a b) (ats_get d a b)
  have hby := encL_byt k l s (ats d a b)
  obtain ⟨L, hL⟩ : ∃ L, encL k l s (ats d a b) = L := ⟨_, rfl⟩
  rw [hL] at hl hby
  have HL := Lib.hid (And.intro hL (And.intro hl hby))
  clear hd hL hl hby
  go_enter Try.func7, Try.ntmps7
  go_wp2_with fail
  have hb0 : (w.alloc (.cells #[.int .u8 k, .int .u16 l, .int .u32 s, .int .u32 (d 0), .int .u32 (d 1), .int .u32 (d 2), .int .u32 (d 3), .int .u32 (d 4), .int .u32 (d 5), .int .u32 (d 6), .int .u32 (d 7), .int .u32 a, .int .u32 b] 48)).heap[w.heap.size]? = some (.cells #[.int .u8 k, .int .u16 l, .int .u32 s, .int .u32 (d 0), .int .u32 (d 1), .int .u32 (d 2), .int .u32 (d 3), .int .u32 (d 4), .int .u32 (d 5), .int .u32 (d 6), .int .u32 (d 7), .int .u32 a, .int .u32 b] 48 (0, 0)) := heap_alloc_new w _
  have t0 : Below w.heap.size w (w.alloc (.cells #[.int .u8 k, .int .u16 l, .int .u32 s, .int .u32 (d 0), .int .u32 (d 1), .int .u32 (d 2), .int .u32 (d 3), .int .u32 (d 4), .int .u32 (d 5), .int .u32 (d 6), .int .u32 (d 7), .int .u32 a, .int .u32 b] 48)) := bl_alloc (Below.refl _ _) _
  refine (encode_enc k l s d a b _ k0 k1 l0 l1 s0 s1 HD.out a0 a1 b0 b1).mono ?_
  rintro e w1 ⟨v1, rfl, hn1⟩
  rw [HL.out.1] at hn1
  obtain ⟨A1, c1, rfl, hc1⟩ := hn1.slice
  rw [HL.out.2.1] at hc1 ⊢
  have N1 := Lib.hid hn1
  have B1 := Lib.hid (blk_below hb0 hn1.bel)
  have T1 := Lib.hid (bl_seq t0 hn1.bel)
  clear hn1 hb0 t0
  go_wp2_with fail
  refine (laid_any _).mono ?_
  rintro e w2 ⟨rfl, hb2⟩
  have B2 := Lib.hid (blk_below B1.out hb2)
  have D2 := Lib.hid hb2
  clear hb2
  have z0 : w2.cell? ⟨w.heap.size, 0, none⟩ = some (.int .u8 k) := (blk_cell B2.out 0).trans rfl
  have z1 : w2.cell? ⟨w.heap.size, 1, none⟩ = some (.int .u16 l) := (blk_cell B2.out 1).trans rfl
  have z2 : w2.cell? ⟨w.heap.size, 2, none⟩ = some (.int .u32 s) := (blk_cell B2.out 2).trans rfl
  have z3 : w2.cell? ⟨w.heap.size, 3, none⟩ = some (.int .u32 (d 0)) := (blk_cell B2.out 3).trans rfl
  have z4 : w2.cell? ⟨w.heap.size, 4, none⟩ = some (.int .u32 (d 1)) := (blk_cell B2.out 4).trans rfl
  have z5 : w2.cell? ⟨w.heap.size, 5, none⟩ = some (.int .u32 (d 2)) := (blk_cell B2.out 5).trans rfl
  have z6 : w2.cell? ⟨w.heap.size, 6, none⟩ = some (.int .u32 (d 3)) := (blk_cell B2.out 6).trans rfl
  have z7 : w2.cell? ⟨w.heap.size, 7, none⟩ = some (.int .u32 (d 4)) := (blk_cell B2.out 7).trans rfl
  have z8 : w2.cell? ⟨w.heap.size, 8, none⟩ = some (.int .u32 (d 5)) := (blk_cell B2.out 8).trans rfl
  have z9 : w2.cell? ⟨w.heap.size, 9, none⟩ = some (.int .u32 (d 6)) := (blk_cell B2.out 9).trans rfl
  have z10 : w2.cell? ⟨w.heap.size, 10, none⟩ = some (.int .u32 (d 7)) := (blk_cell B2.out 10).trans rfl
  have z11 : w2.cell? ⟨w.heap.size, 11, none⟩ = some (.int .u32 a) := (blk_cell B2.out 11).trans rfl
  have z12 : w2.cell? ⟨w.heap.size, 12, none⟩ = some (.int .u32 b) := (blk_cell B2.out 12).trans rfl
  go_wp2_with fail
  refine (of_enc k l s d a b w2 k0 k1 l0 l1 s0 s1 HD.out a0 a1 b0 b1).mono ?_
  rintro e w3 ⟨A3, c3, rfl, hc3, hr3, hb3⟩
  have R3 := Lib.hid hr3
  have D3 := Lib.hid (bl_seq D2.out hb3)
  clear hr3 hb3 z0 z1 z2 z3 z4 z5 z6 z7 z8 z9 z10 z11 z12
  go_wp2_with fail
  refine (rEncode17 k l s (ats d a b) A3 c3 w3 R3.out hc3 (ats_bound HD.out a0 a1 b0 b1) l0 l1 s0 s1).mono ?_
  rintro e w4 ⟨v4, rfl, hn4⟩
  rw [HL.out.1] at hn4
  obtain ⟨A4, c4, rfl, hc4⟩ := hn4.slice
  rw [HL.out.2.1] at hc4 ⊢
  have N4 := Lib.hid hn4
  have D4 := Lib.hid (bl_seq D3.out hn4.bel)
  clear hn4 hc4
  go_wp2_with fail
  refine (rSame_any L L A1 A4 64 64 c1 c4 w4 ((by have h_ := N1.out.reads; rw [HL.out.2.1] at h_; exact h_ : ReadsInt w1 .u8 A1 64 L).below D4.out) (by have h_ := N4.out.reads; rw [HL.out.2.1] at h_; exact h_) HL.out.2.2 HL.out.2.2).mono ?_
  rintro e w5 ⟨rfl, hd5⟩
  have D5 := Lib.hid (bl_seq D4.out hd5.below)
  have bs : (!decide (L = L)) = false := by simp
  clear hd5
  go_wp2_with fail
  refine (decode_enc k l s d a b A1 c1 w5 k0 k1 l0 l1 s0 s1 HD.out a0 a1 b0 b1 (by rw [HL.out.1]; exact (by have h_ := N1.out.reads; rw [HL.out.2.1] at h_; exact h_ : ReadsInt w1 .u8 A1 64 L).below D5.out) hc1 (fun q hq => by
    have h_ := (N1.out.1.lt q.block (by rw [hq]; rfl)).2
    have h2 := D5.out.size
    omega)).mono ?_
  rintro e w6 ⟨hb6, he⟩
  have D6 := Lib.hid (bl_seq D5.out hb6)
  have T6 := Lib.hid (bl_seq T1.out D6.out)
  have B6 := Lib.hid (blk_below B1.out D6.out)
  clear hb6
  have y0 : ∀ o, (w6.alloc o).cell? ⟨w.heap.size, 0, none⟩ = some (.int .u8 k) := fun o => (blk_cell (blk_alloc B6.out o) 0).trans rfl
  have y1 : ∀ o, (w6.alloc o).cell? ⟨w.heap.size, 1, none⟩ = some (.int .u16 l) := fun o => (blk_cell (blk_alloc B6.out o) 1).trans rfl
  have y2 : ∀ o, (w6.alloc o).cell? ⟨w.heap.size, 2, none⟩ = some (.int .u32 s) := fun o => (blk_cell (blk_alloc B6.out o) 2).trans rfl
  have y3 : ∀ o, (w6.alloc o).cell? ⟨w.heap.size, 3, none⟩ = some (.int .u32 (d 0)) := fun o => (blk_cell (blk_alloc B6.out o) 3).trans rfl
  have y4 : ∀ o, (w6.alloc o).cell? ⟨w.heap.size, 4, none⟩ = some (.int .u32 (d 1)) := fun o => (blk_cell (blk_alloc B6.out o) 4).trans rfl
  have y5 : ∀ o, (w6.alloc o).cell? ⟨w.heap.size, 5, none⟩ = some (.int .u32 (d 2)) := fun o => (blk_cell (blk_alloc B6.out o) 5).trans rfl
  have y6 : ∀ o, (w6.alloc o).cell? ⟨w.heap.size, 6, none⟩ = some (.int .u32 (d 3)) := fun o => (blk_cell (blk_alloc B6.out o) 6).trans rfl
  have y7 : ∀ o, (w6.alloc o).cell? ⟨w.heap.size, 7, none⟩ = some (.int .u32 (d 4)) := fun o => (blk_cell (blk_alloc B6.out o) 7).trans rfl
  have y8 : ∀ o, (w6.alloc o).cell? ⟨w.heap.size, 8, none⟩ = some (.int .u32 (d 5)) := fun o => (blk_cell (blk_alloc B6.out o) 8).trans rfl
  have y9 : ∀ o, (w6.alloc o).cell? ⟨w.heap.size, 9, none⟩ = some (.int .u32 (d 6)) := fun o => (blk_cell (blk_alloc B6.out o) 9).trans rfl
  have y10 : ∀ o, (w6.alloc o).cell? ⟨w.heap.size, 10, none⟩ = some (.int .u32 (d 7)) := fun o => (blk_cell (blk_alloc B6.out o) 10).trans rfl
  have y11 : ∀ o, (w6.alloc o).cell? ⟨w.heap.size, 11, none⟩ = some (.int .u32 a) := fun o => (blk_cell (blk_alloc B6.out o) 11).trans rfl
  have y12 : ∀ o, (w6.alloc o).cell? ⟨w.heap.size, 12, none⟩ = some (.int .u32 b) := fun o => (blk_cell (blk_alloc B6.out o) 12).trans rfl
  have eqn := eqIno k l s d a b k l s d a b
  rw [inoEq_self] at eqn
  have eqz := eqIno 0 0 0 dirN 0 0 0 0 0 dirN 0 0
  rw [inoEq_self] at eqz
  have eq0 := eqIno k l s d a b 0 0 0 dirN 0 0
  obtain ⟨E0, hE0⟩ : ∃ E0, inoEq k l s d a b 0 0 0 dirN 0 0 = E0 := ⟨_, rfl⟩
  have hm : mayB k l s d a b = (decide (k ≤ 2) && (!(k == 0) || E0)) := by rw [mayB, hE0]
  rw [hm] at he
  simp only [hE0] at eq0
  simp only [decA, dirN] at eqn eqz eq0 he
  clear hE0 hm
  by_cases c2 : k ≤ 2
  · have bk2 : decide (k ≤ 2) = true := by simpa using c2
    by_cases c0 : k = 0
    · have bk0 : (k == 0) = true := by simpa using c0
      have bk1 : (k != 0) = false := by simpa using c0
      cases E0
      · rw [bk2, bk0, show (true && (!true || false)) = false from rfl, if_neg (by simp)] at he
        subst he
        clear c0
        go_wp2_with fail
        go_ret
        exact ⟨by simp, bl_alloc T6.out _⟩
      · rw [bk2, bk0, show (true && (!true || true)) = true from rfl, if_pos rfl] at he
        subst he
        clear c0
        go_wp2_with fail
        go_ret
        exact ⟨by simp, bl_alloc T6.out _⟩
    · have bk0 : (k == 0) = false := by simpa using c0
      have bk1 : (k != 0) = true := by simpa using c0
      rw [bk2, bk0, show ∀ E, (true && (!false || E)) = true from fun E => by cases E <;> rfl, if_pos rfl] at he
      subst he
      clear c0
      go_wp2_with fail
      go_ret
      exact ⟨by simp, bl_alloc T6.out _⟩
  · have bk2 : decide (k ≤ 2) = false := by simpa using c2
    rw [bk2, show ∀ E, (false && E) = false from fun E => rfl, if_neg (by simp)] at he
    subst he
    go_wp2_with fail
    go_ret
    exact ⟨by simp, bl_alloc T6.out _⟩
end Go.Proofs.Ytdcelfoomjahjaa
