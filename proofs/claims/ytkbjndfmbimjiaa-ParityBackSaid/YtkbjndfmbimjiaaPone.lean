import Derived.Test.YtkbjndfmbimjiaaMpar
import Derived.Test.YtkbjndfmbimjiaaRref9
/-! The law ParityOne: its walk. -/
set_option linter.unusedVariables false
set_option linter.unusedSimpArgs false
namespace Go.Proofs.Ytkbjndfmbimjiaa
open Go.RowKit Go.Proofs.YtkbjndfmbimjiaaW.PrintWords Go.Proofs.YtkbjndfmbimjiaaW.PrintLast
theorem kind_mod {k : Int} (h0 : 0 ≤ k) (h1 : k < 256) : IntKind.u8.wrap (1 + Int.tmod k 6) = 1 + k % 6 := by
  rw [Int.tmod_eq_emod_of_nonneg h0]; simp only [IntKind.wrap_u8]; omega
/-- A header's kind made one of the six. -/
def kindH (h : Hd) : Hd := { h with k := 1 + h.k % 6 }
theorem kindH_ok {h : Hd} (ho : h.ok) : (kindH h).ok := ⟨by simp only [kindH]; omega, by simp only [kindH]; omega, ho.e0, ho.e1, ho.b0, ho.b1, ho.i0, ho.i1, ho.c0, ho.c1, ho.l0, ho.l1, ho.m0, ho.m1⟩
theorem kindH_six (h : Hd) : kindB (kindH h) = true := by
  have h1 : 1 ≤ 1 + h.k % 6 := by omega
  have h2 : 1 + h.k % 6 ≤ 6 := by omega
  simp [kindB, kindH, h1, h2]
/-- A header with the parity page's kind. -/
def parH (x : Hd) : Hd := { x with k := 5 }
theorem parH_ok {x : Hd} (ho : x.ok) : (parH x).ok := ⟨by simp [parH], by simp [parH], ho.e0, ho.e1, ho.b0, ho.b1, ho.i0, ho.i1, ho.c0, ho.c1, ho.l0, ho.l1, ho.m0, ho.m1⟩
set_option maxHeartbeats 4000000 in
set_option maxRecDepth 100000 in
theorem pone_walk (h x : Hd) (A : Option Addr) (c n : Nat) (xs : List Int) (w : World) (ho : h.ok) (hx : x.ok) (hr : ReadsInt w .u8 A n xs) (hc : n ≤ c) (bx : Byt xs) :
    Calls Try.prog 8 #[.agg (hdC h), .agg (hdC x), .slice A n c] w fun e w' => e = .returned (.bool true) ∧ Below w.heap.size w w' := by
  have HR := Lib.hid hr
  have HO := Lib.hid ho
  have HX := Lib.hid hx
  have HB := Lib.hid bx
  have hm1 := hr.2.1
  clear hr ho hx bx
  have H0 : Hid (((w.alloc (.cells #[.int .u8 h.k, .int .u32 h.e, .int .u32 h.b, .int .u16 h.i, .int .u16 h.c, .int .u32 h.l, .int .u32 h.m] 35)).alloc (.cells #[.int .u8 x.k, .int .u32 x.e, .int .u32 x.b, .int .u16 x.i, .int .u16 x.c, .int .u32 x.l, .int .u32 x.m] 35)).heap[w.heap.size]? = some (.cells #[.int .u8 h.k, .int .u32 h.e, .int .u32 h.b, .int .u16 h.i, .int .u16 h.c, .int .u32 h.l, .int .u32 h.m] 35 (0, 0)) ∧ ((w.alloc (.cells #[.int .u8 h.k, .int .u32 h.e, .int .u32 h.b, .int .u16 h.i, .int .u16 h.c, .int .u32 h.l, .int .u32 h.m] 35)).alloc (.cells #[.int .u8 x.k, .int .u32 x.e, .int .u32 x.b, .int .u16 x.i, .int .u16 x.c, .int .u32 x.l, .int .u32 x.m] 35)).heap[w.heap.size + 1]? = some (.cells #[.int .u8 x.k, .int .u32 x.e, .int .u32 x.b, .int .u16 x.i, .int .u16 x.c, .int .u32 x.l, .int .u32 x.m] 35 (0, 0)) ∧ Below w.heap.size w ((w.alloc (.cells #[.int .u8 h.k, .int .u32 h.e, .int .u32 h.b, .int .u16 h.i, .int .u16 h.c, .int .u32 h.l, .int .u32 h.m] 35)).alloc (.cells #[.int .u8 x.k, .int .u32 x.e, .int .u32 x.b, .int .u16 x.i, .int .u16 x.c, .int .u32 x.l, .int .u32 x.m] 35))) := Lib.hid (by
    refine ⟨blk_alloc (heap_alloc_new _ _) _, ?_, bl_alloc (bl_alloc (Below.refl _ _) _) _⟩
    have h_ := heap_alloc_new (w.alloc (.cells #[.int .u8 h.k, .int .u32 h.e, .int .u32 h.b, .int .u16 h.i, .int .u16 h.c, .int .u32 h.l, .int .u32 h.m] 35)) (.cells #[.int .u8 x.k, .int .u32 x.e, .int .u32 x.b, .int .u16 x.i, .int .u16 x.c, .int .u32 x.l, .int .u32 x.m] 35)
    simp only [World.size_alloc] at h_
    exact h_)
  go_enter Try.func8, Try.ntmps8
  go_wp2_with fail
  obtain ⟨W, hW⟩ : ∃ W, ((w.alloc (.cells #[.int .u8 h.k, .int .u32 h.e, .int .u32 h.b, .int .u16 h.i, .int .u16 h.c, .int .u32 h.l, .int .u32 h.m] 35)).alloc (.cells #[.int .u8 x.k, .int .u32 x.e, .int .u32 x.b, .int .u16 x.i, .int .u16 x.c, .int .u32 x.l, .int .u32 x.m] 35)) = W := ⟨_, rfl⟩
  rw [hW] at H0 ⊢
  clear hW
  refine (summed_any _).mono ?_
  rintro e w1 ⟨rfl, hb1⟩
  have H1 := Lib.hid (And.intro (blk_below H0.out.1 hb1) (And.intro (blk_below H0.out.2.1 hb1) (bl_seq H0.out.2.2 hb1)))
  clear hb1 H0
  by_cases h6 : 300 < (n : Int)
  · go_wp2_with fail
    refine (summed_any _).mono ?_
    rintro e w2 ⟨rfl, hb2⟩
    have T2 := Lib.hid (bl_seq H1.out.2.2 hb2)
    clear hb2
    go_wp2_with fail
    go_ret
    exact ⟨rfl, T2.out⟩
  have km := kind_mod HO.out.k0 HO.out.k1
  have zf0 := blk_frozen H1.out.1 0
  have z0 : w1.cell? ⟨w.heap.size, 0, none⟩ = some (.int .u8 h.k) := (blk_cell H1.out.1 0).trans rfl
  have z1 : w1.cell? ⟨w.heap.size, 1, none⟩ = some (.int .u32 h.e) := (blk_cell H1.out.1 1).trans rfl
  have z2 : w1.cell? ⟨w.heap.size, 2, none⟩ = some (.int .u32 h.b) := (blk_cell H1.out.1 2).trans rfl
  have z3 : w1.cell? ⟨w.heap.size, 3, none⟩ = some (.int .u16 h.i) := (blk_cell H1.out.1 3).trans rfl
  have z4 : w1.cell? ⟨w.heap.size, 4, none⟩ = some (.int .u16 h.c) := (blk_cell H1.out.1 4).trans rfl
  have z5 : w1.cell? ⟨w.heap.size, 5, none⟩ = some (.int .u32 h.l) := (blk_cell H1.out.1 5).trans rfl
  have z6 : w1.cell? ⟨w.heap.size, 6, none⟩ = some (.int .u32 h.m) := (blk_cell H1.out.1 6).trans rfl
  go_wp2_with fail
  clear z0 z1 z2 z3 z4 z5 z6
  have T2 := Lib.hid (bl_set H1.out.2.2 (p := ⟨w.heap.size, 0, none⟩) (Nat.le_refl _) (.int .u8 (1 + h.k % 6)))
  have C2 := Lib.hid (blk_far H1.out.2.1 (p := ⟨w.heap.size, 0, none⟩) (by show w.heap.size + 1 ≠ w.heap.size; omega) (.int .u8 (1 + h.k % 6)))
  obtain ⟨w2, hw2⟩ : ∃ w2, w1.setCell ⟨w.heap.size, 0, none⟩ (.int .u8 (1 + h.k % 6)) = w2 := ⟨_, rfl⟩
  rw [hw2] at T2 C2 ⊢
  clear hw2 zf0 km H1
  refine (of05 (kindH h) w2 (kindH_ok HO.out)).mono ?_
  rintro e w3 ⟨rfl, hb3⟩
  have T3 := Lib.hid (bl_seq T2.out hb3)
  have C3 := Lib.hid (blk_below C2.out hb3)
  clear hb3 T2 C2
  go_wp2_with fail
  refine (rSeal05 (kindH h) A none c 0 n 0 xs [] w3 (kindH_ok HO.out) (HR.out.below T3.out) hc HB.out (by omega) ⟨rfl, by omega, fun h => absurd h (by omega)⟩ (Nat.le_refl _) (fun x hx => by cases hx)).mono ?_
  rintro e w4 ⟨v4, rfl, hn4⟩
  obtain ⟨A4, c4, rfl, hc4⟩ := hn4.shape 64 (sealL_length _ _ _)
  have S4 := Lib.hid ((show OwnN w4 w3.heap.size A4 64 c4 (sealL (kindH h) xs []) from hn4.own (sealL_length _ _ _)).base (b' := w.heap.size + 2) (by have h_ := blk_lt C3.out; omega))
  have T4 := Lib.hid (bl_seq T3.out hn4.bel)
  have C4 := Lib.hid (blk_below C3.out hn4.bel)
  have SO : Hid (Pg.sealed ⟨⟨A, c, xs⟩, ⟨A4, c4, sealL (kindH h) xs []⟩⟩ (kindH h)) := Lib.hid ⟨rfl, kindH_ok HO.out, kindH_six h, HB.out⟩
  have SB : Hid (Byt (sealL (kindH h) xs [])) := Lib.hid (sealL_byt _ _ (fun x hx => by cases hx))
  have SL : Hid ((sealL (kindH h) xs []).length = 64) := Lib.hid (sealL_length _ _ _)
  obtain ⟨S, hS⟩ : ∃ S, sealL (kindH h) xs [] = S := ⟨_, rfl⟩
  rw [hS] at S4 SO SB SL
  clear hS hn4 T3 C3
  have yf0 : ∀ o, (w4.alloc o).frozen? ⟨w.heap.size + 1, 0, none⟩ = false := fun o => blk_frozen (blk_alloc C4.out o) 0
  have y0 : ∀ o, (w4.alloc o).cell? ⟨w.heap.size + 1, 0, none⟩ = some (.int .u8 x.k) := fun o => (blk_cell (blk_alloc C4.out o) 0).trans rfl
  have y1 : ∀ o, (w4.alloc o).cell? ⟨w.heap.size + 1, 1, none⟩ = some (.int .u32 x.e) := fun o => (blk_cell (blk_alloc C4.out o) 1).trans rfl
  have y2 : ∀ o, (w4.alloc o).cell? ⟨w.heap.size + 1, 2, none⟩ = some (.int .u32 x.b) := fun o => (blk_cell (blk_alloc C4.out o) 2).trans rfl
  have y3 : ∀ o, (w4.alloc o).cell? ⟨w.heap.size + 1, 3, none⟩ = some (.int .u16 x.i) := fun o => (blk_cell (blk_alloc C4.out o) 3).trans rfl
  have y4 : ∀ o, (w4.alloc o).cell? ⟨w.heap.size + 1, 4, none⟩ = some (.int .u16 x.c) := fun o => (blk_cell (blk_alloc C4.out o) 4).trans rfl
  have y5 : ∀ o, (w4.alloc o).cell? ⟨w.heap.size + 1, 5, none⟩ = some (.int .u32 x.l) := fun o => (blk_cell (blk_alloc C4.out o) 5).trans rfl
  have y6 : ∀ o, (w4.alloc o).cell? ⟨w.heap.size + 1, 6, none⟩ = some (.int .u32 x.m) := fun o => (blk_cell (blk_alloc C4.out o) 6).trans rfl
  have PG := Lib.hid (blk_far (heap_alloc_new w4 (.cells #[.slice A n c, .slice A4 64 c4] 43)) (p := ⟨w.heap.size + 1, 0, none⟩) (by show w4.heap.size ≠ w.heap.size + 1; have h_ := blk_lt C4.out; omega) (.int .u8 5))
  have p0 : ((w4.alloc (.cells #[.slice A n c, .slice A4 64 c4] 43)).setCell ⟨w.heap.size + 1, 0, none⟩ (.int .u8 5)).cell? ⟨w4.heap.size, 0, none⟩ = some (.slice A n c) := (blk_cell PG.out 0).trans rfl
  have p1 : ((w4.alloc (.cells #[.slice A n c, .slice A4 64 c4] 43)).setCell ⟨w.heap.size + 1, 0, none⟩ (.int .u8 5)).cell? ⟨w4.heap.size, 1, none⟩ = some (.slice A4 64 c4) := (blk_cell PG.out 1).trans rfl
  go_wp2_with fail
  clear y0 y1 y2 y3 y4 y5 y6
  clear yf0 p0 p1
  have T5 := Lib.hid (bl_set (bl_alloc T4.out (.cells #[.slice A n c, .slice A4 64 c4] 43)) (p := ⟨w.heap.size + 1, 0, none⟩) (by simp) (.int .u8 5))
  have S5 := Lib.hid ((S4.out.below (bl_alloc (Below.refl _ _) (.cells #[.slice A n c, .slice A4 64 c4] 43))).far (w.heap.size + 1) 0 (.int .u8 5) (by omega))
  have hz5 : ((w4.alloc (.cells #[.slice A n c, .slice A4 64 c4] 43)).setCell ⟨w.heap.size + 1, 0, none⟩ (.int .u8 5)).heap.size = w4.heap.size + 1 := by simp
  obtain ⟨w5, hw5⟩ : ∃ w5, (w4.alloc (.cells #[.slice A n c, .slice A4 64 c4] 43)).setCell ⟨w.heap.size + 1, 0, none⟩ (.int .u8 5) = w5 := ⟨_, rfl⟩
  rw [hw5] at PG T5 S5 hz5 ⊢
  rw [← hz5]
  have LG := Lib.hid (heap_alloc_new w5 (.cells #[.slice A n c, .slice A4 64 c4] 43))
  have b56 : Below w5.heap.size w5 (w5.alloc (.cells #[.slice A n c, .slice A4 64 c4] 43)) := bl_alloc (Below.refl _ _) _
  have PG6 := Lib.hid (blk_below PG.out b56)
  have T6 := Lib.hid (bl_seq T5.out b56)
  have S6 := Lib.hid (S5.out.below b56)
  have Z5 := Lib.hid hz5
  clear b56 hw5 PG T5 S5 hz5 S4
  obtain ⟨w6, hw6⟩ : ∃ w6, w5.alloc (.cells #[.slice A n c, .slice A4 64 c4] 43) = w6 := ⟨_, rfl⟩
  rw [hw6] at LG PG6 T6 S6 ⊢
  obtain ⟨gL, hgL⟩ : ∃ gL, w5.heap.size = gL := ⟨_, rfl⟩
  obtain ⟨gP, hgP⟩ : ∃ gP, w4.heap.size = gP := ⟨_, rfl⟩
  rw [hgL] at LG ⊢
  rw [hgP] at PG6 ⊢
  clear hw6 hgL hgP
  have hnx : xs.length = n := HR.out.1
  subst hnx
  obtain ⟨p, hp⟩ : ∃ p : Pg, p = ⟨⟨A, c, xs⟩, ⟨A4, c4, S⟩⟩ := ⟨_, rfl⟩
  have hpd : p.d = ⟨A, c, xs⟩ := by rw [hp]
  have hpo : p.o = ⟨A4, c4, S⟩ := by rw [hp]
  have hrp : RdPages w6 (some ⟨gL, 0, none⟩) [p] := by
    refine ⟨by simp, fun i hi => ?_⟩
    obtain rfl : i = 0 := by simpa using hi
    refine ⟨_, rfl, ?_, ?_, ?_, ?_⟩
    · show w6.cell? ⟨gL, 0, none⟩ = some (encR p.d)
      rw [hpd]; exact (blk_cell LG.out 0).trans rfl
    · show w6.cell? ⟨gL, 1, none⟩ = some (encR p.o)
      rw [hpo, encR]
      show _ = some (Value.slice A4 S.length c4)
      rw [SL.out]; exact (blk_cell LG.out 1).trans rfl
    · show RowOk w6 p.d
      rw [hpd]; exact ⟨hc, HR.out.below T6.out, HB.out⟩
    · show RowOk w6 p.o
      rw [hpo]; exact S6.out.row SB.out
  have hdl : dataL [p] = [xs] := by rw [hp]; rfl
  have hxd : xorL (dataL [p]) = xs := by rw [hdl]; exact xorL_one HB.out
  have hmd : mlen (dataL [p]) = xs.length := by rw [hdl]; simp [mlen]
  rw [← hp] at SO
  have hmb := miss_back (hw := parH x) (h := kindH h) (ps := [p]) (M := []) (A := []) (B := []) rfl rfl (by rw [hmd, hpd]) (parH_ok HX.out) rfl SO.out (fun q hq => by obtain rfl := List.mem_singleton.1 hq; rw [hpo]; exact SL.out)
  rw [hxd, hpd, hpo] at hmb
  have hof := Of_any (parH x) [p] (some ⟨gL, 0, none⟩) 1 w6 (parH_ok HX.out) hrp (by rw [hmd]; omega) (by simp)
  rw [hxd] at hof
  have HMB := Lib.hid hmb
  have HDL := Lib.hid hdl
  clear hpd hpo hrp hdl hxd hmd hmb hp
  refine hof.mono ?_
  rintro e w7 ⟨A1, c1, A2, c2, rfl, hd7, ho7, hb7⟩
  have T7 := Lib.hid (bl_seq T6.out hb7)
  have PG7 := Lib.hid (blk_below PG6.out hb7)
  have S7 := Lib.hid (S6.out.below hb7)
  have D7 := Lib.hid (hd7.base (b' := w.heap.size) (by have h_ := T6.out.size; omega))
  have O7 := Lib.hid (ho7.base (b' := w.heap.size) (by have h_ := T6.out.size; omega))
  have SB7 : Byt (sealL (parH x) xs (xorL (headL [p]))) := sealL_byt _ _ (xorL_byt fun l hl => by
    obtain ⟨q, hq, rfl⟩ := List.mem_map.1 hl
    obtain rfl := List.mem_singleton.1 hq
    exact fun y hy => SO.out.byt y (List.take_subset _ _ hy))
  have SL7 : (sealL (parH x) xs (xorL (headL [p]))).length = 64 := sealL_length _ _ _
  obtain ⟨S2, hS2⟩ : ∃ S2, sealL (parH x) xs (xorL (headL [p])) = S2 := ⟨_, rfl⟩
  rw [hS2] at O7 SB7 SL7 HMB
  have SB2 := Lib.hid (And.intro SB7 SL7)
  clear hof hd7 ho7 hb7 SB7 SL7 hS2 S6 T6 PG6 LG
  go_wp2_with fail
  have bA : Below w7.heap.size w7 (w7.alloc (.cells #[.slice A1 xs.length c1, .slice A2 64 c2] 43)) := bl_alloc (Below.refl _ _) _
  have WG := Lib.hid (heap_alloc_new w7 (.cells #[.slice A1 xs.length c1, .slice A2 64 c2] 43))
  have T8 := Lib.hid (bl_seq T7.out bA)
  have PG8 := Lib.hid (blk_below PG7.out bA)
  have S8 := Lib.hid (S7.out.below bA)
  have D8 := Lib.hid (D7.out.below bA)
  have O8 := Lib.hid (O7.out.below bA)
  obtain ⟨w8, hw8⟩ : ∃ w8, w7.alloc (.cells #[.slice A1 xs.length c1, .slice A2 64 c2] 43) = w8 := ⟨_, rfl⟩
  rw [hw8] at WG T8 PG8 S8 D8 O8 ⊢
  obtain ⟨gW, hgW⟩ : ∃ gW, w7.heap.size = gW := ⟨_, rfl⟩
  rw [hgW] at WG ⊢
  clear bA hw8 hgW T7 PG7 S7 D7 O7
  have hmi := Missing_any xs S2 [] A1 A2 none xs.length c1 64 c2 0 w8 D8.out.reads.1 D8.out.reads.2 HB.out O8.out.reads.1 O8.out.reads.2 SB2.out.1 ⟨by simp, fun i hi => absurd hi (by simp)⟩ (by rw [show mlen (xs :: dataL []) = xs.length by simp [mlen, dataL]]; omega) (by simp)
  obtain ⟨m1, m2, m3⟩ := miss_yes HMB.out.1
  rw [m1, m2, m3, HMB.out.2.1, HMB.out.2.2] at hmi
  refine hmi.mono ?_
  clear hmi m1 m2 m3
  rintro e w9 ⟨A3, c3, A5, c5, rfl, hr3, hr5, hb9⟩
  have T9 := Lib.hid (bl_seq T8.out hb9)
  have PG9 := Lib.hid (blk_below PG8.out hb9)
  have WG9 := Lib.hid (blk_below WG.out hb9)
  have S9 := Lib.hid (S8.out.below hb9)
  have D9 := Lib.hid (D8.out.below hb9)
  rw [SL.out]
  have R3 := Lib.hid hr3
  have R5 := Lib.hid hr5
  clear hb9 T8 PG8 WG S8 D8 O8 hr3 hr5
  have w0_ : ∀ o, (w9.alloc o).cell? ⟨gW, 0, none⟩ = some (.slice A1 xs.length c1) := fun o => (blk_cell (blk_alloc WG9.out o) 0).trans rfl
  go_wp2_with fail
  have bA : Below w9.heap.size w9 (w9.alloc (.cells #[.slice A3 xs.length c3, .slice A5 64 c5] 43)) := bl_alloc (Below.refl _ _) _
  have QG := Lib.hid (heap_alloc_new w9 (.cells #[.slice A3 xs.length c3, .slice A5 64 c5] 43))
  have T10 := Lib.hid (bl_seq T9.out bA)
  have PG10 := Lib.hid (blk_below PG9.out bA)
  have S10 := Lib.hid (S9.out.below bA)
  have D10 := Lib.hid (D9.out.below bA)
  have R13 := Lib.hid (R3.out.below bA)
  have R15 := Lib.hid (R5.out.below bA)
  obtain ⟨w10, hw10⟩ : ∃ w10, w9.alloc (.cells #[.slice A3 xs.length c3, .slice A5 64 c5] 43) = w10 := ⟨_, rfl⟩
  rw [hw10] at QG T10 PG10 S10 D10 R13 R15 ⊢
  obtain ⟨gQ, hgQ⟩ : ∃ gQ, w9.heap.size = gQ := ⟨_, rfl⟩
  rw [hgQ] at QG ⊢
  clear bA hw10 hgQ T9 PG9 WG9 S9 D9 R3 R5 w0_
  refine (rSame_any xs xs A1 A xs.length xs.length c1 c w10 D10.out.reads.1 (HR.out.below T10.out) HB.out HB.out).mono ?_
  rintro e w11 ⟨he, hn11⟩
  rw [decide_eq_true rfl] at he
  subst he
  have bB := hn11.below
  have T11 := Lib.hid (bl_seq T10.out bB)
  have PG11 := Lib.hid (blk_below PG10.out bB)
  have QG11 := Lib.hid (blk_below QG.out bB)
  have S11 := Lib.hid (S10.out.below bB)
  have R23 := Lib.hid (R13.out.below bB)
  have R25 := Lib.hid (R15.out.below bB)
  have q0 : w11.cell? ⟨gQ, 0, none⟩ = some (.slice A3 xs.length c3) := (blk_cell QG11.out 0).trans rfl
  clear bB hn11 T10 PG10 QG S10 D10 R13 R15
  go_wp2_with fail
  refine (rSame_any xs xs A3 A xs.length xs.length c3 c w11 R23.out.2.1 (HR.out.below T11.out) HB.out HB.out).mono ?_
  rintro e w12 ⟨he, hn12⟩
  rw [decide_eq_true rfl] at he
  subst he
  have bB := hn12.below
  have T12 := Lib.hid (bl_seq T11.out bB)
  have PG12 := Lib.hid (blk_below PG11.out bB)
  have QG12 := Lib.hid (blk_below QG11.out bB)
  have S12 := Lib.hid (S11.out.below bB)
  have R35 := Lib.hid (R25.out.below bB)
  have q1 : w12.cell? ⟨gQ, 1, none⟩ = some (.slice A5 64 c5) := (blk_cell QG12.out 1).trans rfl
  have p1 : w12.cell? ⟨gP, 1, none⟩ = some (.slice A4 64 c4) := (blk_cell PG12.out 1).trans rfl
  have r35 : ReadsInt w12 .u8 A5 64 S := by have h_ := R35.out.2.1; rw [show (Row.l ⟨A5, c5, S⟩) = S from rfl, SL.out] at h_; exact h_
  clear bB hn12 T11 PG11 QG11 S11 R23 R25 q0
  go_wp2_with fail
  refine (rSame_any S S A5 A4 64 64 c5 c4 w12 r35 S12.out.reads.1 SB.out SB.out).mono ?_
  rintro e w13 ⟨he, hn13⟩
  rw [decide_eq_true rfl] at he
  subst he
  have T13 := Lib.hid (bl_seq T12.out hn13.below)
  clear hn13 q1 p1 r35
  go_wp2_with fail
  go_ret
  exact ⟨rfl, T13.out⟩
end Go.Proofs.Ytkbjndfmbimjiaa
