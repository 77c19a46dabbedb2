import Derived.Test.YtkbjndfmbimjiaaMis9
/-! The law ParityPages: its walk. -/
set_option linter.unusedVariables false
set_option linter.unusedSimpArgs false
namespace Go.Proofs.Ytkbjndfmbimjiaa
open Go.RowKit Go.Proofs.YtkbjndfmbimjiaaW.PrintWords Go.Proofs.YtkbjndfmbimjiaaW.PrintLast
theorem rdpages_of {w : World} {base base2 n m c : Nat} {A : Option Addr} {E : TypeId} {ps : List Pg} (h : OwnRow Rpg E 2 w base (.slice A m c) ps) (hp : ∀ p ∈ ps, PgOk w base2 n p) : RdPages w A ps := by
  obtain ⟨A', c', he, _, hr⟩ := h.reads
  injection he with e1 e2 e3
  subst e1
  refine ⟨hr.2.1, fun i hi => ?_⟩
  obtain ⟨ad, hA, hc⟩ := hr.2.2 (by omega)
  obtain ⟨cs, hcl, hR, hcell⟩ := hc i _ (List.getElem?_eq_getElem hi)
  have hg : ps.getD i default = ps[i] := by rw [List.getD_eq_getElem?_getD, List.getElem?_eq_getElem hi]; rfl
  rw [hg]
  rw [Rpg] at hR
  subst hR
  have h0 := hcell 0 _ rfl
  have h1 := hcell 1 _ rfl
  rw [Nat.add_zero] at h0
  rw [add_field ad (i * 2) 1 (by omega)] at h1
  have hk := hp ps[i] (List.getElem_mem hi)
  obtain ⟨hh, hs⟩ := hk.2.2
  exact ⟨ad, hA, h0, h1, hk.1.1.row hs.2.2.2, hk.1.2.row hs.byt⟩
set_option maxHeartbeats 4000000 in
set_option maxRecDepth 100000 in
theorem ppages_walk (hs : List Hd) (rs : List Row) (x : Hd) (AH AD : Option Addr) (cH cD : Nat) (q q2 : Int) (w : World) (hh : RdHeads w AH hs) (hr : RdRows w AD rs) (hx : x.ok) :
    Calls Try.prog 5 #[.agg #[.slice AH hs.length cH, .slice AD rs.length cD, .int .i64 q, .int .i64 q2, .int .u8 x.k, .int .u32 x.e, .int .u32 x.b, .int .u16 x.i, .int .u16 x.c, .int .u32 x.l, .int .u32 x.m]] w fun e w' => e = .returned (.bool true) ∧ Below w.heap.size w w' := by
  have HH := Lib.hid hh
  have HR := Lib.hid hr
  have HX := Lib.hid hx
  clear hh hr hx
  have H0 : Hid ((w.alloc (.cells #[.slice AH hs.length cH, .slice AD rs.length cD, .int .i64 q, .int .i64 q2, .int .u8 x.k, .int .u32 x.e, .int .u32 x.b, .int .u16 x.i, .int .u16 x.c, .int .u32 x.l, .int .u32 x.m] 37)).heap[w.heap.size]? = some (.cells #[.slice AH hs.length cH, .slice AD rs.length cD, .int .i64 q, .int .i64 q2, .int .u8 x.k, .int .u32 x.e, .int .u32 x.b, .int .u16 x.i, .int .u16 x.c, .int .u32 x.l, .int .u32 x.m] 37 (0, 0)) ∧ Below w.heap.size w (w.alloc (.cells #[.slice AH hs.length cH, .slice AD rs.length cD, .int .i64 q, .int .i64 q2, .int .u8 x.k, .int .u32 x.e, .int .u32 x.b, .int .u16 x.i, .int .u16 x.c, .int .u32 x.l, .int .u32 x.m] 37))) := Lib.hid ⟨heap_alloc_new _ _, bl_alloc (Below.refl _ _) _⟩
  go_enter Try.func5, Try.ntmps5
  obtain ⟨wE, hwE⟩ : ∃ wE, (w.alloc (.cells #[.slice AH hs.length cH, .slice AD rs.length cD, .int .i64 q, .int .i64 q2, .int .u8 x.k, .int .u32 x.e, .int .u32 x.b, .int .u16 x.i, .int .u16 x.c, .int .u32 x.l, .int .u32 x.m] 37)) = wE := ⟨_, rfl⟩
  rw [hwE] at H0
  have z0 : wE.cell? ⟨w.heap.size, 0, none⟩ = some (.slice AH hs.length cH) := (blk_cell H0.out.1 0).trans rfl
  have z1 : wE.cell? ⟨w.heap.size, 1, none⟩ = some (.slice AD rs.length cD) := (blk_cell H0.out.1 1).trans rfl
  have z2 : wE.cell? ⟨w.heap.size, 2, none⟩ = some (.int .i64 q) := (blk_cell H0.out.1 2).trans rfl
  have z3 : wE.cell? ⟨w.heap.size, 3, none⟩ = some (.int .i64 q2) := (blk_cell H0.out.1 3).trans rfl
  have z4 : wE.cell? ⟨w.heap.size, 4, none⟩ = some (.int .u8 x.k) := (blk_cell H0.out.1 4).trans rfl
  have z5 : wE.cell? ⟨w.heap.size, 5, none⟩ = some (.int .u32 x.e) := (blk_cell H0.out.1 5).trans rfl
  have z6 : wE.cell? ⟨w.heap.size, 6, none⟩ = some (.int .u32 x.b) := (blk_cell H0.out.1 6).trans rfl
  have z7 : wE.cell? ⟨w.heap.size, 7, none⟩ = some (.int .u16 x.i) := (blk_cell H0.out.1 7).trans rfl
  have z8 : wE.cell? ⟨w.heap.size, 8, none⟩ = some (.int .u16 x.c) := (blk_cell H0.out.1 8).trans rfl
  have z9 : wE.cell? ⟨w.heap.size, 9, none⟩ = some (.int .u32 x.l) := (blk_cell H0.out.1 9).trans rfl
  have z10 : wE.cell? ⟨w.heap.size, 10, none⟩ = some (.int .u32 x.m) := (blk_cell H0.out.1 10).trans rfl
  go_wp2_with fail
  try rw [hwE]
  clear z0 z1 z2 z3 z4 z5 z6 z7 z8 z9 z10
  clear hwE
  refine (pages_any hs rs x AH AD cH cD q q2 wE (HH.out.below H0.out.2) (HR.out.below H0.out.2)).mono ?_
  rintro e w1 ⟨hb1, hcase⟩
  have G1 := Lib.hid (blk_below H0.out.1 hb1)
  have T1 := Lib.hid (bl_seq H0.out.2 hb1)
  have ZE := Lib.hid (show w.heap.size < wE.heap.size from blk_lt H0.out.1)
  clear hb1 H0
  rcases hcase with rfl | ⟨ps, va, vb, n, rfl, hp1, hp12, hn300, hoa, hob, hsep, hpk⟩
  · go_wp2_with fail
    refine (summed_any _).mono ?_
    rintro e w2 ⟨rfl, hb2⟩
    have T2 := Lib.hid (bl_seq T1.out hb2)
    clear hb2
    go_wp2_with fail
    refine (summed_any _).mono ?_
    rintro e w3 ⟨rfl, hb3⟩
    have T3 := Lib.hid (bl_seq T2.out hb3)
    clear hb3
    go_wp2_with fail
    go_ret
    exact ⟨rfl, T3.out⟩
  obtain ⟨Aa, ca, rfl, hca⟩ := hoa.slice_
  obtain ⟨Ab, cb, rfl, hcb⟩ := hob.slice_
  go_wp2_with fail
  refine (summed_any _).mono ?_
  rintro e w2 ⟨rfl, hb2⟩
  have HA := Lib.hid (hoa.below hb2)
  have HB := Lib.hid (hob.below hb2)
  have HS := Lib.hid hsep
  have HP := Lib.hid (fun p hp => (hpk p hp).below hb2)
  have G2 := Lib.hid (blk_below G1.out hb2)
  have T2 := Lib.hid (bl_seq T1.out hb2)
  have hmd : mlen (dataL ps) ≤ 900000 := Nat.le_trans (mlen_bound (b := 300) fun l hl => by
    obtain ⟨p, hp, rfl⟩ := List.mem_map.1 hl
    have h_ := (hpk p hp).2.1; omega) (by omega)
  have HM := Lib.hid hmd
  clear hoa hob hsep hpk hb2 hmd G1 T1
  have z4 : w2.cell? ⟨w.heap.size, 4, none⟩ = some (.int .u8 x.k) := (blk_cell G2.out 4).trans rfl
  have z5 : w2.cell? ⟨w.heap.size, 5, none⟩ = some (.int .u32 x.e) := (blk_cell G2.out 5).trans rfl
  have z6 : w2.cell? ⟨w.heap.size, 6, none⟩ = some (.int .u32 x.b) := (blk_cell G2.out 6).trans rfl
  have z7 : w2.cell? ⟨w.heap.size, 7, none⟩ = some (.int .u16 x.i) := (blk_cell G2.out 7).trans rfl
  have z8 : w2.cell? ⟨w.heap.size, 8, none⟩ = some (.int .u16 x.c) := (blk_cell G2.out 8).trans rfl
  have z9 : w2.cell? ⟨w.heap.size, 9, none⟩ = some (.int .u32 x.l) := (blk_cell G2.out 9).trans rfl
  have z10 : w2.cell? ⟨w.heap.size, 10, none⟩ = some (.int .u32 x.m) := (blk_cell G2.out 10).trans rfl
  go_wp2_with fail
  clear z4 z5 z6 z7 z8 z9 z10
  refine (Of_any x ps Aa ca w2 HX.out (rdpages_of HA.out HP.out) HM.out (by omega)).mono ?_
  rintro e w3 ⟨A1, c1, A2, c2, rfl, hd3, ho3, hb3⟩
  have T3 := Lib.hid (bl_seq T2.out hb3)
  have G3 := Lib.hid (blk_below G2.out hb3)
  have HB3 := Lib.hid (HB.out.below hb3)
  have HP3 := Lib.hid (fun p hp => (HP.out p hp).below hb3)
  have D3 := Lib.hid hd3
  have O3 := Lib.hid ho3
  have bD : Byt (xorL (dataL ps)) := xorL_byt fun l hl => by
    obtain ⟨p, hp, rfl⟩ := List.mem_map.1 hl
    obtain ⟨_, hs⟩ := (HP.out p hp).2.2
    exact hs.2.2.2
  have bO : Byt (sealL x (xorL (dataL ps)) (xorL (headL ps))) := sealL_byt _ _ (xorL_byt fun l hl => by
    obtain ⟨p, hp, rfl⟩ := List.mem_map.1 hl
    obtain ⟨_, hs⟩ := (HP.out p hp).2.2
    exact fun y hy => hs.byt y (List.take_subset _ _ hy))
  have BY := Lib.hid (And.intro bD bO)
  have hlO : (sealL x (xorL (dataL ps)) (xorL (headL ps))).length = 64 := sealL_length _ _ _
  clear hd3 ho3 hb3 HA HB HP G2 T2 bD bO
  have hor : ∀ W, RdPages W Ab ps → _ := fun W hW => rOf_any x ps Ab cb W HX.out hW HM.out (by omega)
  have HOR := Lib.hid hor
  clear hor
  obtain ⟨DL, hDL⟩ : ∃ DL, xorL (dataL ps) = DL := ⟨_, rfl⟩
  rw [hDL] at D3 O3 BY HOR ⊢
  obtain ⟨OL, hOL⟩ : ∃ OL, sealL x DL (xorL (headL ps)) = OL := ⟨_, rfl⟩
  rw [hDL, hOL] at hlO
  rw [hOL] at O3 BY HOR
  have HLO := Lib.hid hlO
  clear hDL hOL hlO
  have z4 : ∀ o, (w3.alloc o).cell? ⟨w.heap.size, 4, none⟩ = some (.int .u8 x.k) := fun o => (blk_cell (blk_alloc G3.out o) 4).trans rfl
  have z5 : ∀ o, (w3.alloc o).cell? ⟨w.heap.size, 5, none⟩ = some (.int .u32 x.e) := fun o => (blk_cell (blk_alloc G3.out o) 5).trans rfl
  have z6 : ∀ o, (w3.alloc o).cell? ⟨w.heap.size, 6, none⟩ = some (.int .u32 x.b) := fun o => (blk_cell (blk_alloc G3.out o) 6).trans rfl
  have z7 : ∀ o, (w3.alloc o).cell? ⟨w.heap.size, 7, none⟩ = some (.int .u16 x.i) := fun o => (blk_cell (blk_alloc G3.out o) 7).trans rfl
  have z8 : ∀ o, (w3.alloc o).cell? ⟨w.heap.size, 8, none⟩ = some (.int .u16 x.c) := fun o => (blk_cell (blk_alloc G3.out o) 8).trans rfl
  have z9 : ∀ o, (w3.alloc o).cell? ⟨w.heap.size, 9, none⟩ = some (.int .u32 x.l) := fun o => (blk_cell (blk_alloc G3.out o) 9).trans rfl
  have z10 : ∀ o, (w3.alloc o).cell? ⟨w.heap.size, 10, none⟩ = some (.int .u32 x.m) := fun o => (blk_cell (blk_alloc G3.out o) 10).trans rfl
  go_wp2_with fail
  clear z4 z5 z6 z7 z8 z9 z10
  have bA : Below w3.heap.size w3 (w3.alloc (.cells #[.slice A1 DL.length c1, .slice A2 64 c2] 43)) := bl_alloc (Below.refl _ _) _
  have PG4 := Lib.hid (heap_alloc_new w3 (.cells #[.slice A1 DL.length c1, .slice A2 64 c2] 43))
  have T4 := Lib.hid (bl_seq T3.out bA)
  have HB4 := Lib.hid (HB3.out.below bA)
  have HP4 := Lib.hid (fun p hp => (HP3.out p hp).below bA)
  have D4 := Lib.hid (D3.out.below bA)
  have O4 := Lib.hid (O3.out.below bA)
  obtain ⟨w4, hw4⟩ : ∃ w4, w3.alloc (.cells #[.slice A1 DL.length c1, .slice A2 64 c2] 43) = w4 := ⟨_, rfl⟩
  rw [hw4] at PG4 T4 HB4 HP4 D4 O4 ⊢
  obtain ⟨g3, hg3⟩ : ∃ g3, w3.heap.size = g3 := ⟨_, rfl⟩
  rw [hg3] at PG4 ⊢
  clear bA hw4 hg3 T3 HB3 HP3 D3 O3 G3
  refine (of05 x w4 HX.out).mono ?_
  rintro e w5 ⟨rfl, hb5⟩
  have T5 := Lib.hid (bl_seq T4.out hb5)
  have PG5 := Lib.hid (blk_below PG4.out hb5)
  have HB5 := Lib.hid (HB4.out.below hb5)
  have HP5 := Lib.hid (fun p hp => (HP4.out p hp).below hb5)
  have D5 := Lib.hid (D4.out.below hb5)
  have O5 := Lib.hid (O4.out.below hb5)
  clear hb5 T4 PG4 HB4 HP4 D4 O4
  go_wp2_with fail
  refine (HOR.out w5 (rdpages_of HB5.out HP5.out)).mono ?_
  rintro e w6 ⟨A3, c3, A4, c4, rfl, hd6, ho6, hb6⟩
  have T6 := Lib.hid (bl_seq T5.out hb6)
  have PG6 := Lib.hid (blk_below PG5.out hb6)
  have D6 := Lib.hid (D5.out.below hb6)
  have O6 := Lib.hid (O5.out.below hb6)
  have E6 := Lib.hid hd6
  have F6 := Lib.hid ho6
  clear hd6 ho6 hb6 T5 PG5 D5 O5 HB5 HP5
  have p0 : ∀ o, (w6.alloc o).cell? ⟨g3, 0, none⟩ = some (.slice A1 DL.length c1) := fun o => (blk_cell (blk_alloc PG6.out o) 0).trans rfl
  go_wp2_with fail
  clear p0
  have bA : Below w6.heap.size w6 (w6.alloc (.cells #[.slice A3 DL.length c3, .slice A4 64 c4] 45)) := bl_alloc (Below.refl _ _) _
  refine (rSame_any DL DL A1 A3 DL.length DL.length c1 c3 _ (D6.out.below bA).reads.1 (E6.out.below bA).reads.1 BY.out.1 BY.out.1).mono ?_
  rintro e w7 ⟨he, hn7⟩
  rw [decide_eq_true rfl] at he
  subst he
  have T7 := Lib.hid (bl_seq (bl_seq T6.out bA) hn7.below)
  have p1 : w7.cell? ⟨g3, 1, none⟩ = some (.slice A2 64 c2) := (blk_cell (blk_below (blk_below PG6.out bA) hn7.below) 1).trans rfl
  have q1 : w7.cell? ⟨w6.heap.size, 1, none⟩ = some (.slice A4 64 c4) := (blk_cell (blk_below (heap_alloc_new w6 (.cells #[.slice A3 DL.length c3, .slice A4 64 c4] 45)) hn7.below) 1).trans rfl
  have O7 := Lib.hid ((O6.out.below bA).below hn7.below)
  have F7 := Lib.hid ((F6.out.below bA).below hn7.below)
  clear hn7 bA T6 PG6 D6 O6 E6 F6
  go_wp2_with fail
  refine (rSame_any OL OL A2 A4 64 64 c2 c4 w7 O7.out.reads.1 F7.out.reads.1 BY.out.2 BY.out.2).mono ?_
  rintro e w8 ⟨he, hn8⟩
  rw [decide_eq_true rfl] at he
  subst he
  have T8 := Lib.hid (bl_seq T7.out hn8.below)
  clear hn8 p1 q1
  go_wp2_with fail
  go_ret
  exact ⟨rfl, T8.out⟩
end Go.Proofs.Ytkbjndfmbimjiaa
