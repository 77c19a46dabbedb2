import Derived.Test.YtkbjndfmbimjiaaMis9
import Derived.Test.YtkbjndfmbimjiaaPpg
/-! The law ParityBack: its walk. -/
set_option linter.unusedVariables false
set_option linter.unusedSimpArgs false
namespace Go.Proofs.Ytkbjndfmbimjiaa
open Go.RowKit Go.Proofs.YtkbjndfmbimjiaaW.PrintWords Go.Proofs.YtkbjndfmbimjiaaW.PrintLast
def PbkR.T14 : Bool × List (List Nat × List Nat) := (true, [([], []), ([0], [0]), ([1], [1]), ([2], [2]), ([3, 2], [2, 3]), ([2], [2]), ([2], [2]), ([5, 6, 2], [2, 5, 6]), ([7, 2], [2, 7]), ([8, 2], [2, 8]), ([4, 9, 2, 2], [2, 4, 9]), ([2, 10], [2, 10]), ([11, 10], [11]), ([12], [12]), ([13, 12], [12, 13]), ([12], [12]), ([12], [12]), ([15, 16, 12], [12, 15, 16]), ([17, 12], [12, 17]), ([18, 12], [12, 18]), ([14, 19, 12, 12], [12, 14, 19]), ([12, 20], [12, 20]), ([21, 20, 0, 1, 2, 3, 4, 5, 6, 7, 8, 9, 10, 11, 12, 13, 14, 15, 16, 17, 18, 19, 20, 21], [21])])
def PbkR.B14 : List Nat := [0, 1, 3, 7, 15, 7, 7, 103, 231, 487, 1023, 2047, 4095, 8191, 16383, 8191, 8191, 106495, 237567, 499711, 1048575, 2097151, 4194303]
theorem PbkR.tab14 : rtab .any (opsOf Try.f6 14) = PbkR.T14 := by kernel_rfl
theorem PbkR.bits14 : waitsOk PbkR.T14.2 PbkR.B14 = true := by kernel_rfl
/-- The pages at number k. -/
def PgAt (w : World) (ad : Addr) (k : Nat) (pk : Pg) : Prop := w.cell? (ad.add (k * 2)) = some (.slice pk.d.A pk.d.l.length pk.d.c) ∧ w.cell? ⟨(ad.add (k * 2)).block, (ad.add (k * 2)).off + 1, none⟩ = some (.slice pk.o.A pk.o.l.length pk.o.c) ∧ RowOk w pk.d ∧ RowOk w pk.o
theorem PgAt.below {w w1 : World} {ad : Addr} {k : Nat} {pk : Pg} (h : PgAt w ad k pk) (hb : Below w.heap.size w w1) : PgAt w1 ad k pk := ⟨pw_cell_below hb h.1, pw_cell_below hb h.2.1, h.2.2.1.below hb, h.2.2.2.below hb⟩
/-- The pages from number j on, but number k. -/
def skipL (ps : List Pg) (k j : Nat) : List Pg := if j ≤ k then (ps.drop j).eraseIdx (k - j) else ps.drop j
theorem skipL_end (ps : List Pg) (k : Nat) : skipL ps k ps.length = [] := by
  rw [skipL]
  split <;> simp
theorem skipL_in {ps : List Pg} {k j : Nat} (hj : j < ps.length) (h : j ≠ k) : skipL ps k j = ps.getD j default :: skipL ps k (j + 1) := by
  have hd : ps.drop j = ps.getD j default :: ps.drop (j + 1) := by rw [List.drop_eq_getElem_cons hj, List.getD_eq_getElem?_getD, List.getElem?_eq_getElem hj]; rfl
  rw [skipL, skipL]
  by_cases hjk : j ≤ k
  · rw [if_pos hjk, if_pos (by omega), hd, show k - j = (k - (j + 1)) + 1 by omega, List.eraseIdx_cons_succ]
  · rw [if_neg hjk, if_neg (by omega), hd]
theorem skipL_at {ps : List Pg} {k : Nat} (hk : k < ps.length) : skipL ps k k = skipL ps k (k + 1) := by
  rw [skipL, skipL, if_pos (Nat.le_refl _), if_neg (by omega), Nat.sub_self, List.drop_eq_getElem_cons hk, List.eraseIdx_cons_zero]
theorem skipL_zero {ps : List Pg} {k : Nat} : skipL ps k 0 = ps.take k ++ ps.drop (k + 1) := by
  rw [skipL, if_pos (Nat.zero_le _), Nat.sub_zero, List.drop_zero, List.eraseIdx_eq_take_drop_succ]
theorem skipL_len (ps : List Pg) (k j : Nat) : (skipL ps k j).length ≤ ps.length := by
  rw [skipL]
  split
  · exact Nat.le_trans (List.length_eraseIdx_le _ _) (by simp)
  · simp
theorem skipL_mem {ps : List Pg} {k j : Nat} {p : Pg} (h : p ∈ skipL ps k j) : p ∈ ps := by
  rw [skipL] at h
  split at h
  · exact List.mem_of_mem_drop (List.mem_of_mem_eraseIdx h)
  · exact List.mem_of_mem_drop h
theorem PgOk.far {w : World} {base n : Nat} {p : Pg} (h : PgOk w base n p) (g j : Nat) (v : Value) (hg : g < base) : PgOk (w.setCell ⟨g, j, none⟩ v) base n p := ⟨⟨h.1.1.far g j v hg, h.1.2.far g j v hg⟩, h.2⟩
theorem ownrow_far {α : Type} {R : α → List Value → Prop} {e : TypeId} {size : Nat} {w : World} {base : Nat} {v : Value} {ps : List α} (h : OwnRow R e size w base v ps) (g j : Nat) (u : Value) (hg : g < base) : OwnRow R e size (w.setCell ⟨g, j, none⟩ u) base v ps := by
  obtain ⟨inner, ho, hr⟩ := h
  exact ⟨inner, own_setCell ho (fun e => by have h_ : base ≤ g := (ho.lt _ e.symm).1; omega) u, hr⟩
theorem skip_step {ps : List Pg} {k j : Nat} (hj : j < ps.length) (h : j ≠ k) : (skipL ps k j).reverse = (skipL ps k (j + 1)).reverse ++ [ps.getD j default] := by
  rw [skipL_in hj h, List.reverse_cons]
theorem u64_nat {n : Nat} (h : n ≤ 9223372036854775807) : IntKind.u64.wrap (n : Int) = (n : Int) := by rw [IntKind.wrap_u64]; omega
theorem page_split {ps : List Pg} {k : Nat} (hk : k < ps.length) : ps = ps.take k ++ ps.getD k default :: ps.drop (k + 1) := by
  conv => lhs; rw [← List.take_append_drop k ps]
  rw [List.drop_eq_getElem_cons hk, List.getD_eq_getElem?_getD, List.getElem?_eq_getElem hk]; rfl
set_option maxHeartbeats 4000000 in
set_option maxRecDepth 100000 in
theorem pback_walk (hs : List Hd) (rs : List Row) (x : Hd) (AH AD : Option Addr) (cH cD : Nat) (q q2 : Int) (w : World) (hh : RdHeads w AH hs) (hr : RdRows w AD rs) (hx : x.ok) :
    Calls Try.prog 6 #[.agg #[.slice AH hs.length cH, .slice AD rs.length cD, .int .i64 q, .int .i64 q2, .int .u8 x.k, .int .u32 x.e, .int .u32 x.b, .int .u16 x.i, .int .u16 x.c, .int .u32 x.l, .int .u32 x.m]] w fun e w' => e = .returned (.bool true) ∧ Below w.heap.size w w' := by
  have HH := Lib.hid hh
  have HR := Lib.hid hr
  have HX := Lib.hid hx
  clear hh hr hx
  have H0 : Hid ((w.alloc (.cells #[.slice AH hs.length cH, .slice AD rs.length cD, .int .i64 q, .int .i64 q2, .int .u8 x.k, .int .u32 x.e, .int .u32 x.b, .int .u16 x.i, .int .u16 x.c, .int .u32 x.l, .int .u32 x.m] 37)).heap[w.heap.size]? = some (.cells #[.slice AH hs.length cH, .slice AD rs.length cD, .int .i64 q, .int .i64 q2, .int .u8 x.k, .int .u32 x.e, .int .u32 x.b, .int .u16 x.i, .int .u16 x.c, .int .u32 x.l, .int .u32 x.m] 37 (0, 0)) ∧ Below w.heap.size w (w.alloc (.cells #[.slice AH hs.length cH, .slice AD rs.length cD, .int .i64 q, .int .i64 q2, .int .u8 x.k, .int .u32 x.e, .int .u32 x.b, .int .u16 x.i, .int .u16 x.c, .int .u32 x.l, .int .u32 x.m] 37))) := Lib.hid ⟨heap_alloc_new _ _, bl_alloc (Below.refl _ _) _⟩
  go_enter Try.func6, Try.ntmps6
  obtain ⟨wE, hwE⟩ : ∃ wE, (w.alloc (.cells #[.slice AH hs.length cH, .slice AD rs.length cD, .int .i64 q, .int .i64 q2, .int .u8 x.k, .int .u32 x.e, .int .u32 x.b, .int .u16 x.i, .int .u16 x.c, .int .u32 x.l, .int .u32 x.m] 37)) = wE := ⟨_, rfl⟩
  rw [hwE] at H0
  have z0 : wE.cell? ⟨w.heap.size, 0, none⟩ = some (.slice AH hs.length cH) := (blk_cell H0.out.1 0).trans rfl
  have z1 : wE.cell? ⟨w.heap.size, 1, none⟩ = some (.slice AD rs.length cD) := (blk_cell H0.out.1 1).trans rfl
  have z2 : wE.cell? ⟨w.heap.size, 2, none⟩ = some (.int .i64 q) := (blk_cell H0.out.1 2).trans rfl
  have z3 : wE.cell? ⟨w.heap.size, 3, none⟩ = some (.int .i64 q2) := (blk_cell H0.out.1 3).trans rfl
  have z4 : wE.cell? ⟨w.heap.size, 4, none⟩ = some (.int .u8 x.k) := (blk_cell H0.out.1 4).trans rfl
  have z5 : wE.cell? ⟨w.heap.size, 5, none⟩ = some (.int .u32 x.e) := (blk_cell H0.out.1 5).trans rfl
  have z6 : wE.cell? ⟨w.heap.size, 6, none⟩ = some (.int .u32 x.b) := (blk_cell H0.out.1 6).trans rfl
  have z7 : wE.cell? ⟨w.heap.size, 7, none⟩ = some (.int .u16 x.i) := (blk_cell H0.out.1 7).trans rfl
  have z8 : wE.cell? ⟨w.heap.size, 8, none⟩ = some (.int .u16 x.c) := (blk_cell H0.out.1 8).trans rfl
  have z9 : wE.cell? ⟨w.heap.size, 9, none⟩ = some (.int .u32 x.l) := (blk_cell H0.out.1 9).trans rfl
  have z10 : wE.cell? ⟨w.heap.size, 10, none⟩ = some (.int .u32 x.m) := (blk_cell H0.out.1 10).trans rfl
  go_wp2_with fail
  try rw [hwE]
  clear z0 z1 z2 z3 z4 z5 z6 z7 z8 z9 z10
  clear hwE
  refine (pages_any hs rs x AH AD cH cD q q2 wE (HH.out.below H0.out.2) (HR.out.below H0.out.2)).mono ?_
  rintro e w1 ⟨hb1, hcase⟩
  have G1 := Lib.hid (blk_below H0.out.1 hb1)
  have T1 := Lib.hid (bl_seq H0.out.2 hb1)
  have ZE := Lib.hid (show w.heap.size < wE.heap.size from blk_lt H0.out.1)
  clear hb1 H0
  rcases hcase with rfl | ⟨ps, va, vb, n, rfl, hp1, hp12, hn300, hoa, hob, hsep, hpk⟩
  · go_wp2_with fail
    refine (summed_any _).mono ?_
    rintro e w2 ⟨rfl, hb2⟩
    have T2 := Lib.hid (bl_seq T1.out hb2)
    clear hb2
    go_wp2_with fail
    refine (summed_any _).mono ?_
    rintro e w3 ⟨rfl, hb3⟩
    have T3 := Lib.hid (bl_seq T2.out hb3)
    clear hb3
    go_wp2_with fail
    go_ret
    exact ⟨rfl, T3.out⟩
  obtain ⟨Aa, ca, rfl, hca⟩ := hoa.slice_
  obtain ⟨Ab, cb, rfl, hcb⟩ := hob.slice_
  go_wp2_with fail
  refine (summed_any _).mono ?_
  rintro e w2 ⟨rfl, hb2⟩
  have HA := Lib.hid (hoa.below hb2)
  have HB := Lib.hid (hob.below hb2)
  have HS := Lib.hid hsep
  have HP := Lib.hid (fun p hp => (hpk p hp).below hb2)
  have G2 := Lib.hid (blk_below G1.out hb2)
  have T2 := Lib.hid (bl_seq T1.out hb2)
  have hmd : mlen (dataL ps) ≤ 900000 := Nat.le_trans (mlen_bound (b := 300) fun l hl => by
    obtain ⟨p, hp, rfl⟩ := List.mem_map.1 hl
    have h_ := (hpk p hp).2.1; omega) (by omega)
  have HM := Lib.hid hmd
  clear hoa hob hsep hpk hb2 hmd G1 T1
  have zf4 := blk_frozen G2.out 4
  have z4 : w2.cell? ⟨w.heap.size, 4, none⟩ = some (.int .u8 x.k) := (blk_cell G2.out 4).trans rfl
  have z5 : w2.cell? ⟨w.heap.size, 5, none⟩ = some (.int .u32 x.e) := (blk_cell G2.out 5).trans rfl
  have z6 : w2.cell? ⟨w.heap.size, 6, none⟩ = some (.int .u32 x.b) := (blk_cell G2.out 6).trans rfl
  have z7 : w2.cell? ⟨w.heap.size, 7, none⟩ = some (.int .u16 x.i) := (blk_cell G2.out 7).trans rfl
  have z8 : w2.cell? ⟨w.heap.size, 8, none⟩ = some (.int .u16 x.c) := (blk_cell G2.out 8).trans rfl
  have z9 : w2.cell? ⟨w.heap.size, 9, none⟩ = some (.int .u32 x.l) := (blk_cell G2.out 9).trans rfl
  have z10 : w2.cell? ⟨w.heap.size, 10, none⟩ = some (.int .u32 x.m) := (blk_cell G2.out 10).trans rfl
  go_wp2_with fail
  clear z4 z5 z6 z7 z8 z9 z10
  clear zf4
  have bs : Below w.heap.size w (w2.setCell ⟨w.heap.size, 4, none⟩ (.int .u8 5)) := bl_set T2.out (p := ⟨w.heap.size, 4, none⟩) (Nat.le_refl _) _
  have T3 := Lib.hid bs
  have G3 := Lib.hid (blk_put G2.out 4 (.int .u8 5) (cs' := #[.slice AH hs.length cH, .slice AD rs.length cD, .int .i64 q, .int .i64 q2, .int .u8 5, .int .u32 x.e, .int .u32 x.b, .int .u16 x.i, .int .u16 x.c, .int .u32 x.l, .int .u32 x.m]) (by simp))
  have HA3 := Lib.hid (ownrow_far HA.out w.heap.size 4 (.int .u8 5) ZE.out)
  have HP3 := Lib.hid (fun p hp => (HP.out p hp).far w.heap.size 4 (.int .u8 5) ZE.out)
  obtain ⟨w3, hw3⟩ : ∃ w3, w2.setCell ⟨w.heap.size, 4, none⟩ (.int .u8 5) = w3 := ⟨_, rfl⟩
  rw [hw3] at T3 G3 HA3 HP3 ⊢
  clear bs hw3 HA HB HP HS G2 T2
  have bD : Byt (xorL (dataL ps)) := xorL_byt fun l hl => by
    obtain ⟨p, hp, rfl⟩ := List.mem_map.1 hl
    obtain ⟨_, hs⟩ := (HP3.out p hp).2.2
    exact hs.2.2.2
  have bO : Byt (sealL (parH x) (xorL (dataL ps)) (xorL (headL ps))) := sealL_byt _ _ (xorL_byt fun l hl => by
    obtain ⟨p, hp, rfl⟩ := List.mem_map.1 hl
    obtain ⟨_, hs⟩ := (HP3.out p hp).2.2
    exact fun y hy => hs.byt y (List.take_subset _ _ hy))
  have hlO : (sealL (parH x) (xorL (dataL ps)) (xorL (headL ps))).length = 64 := sealL_length _ _ _
  have BY := Lib.hid (And.intro bD (And.intro bO hlO))
  clear bD bO hlO
  refine (Of_any (parH x) ps Aa ca w3 (parH_ok HX.out) (rdpages_of HA3.out HP3.out) HM.out (by omega)).mono ?_
  rintro e w4 ⟨A1, c1, A2, c2, rfl, hd4, ho4, hb4⟩
  have T4 := Lib.hid (bl_seq T3.out hb4)
  have G4 := Lib.hid (blk_below G3.out hb4)
  have HA4 := Lib.hid (HA3.out.below hb4)
  have HP4 := Lib.hid (fun p hp => (HP3.out p hp).below hb4)
  have D4 := Lib.hid hd4
  have O4 := Lib.hid ho4
  clear hd4 ho4 hb4 T3 G3 HA3 HP3
  obtain ⟨k, hk, hkl⟩ := modU q2 (ps.length : Int) (by omega) (by omega)
  have hkp : k < ps.length := by omega
  -- the missing page
  obtain ⟨pk, hpk⟩ : ∃ pk, ps.getD k default = pk := ⟨_, rfl⟩
  have hmem : pk ∈ ps := by rw [← hpk, List.getD_eq_getElem?_getD, List.getElem?_eq_getElem hkp]; exact List.getElem_mem hkp
  have HMB : Hid (missB (xorL (dataL ps)) (sealL (parH x) (xorL (dataL ps)) (xorL (headL ps))) (skipL ps k 0).reverse = true ∧ missX (xorL (dataL ps)) (skipL ps k 0).reverse = pk.d.l ∧ missY (sealL (parH x) (xorL (dataL ps)) (xorL (headL ps))) (skipL ps k 0).reverse = pk.o.l) := Lib.hid (by
    obtain ⟨hh0, hs0⟩ := (HP4.out pk hmem).2.2
    refine miss_back (hw := parH x) (h := hh0) (A := ps.take k) (B := ps.drop (k + 1)) (p := pk) (by rw [← hpk]; exact page_split hkp) (by rw [skipL_zero]) ?_ (parH_ok HX.out) rfl hs0 (fun q hq => by obtain ⟨_, hs1⟩ := (HP4.out q hq).2.2; exact hs1.len)
    rw [(HP4.out pk hmem).2.1]
    refine mlen_all (fun l hl => ?_) (fun e => by have h_ := congrArg List.length e; simp only [dataL, List.length_map, List.length_nil] at h_; omega)
    obtain ⟨q, hq, rfl⟩ := List.mem_map.1 hl
    exact (HP4.out q hq).2.1)
  have HPK := Lib.hid (And.intro hpk hmem)
  have HML : Hid (mlen (xorL (dataL ps) :: dataL (skipL ps k 0).reverse) ≤ 900000) := Lib.hid (by
    refine Nat.le_trans (mlen_bound (b := 300) fun l hl => ?_) (by omega)
    rcases List.mem_cons.1 hl with rfl | hl
    · rw [xorL_length]
      refine mlen_bound fun l hl => ?_
      obtain ⟨q, hq, rfl⟩ := List.mem_map.1 hl
      have h_ := (HP4.out q hq).2.1; omega
    · obtain ⟨q, hq, rfl⟩ := List.mem_map.1 hl
      have h_ := (HP4.out q (skipL_mem (List.mem_reverse.1 hq))).2.1; omega)
  have HSL : Hid (∀ q ∈ (skipL ps k 0).reverse, q ∈ ps) := Lib.hid (fun q hq => skipL_mem (List.mem_reverse.1 hq))
  have HSN : Hid ((skipL ps k 0).reverse.length ≤ 1000) := Lib.hid (by have h_ := skipL_len ps k 0; rw [List.length_reverse]; omega)
  obtain ⟨DL, hDL⟩ : ∃ DL, xorL (dataL ps) = DL := ⟨_, rfl⟩
  rw [hDL] at D4 O4 BY HMB HML ⊢
  obtain ⟨OL, hOL⟩ : ∃ OL, sealL (parH x) DL (xorL (headL ps)) = OL := ⟨_, rfl⟩
  rw [hOL] at O4 BY HMB
  clear hDL hOL hpk hmem
  have z3 : ∀ o, (w4.alloc o).cell? ⟨w.heap.size, 3, none⟩ = some (.int .i64 q2) := fun o => (blk_cell (blk_alloc G4.out o) 3).trans rfl
  have hlw := u64_nat (n := ps.length) (by omega)
  have hi1 : wrap64 ((ps.length : Int) - 1) = (ps.length : Int) - 1 := by unfold wrap64; omega
  go_wp2_with fail
  simp only [hk]
  clear z3 hlw hi1
  have bA : Below w4.heap.size w4 (w4.alloc (.cells #[.slice A1 DL.length c1, .slice A2 64 c2] 43)) := bl_alloc (Below.refl _ _) _
  have PG5 := Lib.hid (heap_alloc_new w4 (.cells #[.slice A1 DL.length c1, .slice A2 64 c2] 43))
  have T5 := Lib.hid (bl_seq T4.out bA)
  have HA5 := Lib.hid (HA4.out.below bA)
  have HP5 := Lib.hid (fun p hp => (HP4.out p hp).below bA)
  have D5 := Lib.hid (D4.out.below bA)
  have O5 := Lib.hid (O4.out.below bA)
  obtain ⟨w5, hw5⟩ : ∃ w5, w4.alloc (.cells #[.slice A1 DL.length c1, .slice A2 64 c2] 43) = w5 := ⟨_, rfl⟩
  rw [hw5] at PG5 T5 HA5 HP5 D5 O5 ⊢
  obtain ⟨gW, hgW⟩ : ∃ gW, w4.heap.size = gW := ⟨_, rfl⟩
  rw [hgW] at PG5 ⊢
  clear bA hw5 hgW T4 G4 HA4 HP4 D4 O4
  obtain ⟨gB, hgB⟩ : ∃ gB, w5.heap.size = gB := ⟨_, rfl⟩
  have ZB := Lib.hid hgB
  have hb0 : Hid (Below gB w5 w5) := Lib.hid (by rw [← hgB]; exact Below.refl _ _)
  clear hgB
  go_loopw [8, 9] (fun a i wr => ∃ j : Nat, j ≤ ps.length ∧ i = .int .i64 ((j : Int) - 1) ∧ Hid (OwnRow Rpg 43 2 wr gB a (skipL ps k j).reverse) ∧ Hid (Below gB w5 wr)) (fun _ i _ => (intOf i + 1).toNat)
  case atStart => exact ⟨ps.length, Nat.le_refl _, rfl, Lib.hid (by rw [skipL_end]; exact OwnRow.none_ _ _ _ _ _), hb0⟩
  case round =>
    obtain ⟨j1, hj, rfl, HQ, HT⟩ := hrel
    clear hb0
    rcases Nat.eq_zero_or_pos j1 with rfl | hj0
    · obtain ⟨Ar, cr, rfl, hcr⟩ := HQ.out.slice_
      have hbw : Below w5.heap.size w5 wr := by rw [ZB.out]; exact HT.out
      have PG6 := Lib.hid (blk_below PG5.out hbw)
      have T6 := Lib.hid (bl_seq T5.out hbw)
      have HP6 := Lib.hid (fun p hp => (HP5.out p hp).below hbw)
      have D6 := Lib.hid (D5.out.below hbw)
      have O6 := Lib.hid (O5.out.below hbw)
      have hrr := rdpages_of HQ.out (fun q hq => HP6.out q (HSL.out q hq))
      obtain ⟨ad, he, k1, k2, k3, k4⟩ := ((rdpages_of HA5.out HP5.out).below hbw).2 k hkp
      rw [HPK.out.1] at k1 k2 k3 k4
      have KP6 : Hid (PgAt wr ad k pk) := Lib.hid ⟨k1, k2, k3, k4⟩
      subst he
      have p0 : wr.cell? ⟨gW, 0, none⟩ = some (.slice A1 DL.length c1) := (blk_cell PG6.out 0).trans rfl
      have p1 : wr.cell? ⟨gW, 1, none⟩ = some (.slice A2 64 c2) := (blk_cell PG6.out 1).trans rfl
      have hmi := Missing_any DL OL (skipL ps k 0).reverse A1 A2 Ar DL.length c1 64 c2 cr wr D6.out.reads.1 D6.out.reads.2 BY.out.1 O6.out.reads.1 O6.out.reads.2 BY.out.2.1 hrr HML.out HSN.out
      obtain ⟨m1, m2, m3⟩ := miss_yes HMB.out.1
      rw [m1, m2, m3, HMB.out.2.1, HMB.out.2.2] at hmi
      have HMI := Lib.hid hmi
      clear hbw PG5 T5 HA5 HP5 D5 O5 HQ hrr k1 k2 k3 k4 hmi m1 m2 m3 HT hcr
      obtain ⟨M, hM⟩ : ∃ M, (skipL ps k 0).reverse = M := ⟨_, rfl⟩
      rw [hM] at HMI ⊢
      obtain ⟨z, hz⟩ : ∃ z : Int, z = ((0 : Nat) : Int) - 1 := ⟨_, rfl⟩
      have hz0 : ¬ (0 ≤ z) := by omega
      rw [← hz]
      clear hz hM hj hk
      go_wp2_with fail
      refine HMI.out.mono ?_
      rintro e w7 ⟨A3, c3, A5, c5, rfl, hr3, hr5, hb7⟩
      have T7 := Lib.hid (bl_seq T6.out hb7)
      have KP7 := Lib.hid (KP6.out.below hb7)
      have R37 := Lib.hid hr3
      have R57 := Lib.hid hr5
      clear hr3 hr5 hb7 T6 KP6 PG6 D6 O6 p0 p1 HMI
      go_wp2_with fail
      have bA : Below w7.heap.size w7 (w7.alloc (.cells #[.slice A3 pk.d.l.length c3, .slice A5 pk.o.l.length c5] 43)) := bl_alloc (Below.refl _ _) _
      have QGy := Lib.hid (heap_alloc_new w7 (.cells #[.slice A3 pk.d.l.length c3, .slice A5 pk.o.l.length c5] 43))
      have Ty := Lib.hid (bl_seq T7.out bA)
      have R3y := Lib.hid (R37.out.below bA)
      have R5y := Lib.hid (R57.out.below bA)
      have RPy := Lib.hid (KP7.out.below bA)
      have hki : ((k : Int) * 2).toNat = k * 2 := by omega
      obtain ⟨wy, hwy⟩ : ∃ wy, w7.alloc (.cells #[.slice A3 pk.d.l.length c3, .slice A5 pk.o.l.length c5] 43) = wy := ⟨_, rfl⟩
      rw [hwy] at QGy Ty R3y R5y RPy ⊢
      obtain ⟨gQ, hgQ⟩ : ∃ gQ, w7.heap.size = gQ := ⟨_, rfl⟩
      rw [hgQ] at QGy ⊢
      clear hwy hgQ bA T7 KP7 R37 R57
      refine start_ (n := 23) (S := fun w' => True) (ds := []) #[false, false, false, false, false, false, false, false, false, false, false, false, false, false, false, false, false, false, false, false, false, false, false] (by kernel_rfl) rfl rfl trivial (fun hHeld => ?_)
      refine with_tabW PbkR.tab14 PbkR.bits14 (fun HT_ HW_ => ?_)
      have QGz := Lib.hid (show wy.drew.heap[gQ]? = _ from QGy.out)
      have Tz := Lib.hid (bl_drew Ty.out)
      have R3z := Lib.hid (R3y.out.below (bl_drew (Below.refl _ _)))
      have R5z := Lib.hid (R5y.out.below (bl_drew (Below.refl _ _)))
      have RPz := Lib.hid (RPy.out.below (bl_drew (Below.refl _ _)))
      generalize wy.drew = wz at QGz Tz R3z R5z RPz hHeld ⊢
      have Q1z := Lib.hid RPz.out.1
      have Q2z := Lib.hid RPz.out.2.1
      have RDz := Lib.hid RPz.out.2.2.1
      have ROz := Lib.hid RPz.out.2.2.2
      have BB := Lib.hid (Below.refl wz.heap.size wz)
      refine inv_at [0, 1, 2, 3, 4, 5, 6, 7, 8, 9, 10, 11, 12, 13, 14, 15, 16, 17, 18, 19, 20, 21, 22] (fun a0_ b a w' => a = putSel a0_ b [(0, 62, .int .i64 0), (1, 63, .bool true), (2, 64, .bool true), (3, 65, .pointer (some ⟨gQ, 0, none⟩)), (4, 66, .slice A3 pk.d.l.length c3), (5, 67, .slice (some ad) ps.length ca), (6, 68, .int .i64 (k : Int)), (7, 69, .pointer (some (ad.add (k * 2)))), (8, 70, .pointer (some (ad.add (k * 2)))), (9, 71, .slice pk.d.A pk.d.l.length pk.d.c), (10, 72, .bool true), (11, 73, .bool true), (12, 74, .bool true), (13, 75, .pointer (some ⟨gQ, 1, none⟩)), (14, 76, .slice A5 pk.o.l.length c5), (15, 77, .slice (some ad) ps.length ca), (16, 78, .int .i64 (k : Int)), (17, 79, .pointer (some (ad.add (k * 2)))), (18, 80, .pointer (some ⟨(ad.add (k * 2)).block, (ad.add (k * 2)).off + 1, none⟩)), (19, 81, .slice pk.o.A pk.o.l.length pk.o.c), (20, 82, .bool true), (21, 83, .bool true), (22, 2, .bool true)] ∧ (Below wz.heap.size wz w')) HT_.out HW_.out (by kernel_rfl) (by kernel_rfl) ?_ ?_ ?_
      · exact ⟨by simp only [putSel, Bool.false_eq_true, if_false], BB.out⟩
      · skip
        clear BB
        refine steps_cons ?_ ?_
        · rintro b a w' ⟨ha, Q_BB⟩ hb_ hon hoff
          refine ⟨_, rfl, fun K hK => ?_⟩
          have e11 : a.tmps[11]? = some (.int .i64 0) := by rw [ha]; exact (putSel_off rfl).trans rfl
          replace ha := Aside0.mk ha
          have BB := Aside0.mk Q_BB
          refine value_ (w1 := w') (v := .int .i64 0) (by rfl) rfl ?_ ?_
          · go_simp
            (try simp only [i64_w])
            try rfl
          refine hK.out _ _ ⟨(by rw [ha.out]; exact putSel_upk 0 hb_ rfl rfl rfl), Q_BB⟩
        refine steps_cons ?_ ?_
        · rintro b a w' ⟨ha, Q_BB⟩ hb_ hon hoff
          refine ⟨_, rfl, fun K hK => ?_⟩
          have e62 : a.tmps[62]? = some (.int .i64 0) := by rw [ha]; exact putSel_on (e := (0, 62, .int .i64 0)) 0 rfl rfl (hon 0 (by kernel_rfl)) rfl
          replace ha := Aside0.mk ha
          have BB := Aside0.mk Q_BB
          refine value_ (w1 := w') (v := .bool true) (by rfl) rfl ?_ ?_
          · go_simp
            (try simp only [i64_w])
            try rfl
          refine hK.out _ _ ⟨(by rw [ha.out]; exact putSel_upk 1 hb_ rfl rfl rfl), Q_BB⟩
        refine steps_cons ?_ ?_
        · rintro b a w' ⟨ha, Q_BB⟩ hb_ hon hoff
          refine ⟨_, rfl, fun K hK => ?_⟩
          have e63 : a.tmps[63]? = some (.bool true) := by rw [ha]; exact putSel_on (e := (1, 63, .bool true)) 1 rfl rfl (hon 1 (by kernel_rfl)) rfl
          replace ha := Aside0.mk ha
          have BB := Aside0.mk Q_BB
          refine value_ (w1 := w') (v := .bool true) (by rfl) rfl ?_ ?_
          · go_simp
            (try simp only [i64_w])
            try rfl
          refine hK.out _ _ ⟨(by rw [ha.out]; exact putSel_upk 2 hb_ rfl rfl rfl), Q_BB⟩
        refine steps_cons ?_ ?_
        · rintro b a w' ⟨ha, Q_BB⟩ hb_ hon hoff
          refine ⟨_, rfl, fun K hK => ?_⟩
          have e10 : a.tmps[10]? = some (.pointer (some ⟨gQ, 0, none⟩)) := by rw [ha]; exact (putSel_off rfl).trans rfl
          have e64 : a.tmps[64]? = some (.bool true) := by rw [ha]; exact putSel_on (e := (2, 64, .bool true)) 2 rfl rfl (hon 2 (by kernel_rfl)) rfl
          replace ha := Aside0.mk ha
          have BB := Aside0.mk Q_BB
          refine value_ (w1 := w') (v := .pointer (some ⟨gQ, 0, none⟩)) (wanted_on rfl rfl rfl (e64.trans (by first | rfl | (simp [*]; done)))) rfl ?_ ?_
          · go_simp
            (try simp only [i64_w])
            try rfl
          refine hK.out _ _ ⟨(by rw [ha.out]; exact putSel_upk 3 hb_ rfl rfl rfl), Q_BB⟩
        refine steps_cons ?_ ?_
        · rintro b a w' ⟨ha, Q_BB⟩ hb_ hon hoff
          refine ⟨_, rfl, fun K hK => ?_⟩
          have e65 : a.tmps[65]? = some (.pointer (some ⟨gQ, 0, none⟩)) := by rw [ha]; exact putSel_on (e := (3, 65, .pointer (some ⟨gQ, 0, none⟩))) 3 rfl rfl (hon 3 (by kernel_rfl)) rfl
          have e64 : a.tmps[64]? = some (.bool true) := by rw [ha]; exact putSel_on (e := (2, 64, .bool true)) 2 rfl rfl (hon 2 (by kernel_rfl)) rfl
          replace ha := Aside0.mk ha
          have BB := Aside0.mk Q_BB
          have hc0_ : w'.cell? ⟨gQ, 0, none⟩ = some (.slice A3 pk.d.l.length c3) := (blk_cell (blk_below QGz.out BB.out) 0).trans rfl
          refine value_ (w1 := w') (v := .slice A3 pk.d.l.length c3) (wanted_on rfl rfl rfl (e64.trans (by first | rfl | (simp [*]; done)))) rfl ?_ ?_
          · go_simp
            (try simp only [i64_w])
            try rfl
          refine hK.out _ _ ⟨(by rw [ha.out]; exact putSel_upk 4 hb_ rfl rfl rfl), Q_BB⟩
        refine steps_cons ?_ ?_
        · rintro b a w' ⟨ha, Q_BB⟩ hb_ hon hoff
          refine ⟨_, rfl, fun K hK => ?_⟩
          have e3 : a.tmps[3]? = some (.slice (some ad) ps.length ca) := by rw [ha]; exact (putSel_off rfl).trans rfl
          have e64 : a.tmps[64]? = some (.bool true) := by rw [ha]; exact putSel_on (e := (2, 64, .bool true)) 2 rfl rfl (hon 2 (by kernel_rfl)) rfl
          replace ha := Aside0.mk ha
          have BB := Aside0.mk Q_BB
          refine value_ (w1 := w') (v := .slice (some ad) ps.length ca) (wanted_on rfl rfl rfl (e64.trans (by first | rfl | (simp [*]; done)))) rfl ?_ ?_
          · go_simp
            (try simp only [i64_w])
            try rfl
          refine hK.out _ _ ⟨(by rw [ha.out]; exact putSel_upk 5 hb_ rfl rfl rfl), Q_BB⟩
        refine steps_cons ?_ ?_
        · rintro b a w' ⟨ha, Q_BB⟩ hb_ hon hoff
          refine ⟨_, rfl, fun K hK => ?_⟩
          have e7 : a.tmps[7]? = some (.int .i64 (k : Int)) := by rw [ha]; exact (putSel_off rfl).trans rfl
          have e64 : a.tmps[64]? = some (.bool true) := by rw [ha]; exact putSel_on (e := (2, 64, .bool true)) 2 rfl rfl (hon 2 (by kernel_rfl)) rfl
          replace ha := Aside0.mk ha
          have BB := Aside0.mk Q_BB
          refine value_ (w1 := w') (v := .int .i64 (k : Int)) (wanted_on rfl rfl rfl (e64.trans (by first | rfl | (simp [*]; done)))) rfl ?_ ?_
          · go_simp
            (try simp only [i64_w])
            try rfl
          refine hK.out _ _ ⟨(by rw [ha.out]; exact putSel_upk 6 hb_ rfl rfl rfl), Q_BB⟩
        refine steps_cons ?_ ?_
        · rintro b a w' ⟨ha, Q_BB⟩ hb_ hon hoff
          refine ⟨_, rfl, fun K hK => ?_⟩
          have e67 : a.tmps[67]? = some (.slice (some ad) ps.length ca) := by rw [ha]; exact putSel_on (e := (5, 67, .slice (some ad) ps.length ca)) 5 rfl rfl (hon 5 (by kernel_rfl)) rfl
          have e68 : a.tmps[68]? = some (.int .i64 (k : Int)) := by rw [ha]; exact putSel_on (e := (6, 68, .int .i64 (k : Int))) 6 rfl rfl (hon 6 (by kernel_rfl)) rfl
          have e64 : a.tmps[64]? = some (.bool true) := by rw [ha]; exact putSel_on (e := (2, 64, .bool true)) 2 rfl rfl (hon 2 (by kernel_rfl)) rfl
          replace ha := Aside0.mk ha
          have BB := Aside0.mk Q_BB
          refine value_ (w1 := w') (v := .pointer (some (ad.add (k * 2)))) (wanted_on rfl rfl rfl (e64.trans (by first | rfl | (simp [*]; done)))) rfl ?_ ?_
          · go_simp
            (try simp only [i64_w])
            try rfl
          refine hK.out _ _ ⟨(by rw [ha.out]; exact putSel_upk 7 hb_ rfl rfl rfl), Q_BB⟩
        refine steps_cons ?_ ?_
        · rintro b a w' ⟨ha, Q_BB⟩ hb_ hon hoff
          refine ⟨_, rfl, fun K hK => ?_⟩
          have e69 : a.tmps[69]? = some (.pointer (some (ad.add (k * 2)))) := by rw [ha]; exact putSel_on (e := (7, 69, .pointer (some (ad.add (k * 2))))) 7 rfl rfl (hon 7 (by kernel_rfl)) rfl
          have e64 : a.tmps[64]? = some (.bool true) := by rw [ha]; exact putSel_on (e := (2, 64, .bool true)) 2 rfl rfl (hon 2 (by kernel_rfl)) rfl
          replace ha := Aside0.mk ha
          have BB := Aside0.mk Q_BB
          refine value_ (w1 := w') (v := .pointer (some (ad.add (k * 2)))) (wanted_on rfl rfl rfl (e64.trans (by first | rfl | (simp [*]; done)))) rfl ?_ ?_
          · go_simp
            (try simp only [i64_w])
            try rfl
          refine hK.out _ _ ⟨(by rw [ha.out]; exact putSel_upk 8 hb_ rfl rfl rfl), Q_BB⟩
        refine steps_cons ?_ ?_
        · rintro b a w' ⟨ha, Q_BB⟩ hb_ hon hoff
          refine ⟨_, rfl, fun K hK => ?_⟩
          have e70 : a.tmps[70]? = some (.pointer (some (ad.add (k * 2)))) := by rw [ha]; exact putSel_on (e := (8, 70, .pointer (some (ad.add (k * 2))))) 8 rfl rfl (hon 8 (by kernel_rfl)) rfl
          have e64 : a.tmps[64]? = some (.bool true) := by rw [ha]; exact putSel_on (e := (2, 64, .bool true)) 2 rfl rfl (hon 2 (by kernel_rfl)) rfl
          replace ha := Aside0.mk ha
          have BB := Aside0.mk Q_BB
          have hc2_ : w'.cell? (ad.add (k * 2)) = some (.slice pk.d.A pk.d.l.length pk.d.c) := pw_cell_below BB.out Q1z.out
          refine value_ (w1 := w') (v := .slice pk.d.A pk.d.l.length pk.d.c) (wanted_on rfl rfl rfl (e64.trans (by first | rfl | (simp [*]; done)))) rfl ?_ ?_
          · go_simp
            (try simp only [i64_w])
            try rfl
          refine hK.out _ _ ⟨(by rw [ha.out]; exact putSel_upk 9 hb_ rfl rfl rfl), Q_BB⟩
        refine steps_cons ?_ ?_
        · rintro b a w' ⟨ha, Q_BB⟩ hb_ hon hoff
          refine ⟨_, rfl, fun K hK => ?_⟩
          have e66 : a.tmps[66]? = some (.slice A3 pk.d.l.length c3) := by rw [ha]; exact putSel_on (e := (4, 66, .slice A3 pk.d.l.length c3)) 4 rfl rfl (hon 4 (by kernel_rfl)) rfl
          have e71 : a.tmps[71]? = some (.slice pk.d.A pk.d.l.length pk.d.c) := by rw [ha]; exact putSel_on (e := (9, 71, .slice pk.d.A pk.d.l.length pk.d.c)) 9 rfl rfl (hon 9 (by kernel_rfl)) rfl
          have e64 : a.tmps[64]? = some (.bool true) := by rw [ha]; exact putSel_on (e := (2, 64, .bool true)) 2 rfl rfl (hon 2 (by kernel_rfl)) rfl
          replace ha := Aside0.mk ha
          have BB := Aside0.mk Q_BB
          refine goes_ Try.func11 (by kernel_rfl) rfl #[.slice A3 pk.d.l.length c3, .slice pk.d.A pk.d.l.length pk.d.c] (wanted_on rfl rfl rfl (e64.trans (by first | rfl | (simp [*]; done)))) rfl rfl (by first | (simp only [List.map_toArray, List.map_cons, List.map_nil, Act.eval, Array.getD_eq_getD_getElem?, Option.getD_some, e66, e71, e64]; done) | (simp only [List.map_toArray, List.map_cons, List.map_nil, Act.eval, Array.getD_eq_getD_getElem?, Option.getD_some, e66, e71, e64]; rfl)) ?_
          refine (rSame_any pk.d.l pk.d.l A3 pk.d.A pk.d.l.length pk.d.l.length c3 pk.d.c w' (R3z.out.below BB.out).2.1 (RDz.out.below BB.out).2.1 RDz.out.2.2 RDz.out.2.2).mono ?_
          rintro e w1 ⟨he, hn⟩
          rw [decide_eq_true rfl] at he
          subst he
          refine ⟨_, rfl, ?_⟩
          refine hK.out _ _ ⟨(by rw [ha.out]; exact putSel_upk 10 hb_ rfl rfl rfl), bl_seq BB.out hn.below⟩
        refine steps_cons ?_ ?_
        · rintro b a w' ⟨ha, Q_BB⟩ hb_ hon hoff
          refine ⟨_, rfl, fun K hK => ?_⟩
          have e64 : a.tmps[64]? = some (.bool true) := by rw [ha]; exact putSel_on (e := (2, 64, .bool true)) 2 rfl rfl (hon 2 (by kernel_rfl)) rfl
          have e72 : a.tmps[72]? = some (.bool true) := by rw [ha]; exact putSel_on (e := (10, 72, .bool true)) 10 rfl rfl (hon 10 (by kernel_rfl)) rfl
          replace ha := Aside0.mk ha
          have BB := Aside0.mk Q_BB
          refine value_ (w1 := w') (v := .bool true) (by rfl) rfl ?_ ?_
          · go_simp
            (try simp only [i64_w])
            try rfl
          refine hK.out _ _ ⟨(by rw [ha.out]; exact putSel_upk 11 hb_ rfl rfl rfl), Q_BB⟩
        refine steps_cons ?_ ?_
        · rintro b a w' ⟨ha, Q_BB⟩ hb_ hon hoff
          refine ⟨_, rfl, fun K hK => ?_⟩
          have e73 : a.tmps[73]? = some (.bool true) := by rw [ha]; exact putSel_on (e := (11, 73, .bool true)) 11 rfl rfl (hon 11 (by kernel_rfl)) rfl
          replace ha := Aside0.mk ha
          have BB := Aside0.mk Q_BB
          refine value_ (w1 := w') (v := .bool true) (by rfl) rfl ?_ ?_
          · go_simp
            (try simp only [i64_w])
            try rfl
          refine hK.out _ _ ⟨(by rw [ha.out]; exact putSel_upk 12 hb_ rfl rfl rfl), Q_BB⟩
        refine steps_cons ?_ ?_
        · rintro b a w' ⟨ha, Q_BB⟩ hb_ hon hoff
          refine ⟨_, rfl, fun K hK => ?_⟩
          have e10 : a.tmps[10]? = some (.pointer (some ⟨gQ, 0, none⟩)) := by rw [ha]; exact (putSel_off rfl).trans rfl
          have e74 : a.tmps[74]? = some (.bool true) := by rw [ha]; exact putSel_on (e := (12, 74, .bool true)) 12 rfl rfl (hon 12 (by kernel_rfl)) rfl
          replace ha := Aside0.mk ha
          have BB := Aside0.mk Q_BB
          refine value_ (w1 := w') (v := .pointer (some ⟨gQ, 1, none⟩)) (wanted_on rfl rfl rfl (e74.trans (by first | rfl | (simp [*]; done)))) rfl ?_ ?_
          · go_simp
            (try simp only [i64_w])
            try rfl
          refine hK.out _ _ ⟨(by rw [ha.out]; exact putSel_upk 13 hb_ rfl rfl rfl), Q_BB⟩
        refine steps_cons ?_ ?_
        · rintro b a w' ⟨ha, Q_BB⟩ hb_ hon hoff
          refine ⟨_, rfl, fun K hK => ?_⟩
          have e75 : a.tmps[75]? = some (.pointer (some ⟨gQ, 1, none⟩)) := by rw [ha]; exact putSel_on (e := (13, 75, .pointer (some ⟨gQ, 1, none⟩))) 13 rfl rfl (hon 13 (by kernel_rfl)) rfl
          have e74 : a.tmps[74]? = some (.bool true) := by rw [ha]; exact putSel_on (e := (12, 74, .bool true)) 12 rfl rfl (hon 12 (by kernel_rfl)) rfl
          replace ha := Aside0.mk ha
          have BB := Aside0.mk Q_BB
          have hc1_ : w'.cell? ⟨gQ, 1, none⟩ = some (.slice A5 pk.o.l.length c5) := (blk_cell (blk_below QGz.out BB.out) 1).trans rfl
          refine value_ (w1 := w') (v := .slice A5 pk.o.l.length c5) (wanted_on rfl rfl rfl (e74.trans (by first | rfl | (simp [*]; done)))) rfl ?_ ?_
          · go_simp
            (try simp only [i64_w])
            try rfl
          refine hK.out _ _ ⟨(by rw [ha.out]; exact putSel_upk 14 hb_ rfl rfl rfl), Q_BB⟩
        refine steps_cons ?_ ?_
        · rintro b a w' ⟨ha, Q_BB⟩ hb_ hon hoff
          refine ⟨_, rfl, fun K hK => ?_⟩
          have e3 : a.tmps[3]? = some (.slice (some ad) ps.length ca) := by rw [ha]; exact (putSel_off rfl).trans rfl
          have e74 : a.tmps[74]? = some (.bool true) := by rw [ha]; exact putSel_on (e := (12, 74, .bool true)) 12 rfl rfl (hon 12 (by kernel_rfl)) rfl
          replace ha := Aside0.mk ha
          have BB := Aside0.mk Q_BB
          refine value_ (w1 := w') (v := .slice (some ad) ps.length ca) (wanted_on rfl rfl rfl (e74.trans (by first | rfl | (simp [*]; done)))) rfl ?_ ?_
          · go_simp
            (try simp only [i64_w])
            try rfl
          refine hK.out _ _ ⟨(by rw [ha.out]; exact putSel_upk 15 hb_ rfl rfl rfl), Q_BB⟩
        refine steps_cons ?_ ?_
        · rintro b a w' ⟨ha, Q_BB⟩ hb_ hon hoff
          refine ⟨_, rfl, fun K hK => ?_⟩
          have e7 : a.tmps[7]? = some (.int .i64 (k : Int)) := by rw [ha]; exact (putSel_off rfl).trans rfl
          have e74 : a.tmps[74]? = some (.bool true) := by rw [ha]; exact putSel_on (e := (12, 74, .bool true)) 12 rfl rfl (hon 12 (by kernel_rfl)) rfl
          replace ha := Aside0.mk ha
          have BB := Aside0.mk Q_BB
          refine value_ (w1 := w') (v := .int .i64 (k : Int)) (wanted_on rfl rfl rfl (e74.trans (by first | rfl | (simp [*]; done)))) rfl ?_ ?_
          · go_simp
            (try simp only [i64_w])
            try rfl
          refine hK.out _ _ ⟨(by rw [ha.out]; exact putSel_upk 16 hb_ rfl rfl rfl), Q_BB⟩
        refine steps_cons ?_ ?_
        · rintro b a w' ⟨ha, Q_BB⟩ hb_ hon hoff
          refine ⟨_, rfl, fun K hK => ?_⟩
          have e77 : a.tmps[77]? = some (.slice (some ad) ps.length ca) := by rw [ha]; exact putSel_on (e := (15, 77, .slice (some ad) ps.length ca)) 15 rfl rfl (hon 15 (by kernel_rfl)) rfl
          have e78 : a.tmps[78]? = some (.int .i64 (k : Int)) := by rw [ha]; exact putSel_on (e := (16, 78, .int .i64 (k : Int))) 16 rfl rfl (hon 16 (by kernel_rfl)) rfl
          have e74 : a.tmps[74]? = some (.bool true) := by rw [ha]; exact putSel_on (e := (12, 74, .bool true)) 12 rfl rfl (hon 12 (by kernel_rfl)) rfl
          replace ha := Aside0.mk ha
          have BB := Aside0.mk Q_BB
          refine value_ (w1 := w') (v := .pointer (some (ad.add (k * 2)))) (wanted_on rfl rfl rfl (e74.trans (by first | rfl | (simp [*]; done)))) rfl ?_ ?_
          · go_simp
            (try simp only [i64_w])
            try rfl
          refine hK.out _ _ ⟨(by rw [ha.out]; exact putSel_upk 17 hb_ rfl rfl rfl), Q_BB⟩
        refine steps_cons ?_ ?_
        · rintro b a w' ⟨ha, Q_BB⟩ hb_ hon hoff
          refine ⟨_, rfl, fun K hK => ?_⟩
          have e79 : a.tmps[79]? = some (.pointer (some (ad.add (k * 2)))) := by rw [ha]; exact putSel_on (e := (17, 79, .pointer (some (ad.add (k * 2))))) 17 rfl rfl (hon 17 (by kernel_rfl)) rfl
          have e74 : a.tmps[74]? = some (.bool true) := by rw [ha]; exact putSel_on (e := (12, 74, .bool true)) 12 rfl rfl (hon 12 (by kernel_rfl)) rfl
          replace ha := Aside0.mk ha
          have BB := Aside0.mk Q_BB
          refine value_ (w1 := w') (v := .pointer (some ⟨(ad.add (k * 2)).block, (ad.add (k * 2)).off + 1, none⟩)) (wanted_on rfl rfl rfl (e74.trans (by first | rfl | (simp [*]; done)))) rfl ?_ ?_
          · go_simp
            (try simp only [i64_w])
            try rfl
          refine hK.out _ _ ⟨(by rw [ha.out]; exact putSel_upk 18 hb_ rfl rfl rfl), Q_BB⟩
        refine steps_cons ?_ ?_
        · rintro b a w' ⟨ha, Q_BB⟩ hb_ hon hoff
          refine ⟨_, rfl, fun K hK => ?_⟩
          have e80 : a.tmps[80]? = some (.pointer (some ⟨(ad.add (k * 2)).block, (ad.add (k * 2)).off + 1, none⟩)) := by rw [ha]; exact putSel_on (e := (18, 80, .pointer (some ⟨(ad.add (k * 2)).block, (ad.add (k * 2)).off + 1, none⟩))) 18 rfl rfl (hon 18 (by kernel_rfl)) rfl
          have e74 : a.tmps[74]? = some (.bool true) := by rw [ha]; exact putSel_on (e := (12, 74, .bool true)) 12 rfl rfl (hon 12 (by kernel_rfl)) rfl
          replace ha := Aside0.mk ha
          have BB := Aside0.mk Q_BB
          have hc3_ : w'.cell? ⟨(ad.add (k * 2)).block, (ad.add (k * 2)).off + 1, none⟩ = some (.slice pk.o.A pk.o.l.length pk.o.c) := pw_cell_below BB.out Q2z.out
          refine value_ (w1 := w') (v := .slice pk.o.A pk.o.l.length pk.o.c) (wanted_on rfl rfl rfl (e74.trans (by first | rfl | (simp [*]; done)))) rfl ?_ ?_
          · go_simp
            (try simp only [i64_w])
            try rfl
          refine hK.out _ _ ⟨(by rw [ha.out]; exact putSel_upk 19 hb_ rfl rfl rfl), Q_BB⟩
        refine steps_cons ?_ ?_
        · rintro b a w' ⟨ha, Q_BB⟩ hb_ hon hoff
          refine ⟨_, rfl, fun K hK => ?_⟩
          have e76 : a.tmps[76]? = some (.slice A5 pk.o.l.length c5) := by rw [ha]; exact putSel_on (e := (14, 76, .slice A5 pk.o.l.length c5)) 14 rfl rfl (hon 14 (by kernel_rfl)) rfl
          have e81 : a.tmps[81]? = some (.slice pk.o.A pk.o.l.length pk.o.c) := by rw [ha]; exact putSel_on (e := (19, 81, .slice pk.o.A pk.o.l.length pk.o.c)) 19 rfl rfl (hon 19 (by kernel_rfl)) rfl
          have e74 : a.tmps[74]? = some (.bool true) := by rw [ha]; exact putSel_on (e := (12, 74, .bool true)) 12 rfl rfl (hon 12 (by kernel_rfl)) rfl
          replace ha := Aside0.mk ha
          have BB := Aside0.mk Q_BB
          refine goes_ Try.func11 (by kernel_rfl) rfl #[.slice A5 pk.o.l.length c5, .slice pk.o.A pk.o.l.length pk.o.c] (wanted_on rfl rfl rfl (e74.trans (by first | rfl | (simp [*]; done)))) rfl rfl (by first | (simp only [List.map_toArray, List.map_cons, List.map_nil, Act.eval, Array.getD_eq_getD_getElem?, Option.getD_some, e76, e81, e74]; done) | (simp only [List.map_toArray, List.map_cons, List.map_nil, Act.eval, Array.getD_eq_getD_getElem?, Option.getD_some, e76, e81, e74]; rfl)) ?_
          refine (rSame_any pk.o.l pk.o.l A5 pk.o.A pk.o.l.length pk.o.l.length c5 pk.o.c w' (R5z.out.below BB.out).2.1 (ROz.out.below BB.out).2.1 ROz.out.2.2 ROz.out.2.2).mono ?_
          rintro e w1 ⟨he, hn⟩
          rw [decide_eq_true rfl] at he
          subst he
          refine ⟨_, rfl, ?_⟩
          refine hK.out _ _ ⟨(by rw [ha.out]; exact putSel_upk 20 hb_ rfl rfl rfl), bl_seq BB.out hn.below⟩
        refine steps_cons ?_ ?_
        · rintro b a w' ⟨ha, Q_BB⟩ hb_ hon hoff
          refine ⟨_, rfl, fun K hK => ?_⟩
          have e74 : a.tmps[74]? = some (.bool true) := by rw [ha]; exact putSel_on (e := (12, 74, .bool true)) 12 rfl rfl (hon 12 (by kernel_rfl)) rfl
          have e82 : a.tmps[82]? = some (.bool true) := by rw [ha]; exact putSel_on (e := (20, 82, .bool true)) 20 rfl rfl (hon 20 (by kernel_rfl)) rfl
          replace ha := Aside0.mk ha
          have BB := Aside0.mk Q_BB
          refine value_ (w1 := w') (v := .bool true) (by rfl) rfl ?_ ?_
          · go_simp
            (try simp only [i64_w])
            try rfl
          refine hK.out _ _ ⟨(by rw [ha.out]; exact putSel_upk 21 hb_ rfl rfl rfl), Q_BB⟩
        refine steps_cons ?_ ?_
        · rintro b a w' ⟨ha, Q_BB⟩ hb_ hon hoff
          refine ⟨_, rfl, fun K hK => ?_⟩
          have e83 : a.tmps[83]? = some (.bool true) := by rw [ha]; exact putSel_on (e := (21, 83, .bool true)) 21 rfl rfl (hon 21 (by kernel_rfl)) rfl
          replace ha := Aside0.mk ha
          have BB := Aside0.mk Q_BB
          refine value_ (w1 := w') (v := .bool true) (by rfl) rfl ?_ ?_
          · go_simp
            (try simp only [i64_w])
            try rfl
          refine hK.out _ _ ⟨(by rw [ha.out]; exact putSel_upk 22 hb_ rfl rfl rfl), Q_BB⟩
        exact steps_nil
      · rintro b a w' hall ⟨ha, Q_BB⟩
        clear BB
        have hb0_ := hall 0 (by kernel_rfl)
        have hb1_ := hall 1 (by kernel_rfl)
        have hb2_ := hall 2 (by kernel_rfl)
        have hb3_ := hall 3 (by kernel_rfl)
        have hb4_ := hall 4 (by kernel_rfl)
        have hb5_ := hall 5 (by kernel_rfl)
        have hb6_ := hall 6 (by kernel_rfl)
        have hb7_ := hall 7 (by kernel_rfl)
        have hb8_ := hall 8 (by kernel_rfl)
        have hb9_ := hall 9 (by kernel_rfl)
        have hb10_ := hall 10 (by kernel_rfl)
        have hb11_ := hall 11 (by kernel_rfl)
        have hb12_ := hall 12 (by kernel_rfl)
        have hb13_ := hall 13 (by kernel_rfl)
        have hb14_ := hall 14 (by kernel_rfl)
        have hb15_ := hall 15 (by kernel_rfl)
        have hb16_ := hall 16 (by kernel_rfl)
        have hb17_ := hall 17 (by kernel_rfl)
        have hb18_ := hall 18 (by kernel_rfl)
        have hb19_ := hall 19 (by kernel_rfl)
        have hb20_ := hall 20 (by kernel_rfl)
        have hb21_ := hall 21 (by kernel_rfl)
        have hb22_ := hall 22 (by kernel_rfl)
        subst ha
        simp only [putSel, hb0_, hb1_, hb2_, hb3_, hb4_, hb5_, hb6_, hb7_, hb8_, hb9_, hb10_, hb11_, hb12_, hb13_, hb14_, hb15_, hb16_, hb17_, hb18_, hb19_, hb20_, hb21_, hb22_, if_true, Act.put, List.setIfInBounds_toArray, List.set_cons_zero, List.set_cons_succ]
        have BB := Aside0.mk Q_BB
        clear Q_BB
        clear hall hb0_ hb1_ hb2_ hb3_ hb4_ hb5_ hb6_ hb7_ hb8_ hb9_ hb10_ hb11_ hb12_ hb13_ hb14_ hb15_ hb16_ hb17_ hb18_ hb19_ hb20_ hb21_ hb22_
        have TF := Lib.hid (bl_seq Tz.out BB.out)
        go_wp2_with fail
        go_ret
        exact ⟨rfl, TF.out⟩
    · obtain ⟨j, rfl⟩ : ∃ j, j1 = j + 1 := ⟨j1 - 1, by omega⟩
      have hjp : j < ps.length := by omega
      have e1 : (((j + 1 : Nat) : Int) - 1) = (j : Int) := by omega
      have e2 : wrap64 ((j : Int) - 1) = (j : Int) - 1 := by unfold wrap64; omega
      rw [e1]
      by_cases hjk : j = k
      · subst hjk
        clear e1
        go_wp2_with fail
        go_roundw
        case rel => exact ⟨j, by omega, rfl, by rw [← skipL_at hjp] at HQ; exact HQ, HT⟩
        case measure => first | (simp [intOf]; done) | (simp [intOf]; omega)
      · have hjk2 : ¬ ((j : Int) = (k : Int)) := by omega
        have hbw : Below w5.heap.size w5 wr := by rw [ZB.out]; exact HT.out
        have hpg := (rdpages_of HA5.out HP5.out).below hbw
        obtain ⟨ad, he, q1, q2_, q3, q4⟩ := hpg.2 j hjp
        have hsk := skip_step hjp hjk
        obtain ⟨pj, hpj⟩ : ∃ pj, ps.getD j default = pj := ⟨_, rfl⟩
        rw [hpj] at q1 q2_ hsk
        have HSK := Lib.hid hsk
        subst he
        simp only [encR] at q1 q2_
        have hki : ((j : Int) * 2).toNat = j * 2 := by omega
        have hln : (skipL ps k (j + 1)).reverse.length ≤ 12 := by have h_ := skipL_len ps k (j + 1); rw [List.length_reverse]; omega
        clear hbw hpg q3 q4 hpj hsk e1
        go_wp2_with (at_builtin; refine OwnRow.append (R := Rpg) (w0 := w5) gB rfl (.tmp 49) (.tmp 54) 38 43 (.agg #[.slice none 0 0, .slice none 0 0]) 2 48 rfl Try.underlying38 infoPg rfl (by decide) (by decide) _ (skipL ps k (j + 1)).reverse pj [.slice pj.d.A pj.d.l.length pj.d.c, .slice pj.o.A pj.o.l.length pj.o.c] rfl (by first | rfl | (simp [Act.eval]; done) | (simp only [World.size_alloc]; rfl)) rfl rfl ?a1 ?aO ?aB ?aS ?aL ?_; (case a1 => intro u hu; simp at hu; rcases hu with rfl | rfl <;> rfl); (case aO => exact HQ.out); (case aB => exact HT.out); (case aS => have h_ := HT.out.size; have h2_ := ZB.out; omega); (case aL => omega); intro v9 w9 ho hb hg hat; have O9 := Lib.hid (And.intro ho hb); clear ho hb hg hat)
        go_roundw
        case rel => exact ⟨j, by omega, rfl, by rw [HSK.out]; exact Lib.hid O9.out.1, Lib.hid O9.out.2⟩
        case measure => first | (simp [intOf]; done) | (simp [intOf]; omega)
end Go.Proofs.Ytkbjndfmbimjiaa
