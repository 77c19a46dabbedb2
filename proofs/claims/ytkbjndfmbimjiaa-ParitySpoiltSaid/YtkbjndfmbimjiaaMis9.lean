import Derived.Test.YtkbjndfmbimjiaaPof9
/-! gabionref09.Missing. -/
set_option linter.unusedVariables false
set_option linter.unusedSimpArgs false
namespace Go.Proofs.Ytkbjndfmbimjiaa
open Go.RowKit Go.Proofs.YtkbjndfmbimjiaaW.PrintWords Go.Proofs.YtkbjndfmbimjiaaW.PrintLast
set_option maxHeartbeats 4000000 in
set_option maxRecDepth 100000 in
theorem rMissing_any (wd wo : List Int) (ps : List Pg) (A B R : Option Addr) (n c m d q : Nat) (w : World) (hA : ReadsInt w .u8 A n wd) (hc : n ≤ c) (bA : Byt wd) (hB : ReadsInt w .u8 B m wo) (hd : m ≤ d) (bB : Byt wo) (hp : RdPages w R ps) (hm : mlen (wd :: dataL ps) ≤ 900000) (hps : ps.length ≤ 1000) :
    Calls Try.prog 20 #[.agg #[.slice A n c, .slice B m d], .slice R ps.length q] w fun e w' => ∃ A1 c1 A2 c2, e = .returned (.tuple #[.agg #[.slice A1 (missD wd wo ps).length c1, .slice A2 (missO wd wo ps).length c2], .bool (missB wd wo ps)]) ∧ RowOk w' ⟨A1, c1, missD wd wo ps⟩ ∧ RowOk w' ⟨A2, c2, missO wd wo ps⟩ ∧ Below w.heap.size w w' := by
  have HA := Lib.hid hA
  have HB := Lib.hid hB
  have YA := Lib.hid bA
  have YB := Lib.hid bB
  have HR := Lib.hid hp
  have HM := Lib.hid hm
  have hlen := hp.1
  have hln := hA.2.1
  have hn9 : n ≤ 900000 := by have h_ := hA.1; have h2_ := hm; simp only [mlen] at h2_; omega
  clear hA hB bA bB hp hm
  have hb0 : ((w.alloc (.cells #[.slice A n c, .slice B m d] 45)).alloc (.cells #[.slice none 0 0, .slice none 0 0] 45)).heap[w.heap.size]? = some (.cells #[.slice A n c, .slice B m d] 45 (0, 0)) := blk_alloc (heap_alloc_new _ _) _
  have rb0 : ((w.alloc (.cells #[.slice A n c, .slice B m d] 45)).alloc (.cells #[.slice none 0 0, .slice none 0 0] 45)).heap[w.heap.size + 1]? = some (.cells #[.slice none 0 0, .slice none 0 0] 45 (0, 0)) := by
    have h_ := heap_alloc_new (w.alloc (.cells #[.slice A n c, .slice B m d] 45)) (.cells #[.slice none 0 0, .slice none 0 0] 45)
    simp only [World.size_alloc] at h_
    exact h_
  have tb0 : Below w.heap.size w ((w.alloc (.cells #[.slice A n c, .slice B m d] 45)).alloc (.cells #[.slice none 0 0, .slice none 0 0] 45)) := bl_alloc (bl_alloc (Below.refl _ _) _) _
  have H0 := Lib.hid (And.intro hb0 (And.intro rb0 tb0))
  clear hb0 rb0 tb0
  go_enter Try.func20, Try.ntmps20
  obtain ⟨wE, hwE⟩ : ∃ wE, ((w.alloc (.cells #[.slice A n c, .slice B m d] 45)).alloc (.cells #[.slice none 0 0, .slice none 0 0] 45)) = wE := ⟨_, rfl⟩
  rw [hwE] at H0
  have c0 : wE.cell? ⟨w.heap.size, 0, none⟩ = some (.slice A n c) := (blk_cell H0.out.1 0).trans rfl
  have c1 : wE.cell? ⟨w.heap.size, 1, none⟩ = some (.slice B m d) := (blk_cell H0.out.1 1).trans rfl
  go_wp2_with fail
  try rw [hwE]
  clear c0 c1 hwE
  refine (rOpen05 B A d n c m wo wd wE (HB.out.below H0.out.2.2) YB.out hd (HA.out.below H0.out.2.2) YA.out hc (by omega)).mono ?_
  rintro e w1 ⟨hb1, rfl⟩
  have H1 := Lib.hid (And.intro (blk_below H0.out.1 hb1) (And.intro (blk_below H0.out.2.1 hb1) (bl_seq H0.out.2.2 hb1)))
  clear hb1
  cases hob : openB wd wo
  case false =>
    have hmb : missB wd wo ps = false := by rw [missB, hob]; rfl
    have hR : openR wd wo = hd0 := openR_no hob
    rw [hR]
    clear hR hob
    simp only [hd64, hd0]
    have HMB := Lib.hid hmb
    clear hmb
    have ZR := Lib.hid (blk_alloc (H1.out.2.1) (.cells #[.int .i64 0, .int .i64 0, .int .i64 0, .int .i64 0, .int .i64 0, .int .i64 0, .int .i64 0] 48))
    have ZB := Lib.hid (bl_alloc (H1.out.2.2) (.cells #[.int .i64 0, .int .i64 0, .int .i64 0, .int .i64 0, .int .i64 0, .int .i64 0, .int .i64 0] 48))
    have zc0 : (w1.alloc (.cells #[.int .i64 0, .int .i64 0, .int .i64 0, .int .i64 0, .int .i64 0, .int .i64 0, .int .i64 0] 48)).cell? ⟨w.heap.size + 1, 0, none⟩ = some (.slice none 0 0) := (blk_cell ZR.out 0).trans rfl
    have zc1 : (w1.alloc (.cells #[.int .i64 0, .int .i64 0, .int .i64 0, .int .i64 0, .int .i64 0, .int .i64 0, .int .i64 0] 48)).cell? ⟨w.heap.size + 1, 1, none⟩ = some (.slice none 0 0) := (blk_cell ZR.out 1).trans rfl
    have zf0 : (w1.alloc (.cells #[.int .i64 0, .int .i64 0, .int .i64 0, .int .i64 0, .int .i64 0, .int .i64 0, .int .i64 0] 48)).frozen? ⟨w.heap.size + 1, 0, none⟩ = false := blk_frozen ZR.out 0
    have zf1 : (w1.alloc (.cells #[.int .i64 0, .int .i64 0, .int .i64 0, .int .i64 0, .int .i64 0, .int .i64 0, .int .i64 0] 48)).frozen? ⟨w.heap.size + 1, 1, none⟩ = false := blk_frozen ZR.out 1
    go_wp2_with fail
    have hf := blk_put (blk_put ZR.out 0 (.slice none 0 0) (cs' := #[.slice none 0 0, .slice none 0 0]) (by simp)) 1 (.slice none 0 0) (cs' := #[.slice none 0 0, .slice none 0 0]) (by simp)
    have hbf := bl_set (bl_set ZB.out (p := ⟨w.heap.size + 1, 0, none⟩) (by simp) (.slice none 0 0)) (p := ⟨w.heap.size + 1, 1, none⟩) (by simp) (.slice none 0 0)
    obtain ⟨wzz, hwz⟩ : ∃ wzz, (((w1.alloc (.cells #[.int .i64 0, .int .i64 0, .int .i64 0, .int .i64 0, .int .i64 0, .int .i64 0, .int .i64 0] 48)).setCell ⟨w.heap.size + 1, 0, none⟩ (.slice none 0 0)).setCell ⟨w.heap.size + 1, 1, none⟩ (.slice none 0 0)) = wzz := ⟨_, rfl⟩
    rw [hwz] at hf hbf ⊢
    have cc0 : wzz.cell? ⟨w.heap.size + 1, 0, none⟩ = some (.slice none 0 0) := (blk_cell hf 0).trans rfl
    have cc1 : wzz.cell? ⟨w.heap.size + 1, 1, none⟩ = some (.slice none 0 0) := (blk_cell hf 1).trans rfl
    refine bodyPost_ret (v := .tuple #[.agg #[.slice none 0 0, .slice none 0 0], .bool false]) (by simp [results, Try.results20, go_sem, cc0, cc1]) rfl ?_
    obtain ⟨m1, m2, m3⟩ := miss_no HMB.out
    rw [m1, m2, HMB.out]
    exact ⟨none, 0, none, 0, rfl, rows_nil _, rows_nil _, hbf⟩
  case true =>
    have hwl := open_len hob
    have hm64 : m = 64 := by have h_ := HB.out.1; omega
    subst hm64
    have hR : openR wd wo = openH wo := openR_yes hob
    rw [hR]
    clear hR
    by_cases hk : (openH wo).k = 5
    case neg =>
      have hmb : missB wd wo ps = false := by rw [missB, decide_eq_false hk]; simp
      have kf : ((openH wo).k != 5) = true := by simpa using hk
      generalize openH wo = HH at kf ⊢
      simp only [hd64]
      have HMB := Lib.hid hmb
      clear hmb hk hob hwl
      have ZR := Lib.hid (blk_alloc (H1.out.2.1) (.cells #[.int .i64 HH.k, .int .i64 HH.e, .int .i64 HH.b, .int .i64 HH.i, .int .i64 HH.c, .int .i64 HH.l, .int .i64 HH.m] 48))
      have ZB := Lib.hid (bl_alloc (H1.out.2.2) (.cells #[.int .i64 HH.k, .int .i64 HH.e, .int .i64 HH.b, .int .i64 HH.i, .int .i64 HH.c, .int .i64 HH.l, .int .i64 HH.m] 48))
      have zc0 : (w1.alloc (.cells #[.int .i64 HH.k, .int .i64 HH.e, .int .i64 HH.b, .int .i64 HH.i, .int .i64 HH.c, .int .i64 HH.l, .int .i64 HH.m] 48)).cell? ⟨w.heap.size + 1, 0, none⟩ = some (.slice none 0 0) := (blk_cell ZR.out 0).trans rfl
      have zc1 : (w1.alloc (.cells #[.int .i64 HH.k, .int .i64 HH.e, .int .i64 HH.b, .int .i64 HH.i, .int .i64 HH.c, .int .i64 HH.l, .int .i64 HH.m] 48)).cell? ⟨w.heap.size + 1, 1, none⟩ = some (.slice none 0 0) := (blk_cell ZR.out 1).trans rfl
      have zf0 : (w1.alloc (.cells #[.int .i64 HH.k, .int .i64 HH.e, .int .i64 HH.b, .int .i64 HH.i, .int .i64 HH.c, .int .i64 HH.l, .int .i64 HH.m] 48)).frozen? ⟨w.heap.size + 1, 0, none⟩ = false := blk_frozen ZR.out 0
      have zf1 : (w1.alloc (.cells #[.int .i64 HH.k, .int .i64 HH.e, .int .i64 HH.b, .int .i64 HH.i, .int .i64 HH.c, .int .i64 HH.l, .int .i64 HH.m] 48)).frozen? ⟨w.heap.size + 1, 1, none⟩ = false := blk_frozen ZR.out 1
      go_wp2_with fail
      have hf := blk_put (blk_put ZR.out 0 (.slice none 0 0) (cs' := #[.slice none 0 0, .slice none 0 0]) (by simp)) 1 (.slice none 0 0) (cs' := #[.slice none 0 0, .slice none 0 0]) (by simp)
      have hbf := bl_set (bl_set ZB.out (p := ⟨w.heap.size + 1, 0, none⟩) (by simp) (.slice none 0 0)) (p := ⟨w.heap.size + 1, 1, none⟩) (by simp) (.slice none 0 0)
      obtain ⟨wzz, hwz⟩ : ∃ wzz, (((w1.alloc (.cells #[.int .i64 HH.k, .int .i64 HH.e, .int .i64 HH.b, .int .i64 HH.i, .int .i64 HH.c, .int .i64 HH.l, .int .i64 HH.m] 48)).setCell ⟨w.heap.size + 1, 0, none⟩ (.slice none 0 0)).setCell ⟨w.heap.size + 1, 1, none⟩ (.slice none 0 0)) = wzz := ⟨_, rfl⟩
      rw [hwz] at hf hbf ⊢
      have cc0 : wzz.cell? ⟨w.heap.size + 1, 0, none⟩ = some (.slice none 0 0) := (blk_cell hf 0).trans rfl
      have cc1 : wzz.cell? ⟨w.heap.size + 1, 1, none⟩ = some (.slice none 0 0) := (blk_cell hf 1).trans rfl
      refine bodyPost_ret (v := .tuple #[.agg #[.slice none 0 0, .slice none 0 0], .bool false]) (by simp [results, Try.results20, go_sem, cc0, cc1]) rfl ?_
      obtain ⟨m1, m2, m3⟩ := miss_no HMB.out
      rw [m1, m2, HMB.out]
      exact ⟨none, 0, none, 0, rfl, rows_nil _, rows_nil _, hbf⟩
    case pos =>
      have hmb : missB wd wo ps = openB (missX wd ps) (missY wo ps) := by rw [missB, hob, decide_eq_true hk]; rfl
      have kf : ((openH wo).k != 5) = false := by simp [hk]
      have HMB := Lib.hid hmb
      have HWL := Lib.hid hwl
      generalize openH wo = HH at kf ⊢
      simp only [hd64]
      clear hmb hk hob hwl
      obtain ⟨i5, hi5, hz5, hs5, hb5⟩ := info_parts (show (Try.prog.info? 5).map (fun i => (i.zero, i.size, i.bytes)) = some (some (.int .u8 0), 1, 1) from info5')
      obtain ⟨B32, hcut, hB32⟩ := print_cut (P := Try.prog) 24 5 .i64 Try.underlying24 hi5 hs5 B 64 d 32 (by omega)
      obtain ⟨d32, hd32⟩ : ∃ d32, d - 32 = d32 := ⟨_, rfl⟩
      rw [hd32] at hcut
      have hcut2 : ∀ W : World, (Instr.slice 24 (.slice B 64 d) (some (.int .i64 32)) none none).run Try.prog W = .ok (.slice B32 32 d32) W := hcut
      clear hcut
      have HCB := Lib.hid hB32
      clear hB32
      have HBz := Lib.hid (blk_alloc H1.out.1 (.cells #[.int .i64 HH.k, .int .i64 HH.e, .int .i64 HH.b, .int .i64 HH.i, .int .i64 HH.c, .int .i64 HH.l, .int .i64 HH.m] 48))
      have RBz := Lib.hid (blk_alloc H1.out.2.1 (.cells #[.int .i64 HH.k, .int .i64 HH.e, .int .i64 HH.b, .int .i64 HH.i, .int .i64 HH.c, .int .i64 HH.l, .int .i64 HH.m] 48))
      have BBz := Lib.hid (bl_alloc H1.out.2.2 (.cells #[.int .i64 HH.k, .int .i64 HH.e, .int .i64 HH.b, .int .i64 HH.i, .int .i64 HH.c, .int .i64 HH.l, .int .i64 HH.m] 48))
      have zA : (w1.alloc (.cells #[.int .i64 HH.k, .int .i64 HH.e, .int .i64 HH.b, .int .i64 HH.i, .int .i64 HH.c, .int .i64 HH.l, .int .i64 HH.m] 48)).cell? ⟨w.heap.size, 0, none⟩ = some (.slice A n c) := (blk_cell HBz.out 0).trans rfl
      have zB : ∀ o, ((w1.alloc (.cells #[.int .i64 HH.k, .int .i64 HH.e, .int .i64 HH.b, .int .i64 HH.i, .int .i64 HH.c, .int .i64 HH.l, .int .i64 HH.m] 48)).alloc o).cell? ⟨w.heap.size, 1, none⟩ = some (.slice B 64 d) := fun o => (blk_cell (blk_alloc HBz.out o) 1).trans rfl
      go_wp2_with fail
      clear zA zB kf
      obtain ⟨wz, hwz⟩ : ∃ wz, w1.alloc (.cells #[.int .i64 HH.k, .int .i64 HH.e, .int .i64 HH.b, .int .i64 HH.i, .int .i64 HH.c, .int .i64 HH.l, .int .i64 HH.m] 48) = wz := ⟨_, rfl⟩
      have hzz : wz.heap.size = w1.heap.size + 1 := by rw [← hwz]; simp
      rw [hwz] at HBz RBz BBz ⊢
      rw [← hzz]
      have ZS := Lib.hid (show w.heap.size + 2 ≤ wz.heap.size by have h_ := blk_lt RBz.out; omega)
      obtain ⟨w', hw'⟩ : ∃ w', (wz.alloc (.cells #[.slice A n c] 24)).alloc (.cells #[.slice B32 32 d32] 24) = w' := ⟨_, rfl⟩
      have OA := Lib.hid ((own_one_lit wz wz.heap.size (.slice A n c) 24 (Nat.le_refl _)).alloc (.cells #[.slice B32 32 d32] 24))
      have OB := Lib.hid (own_one_lit (wz.alloc (.cells #[.slice A n c] 24)) wz.heap.size (.slice B32 32 d32) 24 (by simp))
      have BB := Lib.hid (bl_alloc (bl_alloc (Below.refl wz.heap.size wz) (.cells #[.slice A n c] 24)) (.cells #[.slice B32 32 d32] 24))
      have hs1 : (wz.alloc (.cells #[.slice A n c] 24)).heap.size = wz.heap.size + 1 := by simp
      rw [hs1] at OB
      rw [hw'] at OA OB BB ⊢
      obtain ⟨b34, hb34⟩ : ∃ b34, wz.heap.size = b34 := ⟨_, rfl⟩
      have SEP := Lib.hid (show wz.heap.size ≠ wz.heap.size + 1 by omega)
      clear hw' hwz hzz hs1 hb34
      have rAe : encs encR [(⟨A, c, wd⟩ : Row)] = [.slice A n c] := by have h_ := HA.out.1; simp [encs, encR, h_]
      have rBe : encs encR [(⟨B32, d32, wo.drop 32⟩ : Row)] = [.slice B32 32 d32] := by have h_ := HWL.out; simp [encs, encR, h_]
      obtain ⟨rA, hrA⟩ : ∃ rA : Row, rA = ⟨A, c, wd⟩ := ⟨_, rfl⟩
      obtain ⟨rB, hrB⟩ : ∃ rB : Row, rB = ⟨B32, d32, wo.drop 32⟩ := ⟨_, rfl⟩
      rw [← hrA] at rAe
      rw [← hrB] at rBe
      have HRR := Lib.hid (And.intro hrA hrB)
      have OA0 : Hid (w'.ownsRow wz.heap.size 24 1 (.slice (some ⟨wz.heap.size, 0, none⟩) 1 1) ([rA]).length (encs encR [rA])) := Lib.hid (by rw [rAe]; exact OA.out)
      have OB0 : Hid (w'.ownsRow wz.heap.size 24 1 (.slice (some ⟨wz.heap.size + 1, 0, none⟩) 1 1) ([rB]).length (encs encR [rB])) := Lib.hid (by rw [rBe]; exact OB.out)
      have SEP0 : Hid ((Value.slice (some ⟨wz.heap.size, 0, none⟩) 1 1).ownBlock = none ∨ (Value.slice (some ⟨wz.heap.size, 0, none⟩) 1 1).ownBlock ≠ (Value.slice (some ⟨wz.heap.size + 1, 0, none⟩) 1 1).ownBlock) := Lib.hid (.inr (by simp [Value.ownBlock]))
      have BB0 : Hid (Below wz.heap.size wz w') := Lib.hid BB.out
      clear OA OB SEP BB hrA hrB rAe rBe
      go_loopw [8, 9, 10] (fun a b i wr => ∃ k : Nat, k ≤ ps.length ∧ i = .int .i64 (k : Int) ∧ Hid (wr.ownsRow wz.heap.size 24 1 a (rA :: (ps.take k).map (·.d)).length (encs encR (rA :: (ps.take k).map (·.d)))) ∧ Hid (wr.ownsRow wz.heap.size 24 1 b (rB :: (ps.take k).map (fun p => headR p.o)).length (encs encR (rB :: (ps.take k).map (fun p => headR p.o)))) ∧ Hid (a.ownBlock = none ∨ a.ownBlock ≠ b.ownBlock) ∧ Hid (Below wz.heap.size wz wr)) (fun _ _ i _ => ps.length - (intOf i).toNat)
      case atStart => exact ⟨0, Nat.zero_le _, rfl, OA0, OB0, SEP0, BB0⟩
      case round =>
        obtain ⟨k, hk, rfl, HA_, HB_, HN, HT⟩ := hrel
        clear OA0 OB0 SEP0 BB0
        by_cases hlt : k < ps.length
        · obtain ⟨ad, he, hc1_, hc2_, hr1_, hr2_⟩ := HR.out.2 k hlt
          have hBw := bl_seq BBz.out HT.out
          have hc1 := pw_cell_below hBw hc1_
          have hc2 := pw_cell_below hBw hc2_
          have hr1 := hr1_.below hBw
          have hr2 := hr2_.below hBw
          subst he
          have hs1 : rA :: (ps.take (k + 1)).map (·.d) = (rA :: (ps.take k).map (·.d)) ++ [(ps.getD k default).d] := by
            rw [List.take_succ_eq_append_getElem hlt, List.map_append, List.getD_eq_getElem?_getD, List.getElem?_eq_getElem hlt]; rfl
          have hs2 : rB :: (ps.take (k + 1)).map (fun p => headR p.o) = (rB :: (ps.take k).map (fun p => headR p.o)) ++ [headR (ps.getD k default).o] := by
            rw [List.take_succ_eq_append_getElem hlt, List.map_append, List.getD_eq_getElem?_getD, List.getElem?_eq_getElem hlt]; rfl
          obtain ⟨p0, hp0⟩ : ∃ p0, ps.getD k default = p0 := ⟨_, rfl⟩
          rw [hp0] at hc1 hc2 hc1_ hc2_ hr1 hr2 hs1 hs2
          have HS := Lib.hid (And.intro hs1 (And.intro hs2 (And.intro hr1 hr2)))
          simp only [encR] at hc1 hc2 hc1_ hc2_
          have HC := Lib.hid (And.intro hc1_ hc2_)
          clear hc1_ hc2_ hr1_ hr2_ hBw
          have hki : ((k : Int) * 2).toNat = k * 2 := by omega
          obtain ⟨LA, hLA⟩ : ∃ LA, rA :: (ps.take k).map (·.d) = LA := ⟨_, rfl⟩
          obtain ⟨LB, hLB⟩ : ∃ LB, rB :: (ps.take k).map (fun p => headR p.o) = LB := ⟨_, rfl⟩
          have hl1 : LA.length = k + 1 := by rw [← hLA]; simp; omega
          have hl2 : LB.length = k + 1 := by rw [← hLB]; simp; omega
          rw [hLA] at HA_
          rw [hLB] at HB_
          have HL := Lib.hid (And.intro hl1 (And.intro hl2 (And.intro hLA hLB)))
          clear hs1 hs2 hr1 hr2 hp0 hl1 hl2 hLA hLB
          obtain ⟨Aa, na, ca, rfl⟩ := own_slice' HA_.out
          obtain ⟨Ab, nb, cb, rfl⟩ := own_slice' HB_.out
          go_wp2_with (at_builtin; refine print_append_of (w0 := wz) encR wz.heap.size rfl (.tmp 41) (.tmp 47) 22 24 (.slice none 0 0) 24 rfl Try.underlying22 infoR rfl (by decide) _ LA (p0.d) rfl (by first | rfl | (simp [Act.eval]; done) | (simp only [World.size_alloc]; rfl)) rfl ?aO ?aB ?aS ?aL ?_; (case aO => exact HA_.out); (case aB => exact HT.out); (case aS => exact HT.out.size); (case aL => have h_ := HL.out.1; omega); intro v9 w9 ho hb hg hat; have y0 : w9.cell? (ad.add (k * 2)) = some (.slice p0.d.A p0.d.l.length p0.d.c) := pw_cell_below (bl_seq BBz.out hb) HC.out.1; have y1 : w9.cell? ⟨(ad.add (k * 2)).block, (ad.add (k * 2)).off + 1, none⟩ = some (.slice p0.o.A p0.o.l.length p0.o.c) := pw_cell_below (bl_seq BBz.out hb) HC.out.2; have O9 := Lib.hid (And.intro ho (And.intro hb (And.intro hg hat))); clear ho hb hg hat)
          refine (rhead_any p0.d p0.o w9 HS.out.2.2.2.1 HS.out.2.2.2.2.1.2.1).mono ?_
          rintro e w10 ⟨he10, hb10⟩
          rw [show encR (headR p0.o) = .slice (headR p0.o).A (headR p0.o).l.length (headR p0.o).c from rfl] at he10
          subst he10
          have ha10 : w10.ownsRow wz.heap.size 24 1 v9 (LA ++ [p0.d]).length (encs encR (LA ++ [p0.d])) := own_move O9.out.1 fun j hj => hb10.block j (O9.out.1.lt j hj).2
          have hb9 : w9.ownsRow wz.heap.size 24 1 (.slice Ab nb cb) LB.length (encs encR LB) := own_other HB_.out O9.out.2.2.1 (sep_symm HN.out)
          have hb10_ : w10.ownsRow wz.heap.size 24 1 (.slice Ab nb cb) LB.length (encs encR LB) := own_move hb9 fun j hj => hb10.block j (hb9.lt j hj).2
          have hn10 := sep_grown HN.out O9.out.2.2.2 (fun j hj => by have h_ := (HB_.out.lt j hj).2; omega)
          have HA10 := Lib.hid ha10
          have HB10 := Lib.hid hb10_
          have HN10 := Lib.hid hn10
          have HT10 := Lib.hid (O9.out.2.1.trans (hb10.mono O9.out.2.1.size))
          clear ha10 hb9 hb10_ hn10 hb10 HA_ HB_ HN HT y0 y1 O9
          go_wp2_with (at_builtin; refine print_append_of (w0 := wz) encR wz.heap.size rfl (.tmp 49) (.tmp 55) 22 24 (.slice none 0 0) 24 rfl Try.underlying22 infoR rfl (by decide) _ LB (headR p0.o) rfl (by first | rfl | (simp [Act.eval]; done) | (simp only [World.size_alloc]; rfl)) rfl ?aO ?aB ?aS ?aL ?_; (case aO => exact HB10.out); (case aB => exact HT10.out); (case aS => exact HT10.out.size); (case aL => have h_ := HL.out.2.1; omega); intro v11 w11 ho hb hg hat; have O11 := Lib.hid (And.intro ho (And.intro hb (And.intro hg hat))); clear ho hb hg hat)
          go_roundw
          case rel =>
            refine ⟨k + 1, by omega, by go_num, ?_, ?_, ?_, Lib.hid O11.out.2.1⟩
            · rw [HS.out.1, HL.out.2.2.1]; exact Lib.hid (own_other HA10.out O11.out.2.2.1 HN10.out)
            · rw [HS.out.2.1, HL.out.2.2.2]; exact Lib.hid O11.out.1
            · exact Lib.hid (sep_symm (sep_grown (sep_symm HN10.out) O11.out.2.2.2 (fun j hj => (HA10.out.lt j hj).2)))
          case measure => simp [intOf]; omega
        · have hk2 : ps.take k = ps := List.take_of_length_le (by omega)
          rw [hk2] at HA_ HB_
          clear hk2
          obtain ⟨LA, hLA⟩ : ∃ LA, rA :: ps.map (·.d) = LA := ⟨_, rfl⟩
          obtain ⟨LB, hLB⟩ : ∃ LB, rB :: ps.map (fun p => headR p.o) = LB := ⟨_, rfl⟩
          have hll : ll LA = wd :: dataL ps := by rw [← hLA, HRR.out.1]; simp [ll, dataL]
          have hll2 : ll LB = wo.drop 32 :: headL ps := by rw [← hLB, HRR.out.2]; simp [ll, headL, headR]
          have hoks : ∀ W, Below w.heap.size w W → (∀ r ∈ LA, RowOk W r) ∧ (∀ r ∈ LB, RowOk W r) := by
            intro W hW
            have hpg : ∀ p ∈ ps, RowOk W p.d ∧ RowOk W p.o := fun p hp => by
              obtain ⟨i, hi, rfl⟩ := List.getElem_of_mem hp
              obtain ⟨_, _, _, _, h1, h2⟩ := (HR.out.below hW).2 i hi
              rw [List.getD_eq_getElem?_getD, List.getElem?_eq_getElem hi] at h1 h2
              exact ⟨h1, h2⟩
            refine ⟨fun r hr => ?_, fun r hr => ?_⟩
            · rw [← hLA] at hr
              rcases List.mem_cons.1 hr with rfl | hr
              · rw [HRR.out.1]
                have h_ := HA.out.below hW
                refine ⟨by rw [show (Row.l ⟨A, c, wd⟩) = wd from rfl, h_.1]; exact hc, ?_, YA.out⟩
                show ReadsInt W .u8 A wd.length wd
                rw [h_.1]; exact h_
              · obtain ⟨p, hp, rfl⟩ := List.mem_map.1 hr
                exact (hpg p hp).1
            · rw [← hLB] at hr
              rcases List.mem_cons.1 hr with rfl | hr
              · rw [HRR.out.2]
                have h_ := HCB.out W .u8 wo hd (HB.out.below hW)
                refine ⟨?_, ?_, fun x hx => YB.out x (List.drop_subset _ _ hx)⟩
                · show (wo.drop 32).length ≤ d32
                  rw [h_.1]; omega
                · show ReadsInt W .u8 B32 (wo.drop 32).length (wo.drop 32)
                  rw [h_.1]; exact h_
              · obtain ⟨p, hp, rfl⟩ := List.mem_map.1 hr
                exact headR_ok (hpg p hp).2
          rw [hLA] at HA_
          rw [hLB] at HB_
          have OKS := Lib.hid hoks
          clear hoks hLA hLB
          obtain ⟨Aa, na, ca, rfl⟩ := own_slice' HA_.out
          obtain ⟨Ab, nb, cb, rfl⟩ := own_slice' HB_.out
          have hna := own_n HA_.out rfl
          have hnb := own_n HB_.out rfl
          subst hna hnb
          go_wp2_with fail
          have hxr := RdRows.of (reads_k HA_.out rfl) (OKS.out wr (bl_seq BBz.out HT.out)).1
          have hx1 := rXor_any LA Aa ca wr hxr (by rw [hll]; have h_ := HM.out; omega)
          rw [hll] at hx1
          refine hx1.mono ?_
          rintro e w12 ⟨v12, rfl, hn12⟩
          obtain ⟨A9, c9, rfl, hc9⟩ := hn12.shape _ rfl
          have hrs : RdRows w12 Ab LB := (RdRows.of (reads_k HB_.out rfl) (OKS.out wr (bl_seq BBz.out HT.out)).2).below hn12.bel
          have hby1 : ∀ l ∈ ll LA, Byt l := fun l hl => by
            simp only [ll, List.mem_map] at hl
            obtain ⟨r, hr, rfl⟩ := hl
            exact ((OKS.out wr (bl_seq BBz.out HT.out)).1 r hr).2.2
          have hby2 : ∀ l ∈ ll LB, Byt l := fun l hl => by
            simp only [ll, List.mem_map] at hl
            obtain ⟨r, hr, rfl⟩ := hl
            exact ((OKS.out wr (bl_seq BBz.out HT.out)).2 r hr).2.2
          have hm32 : mlen (ll LB) ≤ 32 := mlen_bound fun l hl => by
            rw [hll2] at hl
            rcases List.mem_cons.1 hl with rfl | hl
            · rw [List.length_drop, HWL.out]; omega
            · simp only [headL, List.mem_map] at hl
              obtain ⟨p, hp, rfl⟩ := hl
              rw [List.length_take]; omega
          have hbd : Byt (missX wd ps) := by rw [missX, ← hll]; exact xorL_byt hby1
          have hbl : Byt (missY wo ps) := by
            rw [missY, ← hll2]
            intro x hx
            rcases List.mem_append.1 hx with hx | hx
            · exact xorL_byt hby2 x hx
            · obtain ⟨_, rfl⟩ := List.mem_replicate.1 hx; omega
          have hlB : (xorL (wo.drop 32 :: headL ps)).length ≤ 32 := by rw [xorL_length, ← hll2]; exact hm32
          have DD0 : OwnN w12 (w.heap.size + 2) A9 (missX wd ps).length c9 (missX wd ps) := (show OwnN w12 wr.heap.size A9 _ c9 _ from hn12.own rfl).base (by have h1_ := HT.out.size; have h2_ := ZS.out; omega)
          have T12 := Lib.hid (bl_seq (bl_seq BBz.out HT.out) hn12.bel)
          have R12 := Lib.hid (blk_below (blk_below RBz.out HT.out) hn12.bel)
          have D12 := Lib.hid DD0
          have S12 := Lib.hid hrs
          have HS12 := Lib.hid (show w.heap.size + 2 ≤ w12.heap.size by have h1_ := HT.out.size; have h2_ := ZS.out; have h3_ := hn12.bel.size; omega)
          have HBY := Lib.hid (And.intro hbd (And.intro hbl (And.intro hlB (And.intro hm32 hll2))))
          have hxe : xorL (wd :: dataL ps) = missX wd ps := rfl
          rw [hxe]
          obtain ⟨DL, hDL⟩ : ∃ DL, missX wd ps = DL := ⟨_, rfl⟩
          have HDL := Lib.hid hDL
          rw [hDL] at D12 ⊢
          clear DD0 hrs hxr hll hll2 hx1 hn12 hby1 hby2 hm32 hbd hbl hlB hxe hDL HA_ HN
          go_wp2_with fail
          have hx2 := rXor_any LB Ab cb w12 S12.out (by have h_ := HBY.out.2.2.2.1; omega)
          rw [HBY.out.2.2.2.2] at hx2
          refine hx2.mono ?_
          rintro e w13 ⟨v13, rfl, hn13⟩
          obtain ⟨A13, c13, rfl, hc13⟩ := hn13.shape _ rfl
          have T13 := Lib.hid (bl_seq T12.out hn13.bel)
          have R13 := Lib.hid (blk_below R12.out hn13.bel)
          have D13 := Lib.hid (D12.out.below hn13.bel)
          have N13 := Lib.hid hn13
          obtain ⟨BL, hBL⟩ : ∃ BL, xorL (wo.drop 32 :: headL ps) = BL := ⟨_, rfl⟩
          have HBL := Lib.hid hBL
          rw [hBL] at N13 ⊢
          clear hx2 hn13 hBL HB_ S12
          go_wp2_with fail
          refine (rZeros_any 32 w13 (by omega)).mono ?_
          rintro e w0_ ⟨v0_, rfl, hn0⟩
          obtain ⟨Az, cz, rfl, hcz⟩ := hn0.shape 32 (by simp)
          have N14 := Lib.hid (show OwnN w0_ w12.heap.size A13 BL.length c13 BL from (show OwnN w13 w12.heap.size A13 BL.length c13 BL from N13.out.own rfl).below hn0.bel)
          have R14_ := Lib.hid (hn0.read (by simp)).1
          have B14_ := Lib.hid (bl_seq N13.out.bel hn0.bel)
          clear hn0 hcz
          go_wp2_with (at_builtin; refine print_append_row (w0 := w12) w12.heap.size rfl (.tmp 60) (.tmp 61) 24 5 .u8 1 rfl Try.underlying24 info5' (by decide) (.slice A13 BL.length c13) BL (List.replicate 32 0) Az 32 cz rfl rfl ?aO ?aR ?aB ?aS ?aL ?_; (case aO => exact N14.out); (case aR => exact R14_.out); (case aB => exact B14_.out); (case aS => exact B14_.out.size); (case aL => have h_ := HBY.out.2.2.1; rw [HBL.out] at h_; omega); intro v14 w14 ho hb hg hat; obtain ⟨A14, n14, c14, rfl⟩ := own_slice' ho; have O14 := Lib.hid (And.intro ho (And.intro hb hg)); clear ho hb hg hat)
          have hn14 := own_eqn O14.out.1
          subst hn14
          have hOL : BL ++ List.replicate 32 (0 : Int) = missY wo ps := by rw [missY, HBL.out]
          have hYb := HBY.out.2.1
          have hXb := HBY.out.1
          have hbb := HMB.out
          rw [HDL.out] at hXb hbb
          rw [hOL] at O14 ⊢
          obtain ⟨OL, hOLe⟩ : ∃ OL, missY wo ps = OL := ⟨_, rfl⟩
          rw [hOLe] at O14 hYb hbb ⊢
          have HOL := Lib.hid hOLe
          have HBB := Lib.hid (And.intro hYb (And.intro hXb hbb))
          have P14 := Lib.hid ((show OwnN w14 w12.heap.size A14 OL.length c14 OL from O14.out.1).base (b' := w.heap.size + 2) (by have h1_ := HS12.out; omega))
          have D14 := Lib.hid (D12.out.below O14.out.2.1)
          have T14 := Lib.hid (bl_seq T12.out O14.out.2.1)
          have R14 := Lib.hid (blk_below R12.out O14.out.2.1)
          clear hOL hYb hXb hbb hOLe O14
          have hdl9 : DL.length ≤ 900000 := by have h_ := HM.out; rw [← xorL_length] at h_; rw [← HDL.out]; exact h_
          have bp : Below w14.heap.size w14 (w14.alloc (.cells #[.slice A9 DL.length c9, .slice A14 OL.length c14] 45)) := bl_alloc (Below.refl _ _) _
          refine (rOpen05 A14 A9 c14 DL.length c9 OL.length OL DL (w14.alloc (.cells #[.slice A9 DL.length c9, .slice A14 OL.length c14] 45)) (P14.out.below bp).reads.1 HBB.out.1 P14.out.reads.2 (D14.out.below bp).reads.1 HBB.out.2.1 D14.out.reads.2 hdl9).mono ?_
          rintro e w15 ⟨hb15, rfl⟩
          have GP15 := Lib.hid (blk_below (heap_alloc_new w14 (.cells #[.slice A9 DL.length c9, .slice A14 OL.length c14] 45)) hb15)
          have P15 := Lib.hid ((P14.out.below bp).below hb15)
          have D15 := Lib.hid ((D14.out.below bp).below hb15)
          have T15 := Lib.hid (bl_seq (bl_seq T14.out bp) hb15)
          have R15 := Lib.hid (blk_below (blk_below R14.out bp) hb15)
          clear hb15 bp hdl9 P14 D14 T14 R14 N13 T13 R13 D13 N14 R14_ B14_
          cases hob2 : openB DL OL
          case false =>
            replace HMB := Lib.hid (show missB wd wo ps = false by rw [HBB.out.2.2, hob2])
            have hR : openR DL OL = hd0 := openR_no hob2
            rw [hR]
            clear hR hob2
            simp only [hd64, hd0]
            have ZR := Lib.hid (R15.out)
            have ZB := Lib.hid (T15.out)
            have zc0 : w15.cell? ⟨w.heap.size + 1, 0, none⟩ = some (.slice none 0 0) := (blk_cell ZR.out 0).trans rfl
            have zc1 : w15.cell? ⟨w.heap.size + 1, 1, none⟩ = some (.slice none 0 0) := (blk_cell ZR.out 1).trans rfl
            have zf0 : w15.frozen? ⟨w.heap.size + 1, 0, none⟩ = false := blk_frozen ZR.out 0
            have zf1 : w15.frozen? ⟨w.heap.size + 1, 1, none⟩ = false := blk_frozen ZR.out 1
            go_wp2_with fail
            have hf := blk_put (blk_put ZR.out 0 (.slice none 0 0) (cs' := #[.slice none 0 0, .slice none 0 0]) (by simp)) 1 (.slice none 0 0) (cs' := #[.slice none 0 0, .slice none 0 0]) (by simp)
            have hbf := bl_set (bl_set ZB.out (p := ⟨w.heap.size + 1, 0, none⟩) (by simp) (.slice none 0 0)) (p := ⟨w.heap.size + 1, 1, none⟩) (by simp) (.slice none 0 0)
            obtain ⟨wzz, hwz⟩ : ∃ wzz, ((w15.setCell ⟨w.heap.size + 1, 0, none⟩ (.slice none 0 0)).setCell ⟨w.heap.size + 1, 1, none⟩ (.slice none 0 0)) = wzz := ⟨_, rfl⟩
            rw [hwz] at hf hbf ⊢
            have cc0 : wzz.cell? ⟨w.heap.size + 1, 0, none⟩ = some (.slice none 0 0) := (blk_cell hf 0).trans rfl
            have cc1 : wzz.cell? ⟨w.heap.size + 1, 1, none⟩ = some (.slice none 0 0) := (blk_cell hf 1).trans rfl
            refine bodyPost_ret (v := .tuple #[.agg #[.slice none 0 0, .slice none 0 0], .bool false]) (by simp [results, Try.results20, go_sem, cc0, cc1]) rfl ?_
            obtain ⟨m1, m2, m3⟩ := miss_no HMB.out
            rw [m1, m2, HMB.out]
            exact ⟨none, 0, none, 0, rfl, rows_nil _, rows_nil _, hbf⟩
          case true =>
            replace HMB := Lib.hid (show missB wd wo ps = true by rw [HBB.out.2.2, hob2])
            have hR : openR DL OL = openH OL := openR_yes hob2
            rw [hR]
            clear hR hob2
            generalize openH OL = HO
            simp only [hd64]
            have ZR := Lib.hid (R15.out)
            have ZB := Lib.hid (T15.out)
            have DA := D15
            have PA := P15
            have g0_ : w15.cell? ⟨w14.heap.size, 0, none⟩ = some (.slice A9 DL.length c9) := (blk_cell GP15.out 0).trans rfl
            have g1_ : w15.cell? ⟨w14.heap.size, 1, none⟩ = some (.slice A14 OL.length c14) := (blk_cell GP15.out 1).trans rfl
            have zc0 : w15.cell? ⟨w.heap.size + 1, 0, none⟩ = some (.slice none 0 0) := (blk_cell ZR.out 0).trans rfl
            have zc1 : w15.cell? ⟨w.heap.size + 1, 1, none⟩ = some (.slice none 0 0) := (blk_cell ZR.out 1).trans rfl
            have zf0 : w15.frozen? ⟨w.heap.size + 1, 0, none⟩ = false := blk_frozen ZR.out 0
            have zf1 : w15.frozen? ⟨w.heap.size + 1, 1, none⟩ = false := blk_frozen ZR.out 1
            go_wp2_with fail
            have hf := blk_put (blk_put ZR.out 0 (.slice A9 DL.length c9) (cs' := #[.slice A9 DL.length c9, .slice none 0 0]) (by simp)) 1 (.slice A14 OL.length c14) (cs' := #[.slice A9 DL.length c9, .slice A14 OL.length c14]) (by simp)
            have hbf := bl_set (bl_set ZB.out (p := ⟨w.heap.size + 1, 0, none⟩) (by simp) (.slice A9 DL.length c9)) (p := ⟨w.heap.size + 1, 1, none⟩) (by simp) (.slice A14 OL.length c14)
            have hdf := (DA.out.far (w.heap.size + 1) 0 (.slice A9 DL.length c9) (by omega)).far (w.heap.size + 1) 1 (.slice A14 OL.length c14) (by omega)
            have hpf := (PA.out.far (w.heap.size + 1) 0 (.slice A9 DL.length c9) (by omega)).far (w.heap.size + 1) 1 (.slice A14 OL.length c14) (by omega)
            obtain ⟨wf, hwf⟩ : ∃ wf, ((w15.setCell ⟨w.heap.size + 1, 0, none⟩ (.slice A9 DL.length c9)).setCell ⟨w.heap.size + 1, 1, none⟩ (.slice A14 OL.length c14)) = wf := ⟨_, rfl⟩
            rw [hwf] at hf hbf hdf hpf ⊢
            have cc0 : wf.cell? ⟨w.heap.size + 1, 0, none⟩ = some (.slice A9 DL.length c9) := (blk_cell hf 0).trans rfl
            have cc1 : wf.cell? ⟨w.heap.size + 1, 1, none⟩ = some (.slice A14 OL.length c14) := (blk_cell hf 1).trans rfl
            refine bodyPost_ret (v := .tuple #[.agg #[.slice A9 DL.length c9, .slice A14 OL.length c14], .bool true]) (by simp [results, Try.results20, go_sem, cc0, cc1]) rfl ?_
            obtain ⟨m1, m2, m3⟩ := miss_yes HMB.out
            rw [m1, m2, HMB.out, HDL.out, HOL.out]
            exact ⟨A9, c9, A14, c14, rfl, hdf.row HBB.out.2.1, hpf.row HBB.out.1, hbf⟩
end Go.Proofs.Ytkbjndfmbimjiaa
