import Derived.Test.YtkbjndfmbimjiaaPgs
import Derived.Test.YtkbjndfmbimjiaaRopn59
/-! gabionref09.head, gabionref09.Of. -/
set_option linter.unusedVariables false
set_option linter.unusedSimpArgs false
namespace Go.Proofs.Ytkbjndfmbimjiaa
open Go.RowKit Go.Proofs.YtkbjndfmbimjiaaW.PrintWords Go.Proofs.YtkbjndfmbimjiaaW.PrintLast
def Pof9R.T8 : Bool × List (List Nat × List Nat) := (true, [([], []), ([], []), ([], []), ([], []), ([3], [3]), ([1, 2, 4, 4], [1, 2, 4]), ([0, 5], [0, 5]), ([6, 5, 0, 1, 2, 3, 4, 5, 6], [6])])
def Pof9R.B8 : List Nat := [0, 0, 0, 0, 8, 30, 63, 127]
theorem Pof9R.tab8 : rtab .any (opsOf Try.f16 8) = Pof9R.T8 := by kernel_rfl
theorem Pof9R.bits8 : waitsOk Pof9R.T8.2 Pof9R.B8 = true := by kernel_rfl
set_option maxHeartbeats 4000000 in
set_option maxRecDepth 100000 in
theorem rhead_any (r o : Row) (w : World) (hd : o.l.length ≤ o.c) (hm : o.l.length ≤ 9223372036854775807) : Calls Try.prog 26 #[.agg #[encR r, encR o]] w fun e w' => e = .returned (encR (headR o)) ∧ Below w.heap.size w w' := by
  have hb_ : (w.alloc (.cells #[encR r, encR o] 45)).heap[w.heap.size]? = some (.cells #[encR r, encR o] 45 (0, 0)) := heap_alloc_new _ _
  have y1 : (w.alloc (.cells #[encR r, encR o] 45)).cell? ⟨w.heap.size, 1, none⟩ = some (.slice o.A o.l.length o.c) := (blk_cell hb_ 1).trans rfl
  have hE : encR (headR o) = .slice o.A (min 32 o.l.length) o.c := by simp [encR, headR, List.length_take]
  rw [hE]
  clear hb_ hE
  by_cases h32 : (32 : Int) < (o.l.length : Int)
  · go_enter Try.func26, Try.ntmps26
    go_wp2_with fail
    go_ret
    exact ⟨by rw [Nat.min_eq_left (by omega)]; rfl, bl_alloc (Below.refl _ _) _⟩
  · go_enter Try.func26, Try.ntmps26
    go_wp2_with fail
    go_ret
    exact ⟨by rw [Nat.min_eq_right (by omega)]; rfl, bl_alloc (Below.refl _ _) _⟩
set_option maxHeartbeats 4000000 in
set_option maxRecDepth 100000 in
theorem rOf_any (h : Hd) (ps : List Pg) (A : Option Addr) (c : Nat) (w : World) (ho : h.ok) (hp : RdPages w A ps) (hm : mlen (dataL ps) ≤ 900000) (hps : ps.length ≤ 1000) :
    Calls Try.prog 16 #[.agg (hd64 h), .slice A ps.length c] w fun e w' => ∃ A1 c1 A2 c2, e = .returned (.agg #[.slice A1 (xorL (dataL ps)).length c1, .slice A2 64 c2]) ∧ OwnN w' (w.heap.size + 2) A1 (xorL (dataL ps)).length c1 (xorL (dataL ps)) ∧ OwnN w' (w.heap.size + 2) A2 64 c2 (sealL h (xorL (dataL ps)) (xorL (headL ps))) ∧ Below w.heap.size w w' := by
  have HR := Lib.hid hp
  have HO := Lib.hid ho
  have HM := Lib.hid hm
  have hlen := hp.1
  clear hp ho hm
  have hb0 : ((w.alloc (.cells (hd64 h) 48)).alloc (.cells #[.slice none 0 0, .slice none 0 0] 45)).heap[w.heap.size]? = some (.cells #[.int .i64 h.k, .int .i64 h.e, .int .i64 h.b, .int .i64 h.i, .int .i64 h.c, .int .i64 h.l, .int .i64 h.m] 48 (0, 0)) := blk_alloc (heap_alloc_new _ _) _
  have rb0 : ((w.alloc (.cells (hd64 h) 48)).alloc (.cells #[.slice none 0 0, .slice none 0 0] 45)).heap[w.heap.size + 1]? = some (.cells #[.slice none 0 0, .slice none 0 0] 45 (0, 0)) := by
    have h_ := heap_alloc_new (w.alloc (.cells (hd64 h) 48)) (.cells #[.slice none 0 0, .slice none 0 0] 45)
    simp only [World.size_alloc] at h_
    exact h_
  have tb0 : Below w.heap.size w ((w.alloc (.cells (hd64 h) 48)).alloc (.cells #[.slice none 0 0, .slice none 0 0] 45)) := bl_alloc (bl_alloc (Below.refl _ _) _) _
  have H0 := Lib.hid (And.intro hb0 (And.intro rb0 tb0))
  clear hb0 rb0 tb0
  go_enter Try.func16, Try.ntmps16
  obtain ⟨wE, hwE⟩ : ∃ wE, ((w.alloc (.cells (hd64 h) 48)).alloc (.cells #[.slice none 0 0, .slice none 0 0] 45)) = wE := ⟨_, rfl⟩
  have hzE : wE.heap.size = w.heap.size + 2 := by rw [← hwE]; simp
  rw [hwE] at H0
  go_wp2_with fail
  try rw [hwE]
  clear hwE
  have ZE := Lib.hid hzE
  clear hzE
  go_loopw [5, 6, 7] (fun a b i wr => ∃ k : Nat, k ≤ ps.length ∧ i = .int .i64 (k : Int) ∧ Hid (wr.ownsRow wE.heap.size 24 1 a ((ps.take k).map (·.d)).length (encs encR ((ps.take k).map (·.d)))) ∧ Hid (wr.ownsRow wE.heap.size 24 1 b ((ps.take k).map (fun p => headR p.o)).length (encs encR ((ps.take k).map (fun p => headR p.o)))) ∧ Hid (a.ownBlock = none ∨ a.ownBlock ≠ b.ownBlock) ∧ Hid (Below wE.heap.size wE wr)) (fun _ _ i _ => ps.length - (intOf i).toNat)
  case atStart => exact ⟨0, Nat.zero_le _, rfl, Lib.hid (own_nil _ _ _ _), Lib.hid (own_nil _ _ _ _), Lib.hid (.inl rfl), Lib.hid (Below.refl _ _)⟩
  case round =>
    obtain ⟨k, hk, rfl, HA, HB, HN, HT⟩ := hrel
    by_cases hlt : k < ps.length
    · obtain ⟨ad, he, hc1_, hc2_, hr1_, hr2_⟩ := HR.out.2 k hlt
      have hBw := bl_seq H0.out.2.2 HT.out
      have hc1 := pw_cell_below hBw hc1_
      have hc2 := pw_cell_below hBw hc2_
      have hr1 := hr1_.below hBw
      have hr2 := hr2_.below hBw
      subst he
      have hs1 : (ps.take (k + 1)).map (·.d) = (ps.take k).map (·.d) ++ [(ps.getD k default).d] := by
        rw [List.take_succ_eq_append_getElem hlt, List.map_append, List.getD_eq_getElem?_getD, List.getElem?_eq_getElem hlt]; rfl
      have hs2 : (ps.take (k + 1)).map (fun p => headR p.o) = (ps.take k).map (fun p => headR p.o) ++ [headR (ps.getD k default).o] := by
        rw [List.take_succ_eq_append_getElem hlt, List.map_append, List.getD_eq_getElem?_getD, List.getElem?_eq_getElem hlt]; rfl
      obtain ⟨p0, hp0⟩ : ∃ p0, ps.getD k default = p0 := ⟨_, rfl⟩
      rw [hp0] at hc1 hc2 hc1_ hc2_ hr1 hr2 hs1 hs2
      have HS := Lib.hid (And.intro hs1 (And.intro hs2 (And.intro hr1 hr2)))
      simp only [encR] at hc1 hc2 hc1_ hc2_
      have HC := Lib.hid (And.intro hc1_ hc2_)
      clear hc1_ hc2_ hr1_ hr2_ hBw
      have hki : ((k : Int) * 2).toNat = k * 2 := by omega
      have hl1 : ((ps.take k).map (·.d)).length = k := by simp; omega
      have hl2 : ((ps.take k).map (fun p => headR p.o)).length = k := by simp; omega
      have HL := Lib.hid (And.intro hl1 hl2)
      clear hs1 hs2 hr1 hr2 hp0 hl1 hl2
      obtain ⟨Aa, na, ca, rfl⟩ := own_slice' HA.out
      obtain ⟨Ab, nb, cb, rfl⟩ := own_slice' HB.out
      go_wp2_with (at_builtin; refine print_append_of (w0 := wE) encR wE.heap.size rfl (.tmp 15) (.tmp 21) 22 24 (.slice none 0 0) 24 rfl Try.underlying22 infoR rfl (by decide) _ ((ps.take k).map (·.d)) (p0.d) rfl (by first | rfl | (simp [Act.eval]; done) | (simp only [World.size_alloc]; rfl)) rfl ?aO ?aB ?aS ?aL ?_; (case aO => exact HA.out); (case aB => exact HT.out); (case aS => exact HT.out.size); (case aL => simp <;> omega); intro v9 w9 ho hb hg hat; have y0 : w9.cell? (ad.add (k * 2)) = some (.slice p0.d.A p0.d.l.length p0.d.c) := pw_cell_below (bl_seq H0.out.2.2 hb) HC.out.1; have y1 : w9.cell? ⟨(ad.add (k * 2)).block, (ad.add (k * 2)).off + 1, none⟩ = some (.slice p0.o.A p0.o.l.length p0.o.c) := pw_cell_below (bl_seq H0.out.2.2 hb) HC.out.2; have O9 := Lib.hid (And.intro ho (And.intro hb (And.intro hg hat))); clear ho hb hg hat)
      refine (rhead_any p0.d p0.o w9 HS.out.2.2.2.1 HS.out.2.2.2.2.1.2.1).mono ?_
      rintro e w10 ⟨he10, hb10⟩
      rw [show encR (headR p0.o) = .slice (headR p0.o).A (headR p0.o).l.length (headR p0.o).c from rfl] at he10
      subst he10
      have ha10 : w10.ownsRow wE.heap.size 24 1 v9 ((ps.take k).map (·.d) ++ [p0.d]).length (encs encR ((ps.take k).map (·.d) ++ [p0.d])) := own_move O9.out.1 fun j hj => hb10.block j (O9.out.1.lt j hj).2
      have hb9 : w9.ownsRow wE.heap.size 24 1 (.slice Ab nb cb) ((ps.take k).map (fun p => headR p.o)).length (encs encR ((ps.take k).map (fun p => headR p.o))) := own_other HB.out O9.out.2.2.1 (sep_symm HN.out)
      have hb10_ : w10.ownsRow wE.heap.size 24 1 (.slice Ab nb cb) ((ps.take k).map (fun p => headR p.o)).length (encs encR ((ps.take k).map (fun p => headR p.o))) := own_move hb9 fun j hj => hb10.block j (hb9.lt j hj).2
      have hn10 := sep_grown HN.out O9.out.2.2.2 (fun j hj => by have h_ := (HB.out.lt j hj).2; omega)
      have HA10 := Lib.hid ha10
      have HB10 := Lib.hid hb10_
      have HN10 := Lib.hid hn10
      have HT10 := Lib.hid (O9.out.2.1.trans (hb10.mono O9.out.2.1.size))
      clear ha10 hb9 hb10_ hn10 hb10 HA HB HN HT y0 y1 O9
      go_wp2_with (at_builtin; refine print_append_of (w0 := wE) encR wE.heap.size rfl (.tmp 23) (.tmp 29) 22 24 (.slice none 0 0) 24 rfl Try.underlying22 infoR rfl (by decide) _ ((ps.take k).map (fun p => headR p.o)) (headR p0.o) rfl (by first | rfl | (simp [Act.eval]; done) | (simp only [World.size_alloc]; rfl)) rfl ?aO ?aB ?aS ?aL ?_; (case aO => exact HB10.out); (case aB => exact HT10.out); (case aS => exact HT10.out.size); (case aL => simp <;> omega); intro v11 w11 ho hb hg hat; have O11 := Lib.hid (And.intro ho (And.intro hb (And.intro hg hat))); clear ho hb hg hat)
      go_roundw
      case rel =>
        refine ⟨k + 1, by omega, by go_num, ?_, ?_, ?_, Lib.hid O11.out.2.1⟩
        · rw [HS.out.1]; exact Lib.hid (own_other HA10.out O11.out.2.2.1 HN10.out)
        · rw [HS.out.2.1]; exact Lib.hid O11.out.1
        · exact Lib.hid (sep_symm (sep_grown (sep_symm HN10.out) O11.out.2.2.2 (fun j hj => (HA10.out.lt j hj).2)))
      case measure => simp [intOf]; omega
    · have hk2 : ps.take k = ps := List.take_of_length_le (by omega)
      rw [hk2] at HA HB
      obtain ⟨Aa, na, ca, rfl⟩ := own_slice' HA.out
      obtain ⟨Ab, nb, cb, rfl⟩ := own_slice' HB.out
      have hna := own_n HA.out rfl
      have hnb := own_n HB.out rfl
      subst hna hnb
      have OKS := Lib.hid (show ∀ W, Below w.heap.size w W → (∀ r ∈ ps.map (·.d), RowOk W r) ∧ (∀ r ∈ ps.map (fun p => headR p.o), RowOk W r) from fun W hW => ⟨fun r hr => by
          obtain ⟨p, hp, rfl⟩ := List.mem_map.1 hr
          obtain ⟨i, hi, rfl⟩ := List.getElem_of_mem hp
          obtain ⟨_, _, _, _, h1, _⟩ := (HR.out.below hW).2 i hi
          rwa [List.getD_eq_getElem?_getD, List.getElem?_eq_getElem hi] at h1, fun r hr => by
          obtain ⟨p, hp, rfl⟩ := List.mem_map.1 hr
          obtain ⟨i, hi, rfl⟩ := List.getElem_of_mem hp
          obtain ⟨_, _, _, _, _, h1⟩ := (HR.out.below hW).2 i hi
          rw [List.getD_eq_getElem?_getD, List.getElem?_eq_getElem hi] at h1
          exact headR_ok h1⟩)
      clear hk2
      go_wp2_with fail
      have hxr := RdRows.of (reads_k HA.out rfl) (OKS.out wr (bl_seq H0.out.2.2 HT.out)).1
      have hll : ll (ps.map (·.d)) = dataL ps := by simp [ll, dataL]
      have hll2 : ll (ps.map (fun p => headR p.o)) = headL ps := by simp [ll, headL, headR]
      have hlm : (ps.map (·.d)).length = ps.length := by simp
      have hlm2 : (ps.map (fun p => headR p.o)).length = ps.length := by simp
      have hx1 := rXor_any (ps.map (·.d)) Aa ca wr hxr (by rw [hll]; have h_ := HM.out; omega)
      rw [hlm, hll] at hx1
      refine hx1.mono ?_
      rintro e w12 ⟨v12, rfl, hn12⟩
      obtain ⟨A9, c9, rfl, hc9⟩ := hn12.shape _ rfl
      have hrs : RdRows w12 Ab (ps.map (fun p => headR p.o)) := (RdRows.of (reads_k HB.out rfl) (OKS.out wr (bl_seq H0.out.2.2 HT.out)).2).below hn12.bel
      have hby1 : ∀ l ∈ dataL ps, Byt l := fun l hl => by
        simp only [dataL, List.mem_map] at hl
        obtain ⟨p, hp, rfl⟩ := hl
        exact ((OKS.out wr (bl_seq H0.out.2.2 HT.out)).1 p.d (List.mem_map.2 ⟨p, hp, rfl⟩)).2.2
      have hby2 : ∀ l ∈ headL ps, Byt l := fun l hl => by
        simp only [headL, List.mem_map] at hl
        obtain ⟨p, hp, rfl⟩ := hl
        exact ((OKS.out wr (bl_seq H0.out.2.2 HT.out)).2 (headR p.o) (List.mem_map.2 ⟨p, hp, rfl⟩)).2.2
      have hm32 : mlen (headL ps) ≤ 32 := mlen_bound fun l hl => by
        simp only [headL, List.mem_map] at hl
        obtain ⟨p, hp, rfl⟩ := hl
        rw [List.length_take]; omega
      have hbd := xorL_byt hby1
      have hbl := xorL_byt hby2
      have hlD : (xorL (dataL ps)).length ≤ 900000 := by rw [xorL_length]; exact HM.out
      have DD0 : OwnN w12 (w.heap.size + 2) A9 (xorL (dataL ps)).length c9 (xorL (dataL ps)) := (show OwnN w12 wr.heap.size A9 _ c9 _ from hn12.own rfl).base (by have h1_ := HT.out.size; have h2_ := ZE.out; omega)
      have BB0 := bl_seq (bl_seq H0.out.2.2 HT.out) hn12.bel
      have HB0 := blk_below (blk_below H0.out.1 HT.out) hn12.bel
      have RB0 := blk_below (blk_below H0.out.2.1 HT.out) hn12.bel
      generalize hDL : xorL (dataL ps) = DL at hbd hlD DD0 ⊢
      obtain ⟨BL, hBL⟩ : ∃ BL, xorL (headL ps) = BL := ⟨_, rfl⟩
      rw [hBL] at hbl
      have HDL := Lib.hid (And.intro hDL hBL)
      have XO : Hid (∀ W, RdRows W Ab (ps.map (fun p => headR p.o)) → Calls Try.prog 12 #[.slice Ab ps.length cb] W fun e W' => ∃ A' c', e = .returned (.slice A' BL.length c') ∧ OwnN W' W.heap.size A' BL.length c' BL ∧ Below W.heap.size W W') := Lib.hid (fun W hW => by
        have h_ := rXor_any (ps.map (fun p => headR p.o)) Ab cb W hW (by rw [hll2]; omega)
        rw [hlm2, hll2, hBL] at h_
        refine h_.mono ?_
        rintro e W' ⟨v, rfl, hn⟩
        obtain ⟨A', c', rfl, _⟩ := hn.shape _ rfl
        exact ⟨A', c', rfl, hn.own rfl, hn.bel⟩)
      have SE : Hid (∀ W A4 c4, OwnN W (w.heap.size + 2) A9 DL.length c9 DL → OwnN W 0 A4 BL.length c4 BL → Calls Try.prog 21 #[.agg #[.int .i64 h.k, .int .i64 h.e, .int .i64 h.b, .int .i64 h.i, .int .i64 h.c, .int .i64 h.l, .int .i64 h.m], .slice A9 DL.length c9, .slice A4 BL.length c4] W fun e W' => ∃ A' c', e = .returned (.slice A' 64 c') ∧ OwnN W' W.heap.size A' 64 c' (sealL h DL BL) ∧ Below W.heap.size W W') := Lib.hid (fun W A4 c4 h1 h2 => by
        refine (rSeal05 h A9 A4 c9 c4 DL.length BL.length DL BL W HO.out h1.reads.1 h1.reads.2 hbd (by omega) h2.reads.1 h2.reads.2 hbl).mono ?_
        rintro e W' ⟨v, rfl, hn⟩
        obtain ⟨A', c', rfl, _⟩ := hn.shape 64 (sealL_length _ _ _)
        exact ⟨A', c', rfl, hn.own (sealL_length _ _ _), hn.bel⟩)
      obtain ⟨rsB, hrsB⟩ : ∃ rsB, ps.map (fun p => headR p.o) = rsB := ⟨_, rfl⟩
      rw [hrsB] at hrs XO
      have BB := Lib.hid BB0
      have HB_ := Lib.hid HB0
      have RB := Lib.hid RB0
      have DD := Lib.hid DD0
      have RS := Lib.hid hrs
      clear BB0 HB0 RB0 DD0 hrs hxr hll hll2 hlm hlm2 hx1 hn12 hby1 hby2 hm32 hbd hbl hlD hDL hBL hrsB OKS HA HN HT HB hc9
      have HB := HB_
      clear HB_
      obtain ⟨A6, hA6⟩ : ∃ A6, Ab = A6 := ⟨_, rfl⟩
      obtain ⟨c6, hc6⟩ : ∃ c6, cb = c6 := ⟨_, rfl⟩
      obtain ⟨n6, hn6⟩ : ∃ n6, ps.length = n6 := ⟨_, rfl⟩
      rw [hA6] at RS XO ⊢
      rw [hc6] at XO ⊢
      rw [hn6] at XO
      clear hA6 hc6
      go_wp2_with fail
      obtain ⟨wy, hwy⟩ : ∃ wy, wy = w12 := ⟨_, rfl⟩
      rw [← hwy] at BB HB RB DD RS ⊢
      clear hwy
      rw [hn6] at *
      refine start_ (n := 8) (S := fun w' => True) (ds := []) #[false, false, false, false, false, false, false, false] (by kernel_rfl) rfl rfl trivial (fun hHeld => ?_)
      refine with_tabW Pof9R.tab8 Pof9R.bits8 (fun HT_ HW_ => ?_)
      have BB := Lib.hid (bl_drew BB.out)
      have HB := Lib.hid (show wy.drew.heap[w.heap.size]? = _ from HB.out)
      have RB := Lib.hid (show wy.drew.heap[w.heap.size + 1]? = _ from RB.out)
      have DD := Lib.hid (show OwnN wy.drew _ _ _ _ _ from DD.out)
      have RS := Lib.hid (show RdRows wy.drew _ _ from RS.out)
      generalize wy.drew = wz at BB HB RB DD RS hHeld ⊢
      refine pure_ (i := 0) (N := some 33) (v := ?_) (a' := ?_) #[true, false, false, false, false, false, false, false] rfl rfl (any_of HT_.out (by kernel_rfl)) (fun _ _ _ h => h) (Or.inl ⟨by rfl, ?_⟩) ?_ ?_
      rotate_left
      · intro w'
        go_simp
        with_reducible rfl
      rotate_left
      · simp only [Act.put, List.setIfInBounds_toArray, List.set_cons_zero, List.set_cons_succ, i64_w, i32_w]
        rfl
      refine pure_ (i := 2) (N := some 35) (v := ?_) (a' := ?_) #[true, false, true, false, false, false, false, false] rfl rfl (any_of HT_.out (by kernel_rfl)) (fun _ _ _ h => h) (Or.inl ⟨by rfl, ?_⟩) ?_ ?_
      rotate_left
      · intro w'
        go_simp
        with_reducible rfl
      rotate_left
      · simp only [Act.put, List.setIfInBounds_toArray, List.set_cons_zero, List.set_cons_succ, i64_w, i32_w]
        rfl
      refine pure_ (i := 3) (N := some 36) (v := ?_) (a' := ?_) #[true, false, true, true, false, false, false, false] rfl rfl (any_of HT_.out (by kernel_rfl)) (fun _ _ _ h => h) (Or.inl ⟨by rfl, ?_⟩) ?_ ?_
      rotate_left
      · intro w'
        go_simp
        with_reducible rfl
      rotate_left
      · simp only [Act.put, List.setIfInBounds_toArray, List.set_cons_zero, List.set_cons_succ, i64_w, i32_w]
        rfl
      refine inv_at [1, 4, 5, 6, 7] (fun a0_ b a w' => ∃ (A4 : Option Addr) (c4 : Nat) (A5 : Option Addr) (c5 : Nat) (m4_ : Value) (m5_ : Value) (m6_ : Value), a = putSel a0_ b [(1, 34, .agg #[.int .i64 h.k, .int .i64 h.e, .int .i64 h.b, .int .i64 h.i, .int .i64 h.c, .int .i64 h.l, .int .i64 h.m]), (4, 37, m4_), (5, 38, m5_), (6, 39, m6_)] ∧ (Below w.heap.size w w') ∧ (w'.heap[w.heap.size]? = some (.cells #[.int .i64 h.k, .int .i64 h.e, .int .i64 h.b, .int .i64 h.i, .int .i64 h.c, .int .i64 h.l, .int .i64 h.m] 48 (0, 0))) ∧ (b 7 = false → w'.heap[w.heap.size + 1]? = some (.cells #[.slice none 0 0, .slice none 0 0] 45 (0, 0))) ∧ (OwnN w' (w.heap.size + 2) A9 DL.length c9 DL) ∧ (b 4 = false → RdRows w' A6 rsB) ∧ (b 4 = true → b 5 = false → OwnN w' 0 A4 BL.length c4 BL) ∧ (b 5 = true → OwnN w' (w.heap.size + 2) A5 64 c5 (sealL h DL BL)) ∧ (b 7 = true → w'.heap[w.heap.size + 1]? = some (.cells #[.slice A9 DL.length c9, .slice A5 64 c5] 45 (0, 0))) ∧ (b 4 = true → (m4_ : Value) = .slice A4 BL.length c4) ∧ (b 5 = true → (m5_ : Value) = .slice A5 64 c5) ∧ (b 6 = true → (m6_ : Value) = .agg #[.slice A9 DL.length c9, .slice A5 64 c5])) HT_.out HW_.out (by kernel_rfl) (by kernel_rfl) ?_ ?_ ?_
      · exact ⟨none, 0, none, 0, .bool false, .bool false, .bool false, by simp only [putSel, Bool.false_eq_true, if_false], BB.out, HB.out, fun _ => RB.out, DD.out, fun _ => RS.out, fun h_ => absurd h_ (by decide), fun h_ => absurd h_ (by decide), fun h_ => absurd h_ (by decide), fun h_ => absurd h_ (by decide), fun h_ => absurd h_ (by decide), fun h_ => absurd h_ (by decide)⟩
      · skip
        clear BB DD HB RB RS
        refine steps_cons ?_ ?_
        · rintro b a w' ⟨A4, c4, A5, c5, m4_, m5_, m6_, ha, Q_BB, Q_HB, Q_RB, Q_DD, Q_RS, Q_B4, Q_S5, Q_FIN, Q_X4_, Q_X5_, Q_X6_⟩ hb_ hon hoff
          refine ⟨_, rfl, fun K hK => ?_⟩
          have e2 : a.tmps[2]? = some (.pointer (some ⟨w.heap.size, 0, none⟩)) := by rw [ha]; exact (putSel_off rfl).trans rfl
          replace ha := Aside0.mk ha
          have BB := Aside0.mk Q_BB
          have HB := Aside0.mk Q_HB
          have RB := Aside0.mk (Q_RB (hoff 7 (by kernel_rfl)))
          have DD := Aside0.mk Q_DD
          have hc0_ : w'.cell? ⟨w.heap.size, 0, none⟩ = some (.int .i64 h.k) := (blk_cell HB.out 0).trans rfl
          have hc1_ : w'.cell? ⟨w.heap.size, 1, none⟩ = some (.int .i64 h.e) := (blk_cell HB.out 1).trans rfl
          have hc2_ : w'.cell? ⟨w.heap.size, 2, none⟩ = some (.int .i64 h.b) := (blk_cell HB.out 2).trans rfl
          have hc3_ : w'.cell? ⟨w.heap.size, 3, none⟩ = some (.int .i64 h.i) := (blk_cell HB.out 3).trans rfl
          have hc4_ : w'.cell? ⟨w.heap.size, 4, none⟩ = some (.int .i64 h.c) := (blk_cell HB.out 4).trans rfl
          have hc5_ : w'.cell? ⟨w.heap.size, 5, none⟩ = some (.int .i64 h.l) := (blk_cell HB.out 5).trans rfl
          have hc6_ : w'.cell? ⟨w.heap.size, 6, none⟩ = some (.int .i64 h.m) := (blk_cell HB.out 6).trans rfl
          refine value_ (w1 := w') (v := .agg #[.int .i64 h.k, .int .i64 h.e, .int .i64 h.b, .int .i64 h.i, .int .i64 h.c, .int .i64 h.l, .int .i64 h.m]) (by rfl) rfl ?_ ?_
          · go_simp
            (try simp only [i64_w])
            try rfl
          refine hK.out _ _ ⟨A4, c4, A5, c5, m4_, m5_, m6_, (by rw [ha.out]; exact putSel_upk 0 hb_ rfl rfl rfl), Q_BB, Q_HB, Q_RB, Q_DD, Q_RS, Q_B4, fun h0_ => absurd ((hoff 5 (by kernel_rfl)).symm.trans h0_) (by decide), fun h0_ => absurd ((hoff 7 (by kernel_rfl)).symm.trans h0_) (by decide), Q_X4_, fun h0_ => absurd ((hoff 5 (by kernel_rfl)).symm.trans h0_) (by decide), fun h0_ => absurd ((hoff 6 (by kernel_rfl)).symm.trans h0_) (by decide)⟩
        refine steps_cons ?_ ?_
        · rintro b a w' ⟨A4, c4, A5, c5, m4_, m5_, m6_, ha, Q_BB, Q_HB, Q_RB, Q_DD, Q_RS, Q_B4, Q_S5, Q_FIN, Q_X4_, Q_X5_, Q_X6_⟩ hb_ hon hoff
          refine ⟨_, rfl, fun K hK => ?_⟩
          have e36 : a.tmps[36]? = some (.slice A6 n6 c6) := by rw [ha]; exact (putSel_off rfl).trans rfl
          replace ha := Aside0.mk ha
          have BB := Aside0.mk Q_BB
          have HB := Aside0.mk Q_HB
          have RB := Aside0.mk (Q_RB (hoff 7 (by kernel_rfl)))
          have DD := Aside0.mk Q_DD
          have RS := Aside0.mk (Q_RS hb_)
          refine goes_ Try.func12 (by kernel_rfl) rfl #[.slice A6 n6 c6] (by rfl) rfl rfl (by first | (simp only [List.map_toArray, List.map_cons, List.map_nil, Act.eval, Array.getD_eq_getD_getElem?, Option.getD_some, e36]; done) | (simp only [List.map_toArray, List.map_cons, List.map_nil, Act.eval, Array.getD_eq_getD_getElem?, Option.getD_some, e36]; rfl)) ?_
          refine (XO.out w' RS.out).mono ?_
          rintro e w1 ⟨A_, c_, rfl, g1, g2⟩
          refine ⟨_, rfl, ?_⟩
          refine hK.out _ _ ⟨A_, c_, A5, c5, (.slice A_ BL.length c_), m5_, m6_, (by rw [ha.out]; exact putSel_upk 1 hb_ rfl rfl rfl), bl_seq BB.out g2, blk_below HB.out g2, fun _ => blk_below RB.out g2, DD.out.below g2, fun h0_ => absurd ((up_self b 4).symm.trans h0_) (by decide), fun _ _ => g1.base (Nat.zero_le _), fun h0_ => absurd ((hoff 5 (by kernel_rfl)).symm.trans h0_) (by decide), fun h0_ => absurd ((hoff 7 (by kernel_rfl)).symm.trans h0_) (by decide), fun _ => rfl, fun h0_ => absurd ((hoff 5 (by kernel_rfl)).symm.trans h0_) (by decide), fun h0_ => absurd ((hoff 6 (by kernel_rfl)).symm.trans h0_) (by decide)⟩
        refine steps_cons ?_ ?_
        · rintro b a w' ⟨A4, c4, A5, c5, m4_, m5_, m6_, ha, Q_BB, Q_HB, Q_RB, Q_DD, Q_RS, Q_B4, Q_S5, Q_FIN, Q_X4_, Q_X5_, Q_X6_⟩ hb_ hon hoff
          refine ⟨_, rfl, fun K hK => ?_⟩
          have e34 : a.tmps[34]? = some (.agg #[.int .i64 h.k, .int .i64 h.e, .int .i64 h.b, .int .i64 h.i, .int .i64 h.c, .int .i64 h.l, .int .i64 h.m]) := by rw [ha]; exact putSel_on (e := (1, 34, .agg #[.int .i64 h.k, .int .i64 h.e, .int .i64 h.b, .int .i64 h.i, .int .i64 h.c, .int .i64 h.l, .int .i64 h.m])) 0 rfl rfl (hon 1 (by kernel_rfl)) rfl
          have e35 : a.tmps[35]? = some (.slice A9 DL.length c9) := by rw [ha]; exact (putSel_off rfl).trans rfl
          have e37 : a.tmps[37]? = some (m4_) := by rw [ha]; exact putSel_on (e := (4, 37, m4_)) 1 rfl rfl (hon 4 (by kernel_rfl)) rfl
          rw [Q_X4_ (hon 4 (by kernel_rfl))] at e37
          replace ha := Aside0.mk ha
          have BB := Aside0.mk Q_BB
          have HB := Aside0.mk Q_HB
          have RB := Aside0.mk (Q_RB (hoff 7 (by kernel_rfl)))
          have DD := Aside0.mk Q_DD
          have B4 := Aside0.mk (Q_B4 (hon 4 (by kernel_rfl)) hb_)
          refine goes_ Try.func21 (by kernel_rfl) rfl #[.agg #[.int .i64 h.k, .int .i64 h.e, .int .i64 h.b, .int .i64 h.i, .int .i64 h.c, .int .i64 h.l, .int .i64 h.m], .slice A9 DL.length c9, .slice A4 BL.length c4] (by rfl) rfl rfl (by first | (simp only [List.map_toArray, List.map_cons, List.map_nil, Act.eval, Array.getD_eq_getD_getElem?, Option.getD_some, e34, e35, e37]; done) | (simp only [List.map_toArray, List.map_cons, List.map_nil, Act.eval, Array.getD_eq_getD_getElem?, Option.getD_some, e34, e35, e37]; rfl)) ?_
          refine (SE.out w' A4 c4 DD.out B4.out).mono ?_
          rintro e w1 ⟨A_, c_, rfl, g1, g2⟩
          refine ⟨_, rfl, ?_⟩
          refine hK.out _ _ ⟨A4, c4, A_, c_, m4_, (.slice A_ 64 c_), m6_, (by rw [ha.out]; exact putSel_upk 2 hb_ rfl rfl rfl), bl_seq BB.out g2, blk_below HB.out g2, fun _ => blk_below RB.out g2, DD.out.below g2, fun h0_ => absurd ((hon 4 (by kernel_rfl)).symm.trans h0_) (by decide), fun _ h1_ => absurd ((up_self b 5).symm.trans h1_) (by decide), fun _ => g1.base (by have h_ := blk_lt RB.out; omega), fun h0_ => absurd ((hoff 7 (by kernel_rfl)).symm.trans h0_) (by decide), Q_X4_, fun _ => rfl, fun h0_ => absurd ((hoff 6 (by kernel_rfl)).symm.trans h0_) (by decide)⟩
        refine steps_cons ?_ ?_
        · rintro b a w' ⟨A4, c4, A5, c5, m4_, m5_, m6_, ha, Q_BB, Q_HB, Q_RB, Q_DD, Q_RS, Q_B4, Q_S5, Q_FIN, Q_X4_, Q_X5_, Q_X6_⟩ hb_ hon hoff
          refine ⟨_, rfl, fun K hK => ?_⟩
          have e33 : a.tmps[33]? = some (.slice A9 DL.length c9) := by rw [ha]; exact (putSel_off rfl).trans rfl
          have e38 : a.tmps[38]? = some (m5_) := by rw [ha]; exact putSel_on (e := (5, 38, m5_)) 2 rfl rfl (hon 5 (by kernel_rfl)) rfl
          rw [Q_X5_ (hon 5 (by kernel_rfl))] at e38
          replace ha := Aside0.mk ha
          have BB := Aside0.mk Q_BB
          have HB := Aside0.mk Q_HB
          have RB := Aside0.mk (Q_RB (hoff 7 (by kernel_rfl)))
          have DD := Aside0.mk Q_DD
          have S5 := Aside0.mk (Q_S5 (hon 5 (by kernel_rfl)))
          refine value_ (w1 := w') (v := .agg #[.slice A9 DL.length c9, .slice A5 64 c5]) (by rfl) rfl ?_ ?_
          · go_simp
            (try simp only [i64_w])
            try rfl
          refine hK.out _ _ ⟨A4, c4, A5, c5, m4_, m5_, (.agg #[.slice A9 DL.length c9, .slice A5 64 c5]), (by rw [ha.out]; exact putSel_upk 3 hb_ rfl rfl rfl), Q_BB, Q_HB, Q_RB, Q_DD, fun h0_ => absurd ((hon 4 (by kernel_rfl)).symm.trans h0_) (by decide), fun _ h1_ => absurd ((hon 5 (by kernel_rfl)).symm.trans h1_) (by decide), Q_S5, fun h0_ => absurd ((hoff 7 (by kernel_rfl)).symm.trans h0_) (by decide), Q_X4_, Q_X5_, fun _ => rfl⟩
        refine steps_cons ?_ ?_
        · rintro b a w' ⟨A4, c4, A5, c5, m4_, m5_, m6_, ha, Q_BB, Q_HB, Q_RB, Q_DD, Q_RS, Q_B4, Q_S5, Q_FIN, Q_X4_, Q_X5_, Q_X6_⟩ hb_ hon hoff
          refine ⟨_, rfl, fun K hK => ?_⟩
          have e4 : a.tmps[4]? = some (.pointer (some ⟨w.heap.size + 1, 0, none⟩)) := by rw [ha]; exact (putSel_off rfl).trans rfl
          have e39 : a.tmps[39]? = some (m6_) := by rw [ha]; exact putSel_on (e := (6, 39, m6_)) 3 rfl rfl (hon 6 (by kernel_rfl)) rfl
          rw [Q_X6_ (hon 6 (by kernel_rfl))] at e39
          replace ha := Aside0.mk ha
          have BB := Aside0.mk Q_BB
          have HB := Aside0.mk Q_HB
          have RB := Aside0.mk (Q_RB hb_)
          have DD := Aside0.mk Q_DD
          have S5 := Aside0.mk (Q_S5 (hon 5 (by kernel_rfl)))
          have zc0 : w'.cell? ⟨w.heap.size + 1, 0, none⟩ = some (.slice none 0 0) := (blk_cell RB.out 0).trans rfl
          have zc1 : w'.cell? ⟨w.heap.size + 1, 1, none⟩ = some (.slice none 0 0) := (blk_cell RB.out 1).trans rfl
          have zf0 := blk_frozen RB.out 0
          have zf1 := blk_frozen RB.out 1
          refine skip_ (w1 := (w'.setCell ⟨w.heap.size + 1, 0, none⟩ (.slice A9 DL.length c9)).setCell ⟨w.heap.size + 1, 1, none⟩ (.slice A5 64 c5)) (by rfl) rfl ?_ ?_
          · go_simp
            try rfl
          refine hK.out _ _ ⟨A4, c4, A5, c5, m4_, m5_, m6_, (by rw [ha.out]; exact putSel_none (v := undef) rfl), bl_set (bl_set BB.out (p := ⟨w.heap.size + 1, 0, none⟩) (by show w.heap.size ≤ w.heap.size + 1; omega) _) (p := ⟨w.heap.size + 1, 1, none⟩) (by show w.heap.size ≤ w.heap.size + 1; omega) _, blk_far (blk_far HB.out (p := ⟨w.heap.size + 1, 0, none⟩) (by show w.heap.size ≠ w.heap.size + 1; omega) _) (p := ⟨w.heap.size + 1, 1, none⟩) (by show w.heap.size ≠ w.heap.size + 1; omega) _, fun h0_ => absurd ((up_self b 7).symm.trans h0_) (by decide), ((DD.out.far (w.heap.size + 1) 0 _ (by omega)).far (w.heap.size + 1) 1 _ (by omega)), fun h0_ => absurd ((hon 4 (by kernel_rfl)).symm.trans h0_) (by decide), fun _ h1_ => absurd ((hon 5 (by kernel_rfl)).symm.trans h1_) (by decide), fun _ => ((S5.out.far (w.heap.size + 1) 0 _ (by omega)).far (w.heap.size + 1) 1 _ (by omega)), fun _ => blk_put (blk_put RB.out 0 (.slice A9 DL.length c9) (cs' := #[.slice A9 DL.length c9, .slice none 0 0]) (by simp)) 1 (.slice A5 64 c5) (by simp), Q_X4_, Q_X5_, Q_X6_⟩
        exact steps_nil
      · rintro b a w' hall ⟨A4, c4, A5, c5, m4_, m5_, m6_, ha, Q_BB, Q_HB, Q_RB, Q_DD, Q_RS, Q_B4, Q_S5, Q_FIN, Q_X4_, Q_X5_, Q_X6_⟩
        clear BB DD HB RB RS
        have hb1_ := hall 1 (by kernel_rfl)
        have hb4_ := hall 4 (by kernel_rfl)
        have hb5_ := hall 5 (by kernel_rfl)
        have hb6_ := hall 6 (by kernel_rfl)
        have hb7_ := hall 7 (by kernel_rfl)
        subst ha
        obtain rfl := Q_X4_ hb4_
        obtain rfl := Q_X5_ hb5_
        obtain rfl := Q_X6_ hb6_
        simp only [putSel, hb1_, hb4_, hb5_, hb6_, hb7_, if_true, Act.put, List.setIfInBounds_toArray, List.set_cons_zero, List.set_cons_succ]
        have BB := Aside0.mk Q_BB
        clear Q_BB
        have HB := Aside0.mk Q_HB
        clear Q_HB
        clear Q_RB
        have DD := Aside0.mk Q_DD
        clear Q_DD
        clear Q_RS
        clear Q_B4
        have S5 := Aside0.mk (Q_S5 hb5_)
        clear Q_S5
        have FIN := Aside0.mk (Q_FIN hb7_)
        clear Q_FIN
        clear hall hb1_ hb4_ hb5_ hb6_ hb7_
        have BF := Lib.hid BB.out
        have DF := Lib.hid DD.out
        have SF := Lib.hid S5.out
        have FF := Lib.hid FIN.out
        have cc0 : w'.cell? ⟨w.heap.size + 1, 0, none⟩ = some (.slice A9 DL.length c9) := (blk_cell FF.out 0).trans rfl
        have cc1 : w'.cell? ⟨w.heap.size + 1, 1, none⟩ = some (.slice A5 64 c5) := (blk_cell FF.out 1).trans rfl
        go_wp2_with fail
        refine bodyPost_ret (v := .agg #[.slice A9 DL.length c9, .slice A5 64 c5]) (by simp [results, Try.results16, go_sem, cc0, cc1]) rfl ⟨A9, c9, A5, c5, ?_, ?_, ?_, BF.out⟩
        · rw [HDL.out.1]
        · rw [HDL.out.1]; exact DF.out
        · rw [HDL.out.1, HDL.out.2]; exact SF.out
end Go.Proofs.Ytkbjndfmbimjiaa
