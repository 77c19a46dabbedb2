/- What the proof of TopSealed leans on: Tk Tl Tm Tn Chain Crc Crq Rec. -/
import Derived.Test.YtffalemndjampaaQaq
import Derived.Test.YtffalemndjampaaQan
import Derived.Test.YtffalemndjampaaQab
import Derived.Test.YtffalemndjampaaQac
import Derived.Test.YtffalemndjampaaQad
import Derived.Test.YtffalemndjampaaQam
section
set_option linter.unusedVariables false
set_option linter.unusedSimpArgs false
namespace Go.Proofs.Ytffalemndjampaa
open Go.RowKit Go.Proofs.YtffalemndjampaaW.PrintWords Go.Proofs.YtffalemndjampaaW.PrintLast
def volC (p : Nat) (PA : Addr) (pc : Nat) (SA : Option Addr) (sc : Nat) (T : Tb) : Array Value :=
 #[.pointer (some ⟨p, 0, none⟩), .int .i64 0, .int .i64 3, .int .i64 16, .int .i64 6, .int .i64 256, .int .u32 T.seq, .slice (some PA) 11 pc, .slice SA T.spare.length sc, .int .i64 T.t0, .int .i64 T.t1]
def VolR (w : World) (vp p : Nat) (N : Nat → Prop) (T : Tb) : Prop :=
 ∃ PA pc SA sc, w.heap[vp]? = some (.cells (volC p PA pc SA sc T) 110 (0, 0)) ∧ TbR w N (tbC PA pc SA sc T) T
theorem VolR.mods {S : Nat → Prop} {w w' : World} {vp p : Nat} {N : Nat → Prop} {T : Tb} (h : VolR w vp p N T) (hm : Mods S w w') (hv : ¬ S vp) (hS : ∀ k, N k → ¬ S k) : VolR w' vp p N T := by
 obtain ⟨PA, pc, SA, sc, h1, h2⟩ := h
 exact ⟨PA, pc, SA, sc, hm.blk h1 hv, h2.mods hm hS⟩
theorem VolR.below {w w' : World} {vp p : Nat} {N : Nat → Prop} {T : Tb} (h : VolR w vp p N T) (hb : Below w.heap.size w w') : VolR w' vp p N T := h.mods (S := fun _ => False) (Mods.of_below hb) id (fun _ _ h => h)
theorem vol_cells {w : World} {vp p : Nat} {PA : Addr} {pc : Nat} {SA : Option Addr} {sc : Nat} {T : Tb} (h : w.heap[vp]? = some (.cells (volC p PA pc SA sc T) 110 (0, 0))) :
  w.cell? ⟨vp, 0, none⟩ = some (.pointer (some ⟨p, 0, none⟩)) ∧ w.cell? ⟨vp, 1, none⟩ = some (.int .i64 0) ∧ w.cell? ⟨vp, 2, none⟩ = some (.int .i64 3) ∧ w.cell? ⟨vp, 3, none⟩ = some (.int .i64 16) ∧ w.cell? ⟨vp, 4, none⟩ = some (.int .i64 6) ∧ w.cell? ⟨vp, 5, none⟩ = some (.int .i64 256) ∧
  w.cell? ⟨vp, 6, none⟩ = some (.int .u32 T.seq) ∧ w.cell? ⟨vp, 7, none⟩ = some (.slice (some PA) 11 pc) ∧ w.cell? ⟨vp, 8, none⟩ = some (.slice SA T.spare.length sc) ∧ w.cell? ⟨vp, 9, none⟩ = some (.int .i64 T.t0) ∧ w.cell? ⟨vp, 10, none⟩ = some (.int .i64 T.t1) ∧ (∀ o, w.frozen? ⟨vp, o, none⟩ = false) :=
 ⟨blk_cell h 0, blk_cell h 1, blk_cell h 2, blk_cell h 3, blk_cell h 4, blk_cell h 5, blk_cell h 6, blk_cell h 7, blk_cell h 8, blk_cell h 9, blk_cell h 10, fun o => blk_frozen h o⟩
def Tb.at (T : Tb) (kb : Nat) : Nat := (T.place.getD kb 0).toNat
theorem TbR.place {w : World} {N : Nat → Prop} {PA : Addr} {pc : Nat} {SA : Option Addr} {sc : Nat} {T : Tb} (h : TbR w N (tbC PA pc SA sc T) T) (kb : Nat) (hk : kb < 11) : w.cell? (PA.add kb) = some (.int .i64 (T.place.getD kb 0)) := by
 obtain ⟨PA', pc', SA', sc', he, h1, h2, h3, h4, _⟩ := h
 simp only [tbC, Array.mk.injEq, List.cons.injEq, Value.slice.injEq, Option.some.injEq] at he
 obtain ⟨-, ⟨rfl, -, -⟩, -⟩ := he
 obtain ⟨ad, e, hc⟩ := h4.at_ (kb : Int) (by omega) (by omega)
 obtain rfl := Option.some.inj e
 rw [Int.toNat_natCast, rd_getD] at hc
 exact hc
set_option maxHeartbeats 2000000 in
theorem vin_any (vp p kb : Nat) (PA : Addr) (pc : Nat) (SA : Option Addr) (sc : Nat) (T : Tb) (w : World) (h : w.heap[vp]? = some (.cells (volC p PA pc SA sc T) 110 (0, 0))) (hk : kb < 11) :
  Calls Try.prog 40 #[.pointer (some ⟨vp, 0, none⟩), .int .i64 (kb : Int)] w fun e w' => e = .returned (.int .i64 0) ∧ Below w.heap.size w w' := by
 obtain ⟨-, -, -, -, -, -, -, y7, -⟩ := vol_cells h
 have b1 : decide ((kb : Int) < 0) = false := decide_eq_false (by omega)
 have b2 : decide ((11 : Int) ≤ (kb : Int)) = false := decide_eq_false (by omega)
 have b3 : decide (11 ≤ kb) = false := decide_eq_false (by omega)
 clear h
 go_enter Try.func40, Try.ntmps40
 go_wp2_with fail
 go_ret
 exact ⟨rfl, Below.refl _ _⟩
def TkR.T4 : Bool × List (List Nat × List Nat) := (true, [([], []), ([0], [0]), ([1], [1]), ([2], [2]), ([], []), ([4], [4]), ([5], [5]), ([6], [6]), ([], []), ([8], [8]), ([9], [9]), ([10], [10]), ([11], [11]), ([], []), ([12, 13], [12, 13]), ([14], [14]), ([], []), ([3, 7, 15, 16], [3, 7, 15, 16]), ([17], [17]), ([17], [17]), ([17], [17]), ([18, 17, 0, 1, 2, 3, 4, 5, 6, 7, 8, 9, 10, 11, 12, 13, 14, 15, 16, 17, 18, 19, 20], [18]), ([19, 21, 0, 1, 2, 3, 4, 5, 6, 7, 8, 9, 10, 11, 12, 13, 14, 15, 16, 17, 18, 19, 20, 21], [19]), ([20, 22, 0, 1, 2, 3, 4, 5, 6, 7, 8, 9, 10, 11, 12, 13, 14, 15, 16, 17, 18, 19, 20, 21, 22], [20])])
def TkR.B4 : List Nat := [0, 1, 3, 7, 0, 16, 48, 112, 0, 256, 768, 1792, 3840, 0, 16128, 32512, 0, 131071, 262143, 262143, 262143, 2097151, 4194303, 8388607]
theorem TkR.tab4 : rtab .any (opsOf Try.f26 4) = TkR.T4 := by kernel_rfl
theorem TkR.bits4 : waitsOk TkR.T4.2 TkR.B4 = true := by kernel_rfl
set_option maxHeartbeats 4000000 in
set_option maxRecDepth 100000 in
theorem vread_any (ar : Ar) (ok : Nat → Prop) (s : St) (vp kb pb pi : Nat) (N : Nat → Prop) (T : Tb) (w : World) (hf : ar.Fix) (hok : ∀ k, ok k → ¬ ar.M k) (h : Arr w ar ok s) (hv : VolR w vp ar.p N T) (hk : kb < 11) (hpb : T.place.getD kb 0 = (pb : Int)) (hb : pb < 16) (hp : pi < 6) (h0 : 0 ≤ s.ops) (h1 : s.ops ≤ 1000000) :
  Calls Try.prog 26 #[.pointer (some ⟨vp, 0, none⟩), .int .i64 (kb : Int), .int .i64 (pi : Int)] w (ReadQ w ar ok s ((s.bl pb).pg pi)) := by
 obtain ⟨PA, pc, SA, sc, hv1, hv2⟩ := hv
 have HIN := Lib.hid (vin_any vp ar.p kb PA pc SA sc T w hv1 hk)
 have HV := Lib.hid (And.intro hv1 hv2)
 have HA := Lib.hid (And.intro h (And.intro hf hok))
 clear hv1 hv2 h hf hok
 go_enter Try.func26, Try.ntmps26
 go_wp2_with fail
 refine HIN.out.mono ?_
 rintro e w1 ⟨rfl, hb1⟩
 have HB1 := Lib.hid hb1
 have hv1 := blk_below HV.out.1 hb1
 have yk := (HV.out.2.below hb1).place kb hk
 rw [hpb] at yk
 have kI : (kb : Int) < 11 := by omega
 have HA1 := Lib.hid (HA.out.1.below hb1)
 clear hb1 HIN
 go_wp2_with fail
 refine start_ (n := 24) (S := fun w' => True) (ds := []) _ (by kernel_rfl) rfl rfl trivial (fun hHeld => ?_)
 refine with_tabW TkR.tab4 TkR.bits4 (fun HT_ HW_ => ?_)
 have HVz := Lib.hid (show w1.drew.heap[vp]? = _ from hv1)
 have YKz := Lib.hid (show w1.drew.cell? (PA.add kb) = _ from yk)
 have HAz := Lib.hid (HA1.out.below (bl_drew (Below.refl _ _)))
 have HFz := Lib.hid HA.out.2
 have SZ := Lib.hid (show w1.heap.size = w1.drew.heap.size from rfl)
 have DZ := Lib.hid (show Mods ar.M w1 w1.drew from (Mods.refl _ w1).drewN 1)
 generalize w1.drew = wz at HVz YKz HAz SZ DZ hHeld ⊢
 have VB := Lib.hid (Below.refl wz.heap.size wz)
 refine pur_ 0 (some 16) HT_.out rfl rfl (by kernel_rfl) (fun _ _ _ h => h) (by rfl) (fun w' => by go_simp; with_reducible rfl) (by simp only [Act.put, List.setIfInBounds_toArray, List.set_cons_zero, List.set_cons_succ, i64_w, i32_w]; rfl) ?_
 refine pur_ 1 (some 17) HT_.out rfl rfl (by kernel_rfl) (fun _ _ _ h => h) (by rfl) (fun w' => by go_simp; with_reducible rfl) (by simp only [Act.put, List.setIfInBounds_toArray, List.set_cons_zero, List.set_cons_succ, i64_w, i32_w]; rfl) ?_
 refine pur_ 2 (some 18) HT_.out rfl rfl (by kernel_rfl) (fun _ _ _ h => h) (by rfl) (fun w' => by go_simp; with_reducible rfl) (by simp only [Act.put, List.setIfInBounds_toArray, List.set_cons_zero, List.set_cons_succ, i64_w, i32_w]; rfl) ?_
 refine pur_ 4 (some 20) HT_.out rfl rfl (by kernel_rfl) (fun _ _ _ h => h) (by rfl) (fun w' => by go_simp; with_reducible rfl) (by simp only [Act.put, List.setIfInBounds_toArray, List.set_cons_zero, List.set_cons_succ, i64_w, i32_w]; rfl) ?_
 refine pur_ 5 (some 21) HT_.out rfl rfl (by kernel_rfl) (fun _ _ _ h => h) (by rfl) (fun w' => by go_simp; with_reducible rfl) (by simp only [Act.put, List.setIfInBounds_toArray, List.set_cons_zero, List.set_cons_succ, i64_w, i32_w]; rfl) ?_
 refine pur_ 6 (some 22) HT_.out rfl rfl (by kernel_rfl) (fun _ _ _ h => h) (by rfl) (fun w' => by go_simp; with_reducible rfl) (by simp only [Act.put, List.setIfInBounds_toArray, List.set_cons_zero, List.set_cons_succ, i64_w, i32_w]; rfl) ?_
 refine pur_ 8 (some 24) HT_.out rfl rfl (by kernel_rfl) (fun _ _ _ h => h) (by rfl) (fun w' => by go_simp; with_reducible rfl) (by simp only [Act.put, List.setIfInBounds_toArray, List.set_cons_zero, List.set_cons_succ, i64_w, i32_w]; rfl) ?_
 refine pur_ 9 (some 25) HT_.out rfl rfl (by kernel_rfl) (fun _ _ _ h => h) (by rfl) (fun w' => by go_simp; with_reducible rfl) (by simp only [Act.put, List.setIfInBounds_toArray, List.set_cons_zero, List.set_cons_succ, i64_w, i32_w]; rfl) ?_
 refine pur_ 10 (some 26) HT_.out rfl rfl (by kernel_rfl) (fun _ _ _ h => h) (by rfl) (fun w' => by go_simp; with_reducible rfl) (by simp only [Act.put, List.setIfInBounds_toArray, List.set_cons_zero, List.set_cons_succ, i64_w, i32_w]; rfl) ?_
 refine pur_ 11 (some 27) HT_.out rfl rfl (by kernel_rfl) (fun _ _ _ h => h) (by rfl) (fun w' => by go_simp; with_reducible rfl) (by simp only [Act.put, List.setIfInBounds_toArray, List.set_cons_zero, List.set_cons_succ, i64_w, i32_w]; rfl) ?_
 refine pur_ 13 (some 29) HT_.out rfl rfl (by kernel_rfl) (fun _ _ _ h => h) (by rfl) (fun w' => by go_simp; with_reducible rfl) (by simp only [Act.put, List.setIfInBounds_toArray, List.set_cons_zero, List.set_cons_succ, i64_w, i32_w]; rfl) ?_
 refine pur_ 16 (some 32) HT_.out rfl rfl (by kernel_rfl) (fun _ _ _ h => h) (by rfl) (fun w' => by go_simp; with_reducible rfl) (by simp only [Act.put, List.setIfInBounds_toArray, List.set_cons_zero, List.set_cons_succ, i64_w, i32_w]; rfl) ?_
 refine inv_at [3, 7, 12, 14, 15, 17, 18, 19, 20, 21, 22, 23] (fun a0_ b a w' => ∃ (dv : Value) (ov : Value) (m17_ : Value) (m18_ : Value) (m19_ : Value) (m21_ : Value) (m22_ : Value), a = putSel a0_ b [(3, 19, .pointer (some ⟨ar.p, 0, none⟩)), (7, 23, .int .i64 0), (12, 28, .slice (some PA) 11 pc), (14, 30, .pointer (some (PA.add kb))), (15, 31, .int .i64 (pb : Int)), (17, 33, m17_), (18, 34, m18_), (19, 35, m19_), (20, 36, .int .i64 (readS ar s).2), (21, 6, m21_), (22, 7, m22_), (23, 8, .int .i64 (readS ar s).2)] ∧ (b 17 = false → Below wz.heap.size wz w') ∧ (b 17 = true → Arr w' ar ok (readS ar s).1 ∧ Mods ar.M wz w' ∧ ((readS ar s).2 = 0 → ∃ A c B c', dv = .slice (some A) 256 c ∧ ov = .slice (some B) 64 c' ∧ 256 ≤ c ∧ 64 ≤ c' ∧ ReadsInt w' .u8 (some A) 256 (pgD ((s.bl pb).pg pi)).1 ∧ ReadsInt w' .u8 (some B) 64 (pgD ((s.bl pb).pg pi)).2 ∧ wz.heap.size ≤ A.block ∧ wz.heap.size ≤ B.block)) ∧ (b 17 = true → (m17_ : Value) = .tuple #[dv, ov, .int .i64 (readS ar s).2]) ∧ (b 18 = true → (m18_ : Value) = dv) ∧ (b 19 = true → (m19_ : Value) = ov) ∧ (b 21 = true → (m21_ : Value) = dv) ∧ (b 22 = true → (m22_ : Value) = ov)) HT_.out HW_.out (by kernel_rfl) (by kernel_rfl) ?_ ?_ ?_
 ·exact ⟨.bool false, .bool false, .bool false, .bool false, .bool false, .bool false, .bool false, by simp only [putSel, Bool.false_eq_true, if_false], fun _ => VB.out, fun h_ => absurd h_ (by decide), fun h_ => absurd h_ (by decide), fun h_ => absurd h_ (by decide), fun h_ => absurd h_ (by decide), fun h_ => absurd h_ (by decide), fun h_ => absurd h_ (by decide)⟩
 ·skip
  clear VB
  refine steps_cons ?_ ?_
  ·rintro b a w' ⟨dv, ov, m17_, m18_, m19_, m21_, m22_, ha, Q_VB, Q_VQ, Q_X17_, Q_X18_, Q_X19_, Q_X21_, Q_X22_⟩ hb_ hon hoff
   refine ⟨_, rfl, fun K hK => ?_⟩
   have e18 : a.tmps[18]? = some (.pointer (some ⟨vp, 0, none⟩)) := by rw [ha]; exact (putSel_off rfl).trans rfl
   replace ha := Aside0.mk ha
   have VB := Aside0.mk (Q_VB (hoff 17 (by kernel_rfl)))
   have hc_ : w'.cell? ⟨vp, 0, none⟩ = some (.pointer (some ⟨ar.p, 0, none⟩)) := (blk_cell (blk_below HVz.out VB.out) 0).trans rfl
   refine value_ (w1 := w') (v := .pointer (some ⟨ar.p, 0, none⟩)) (by rfl) rfl ?_ ?_
   ·go_simp
    (try simp only [i64_w])
    try rfl
   refine hK.out _ _ ⟨dv, ov, m17_, m18_, m19_, m21_, m22_, (ptup_ ha.out 0 hb_ rfl rfl rfl), Q_VB, off_ (hoff 17 (by kernel_rfl)), off_ (hoff 17 (by kernel_rfl)), off_ (hoff 18 (by kernel_rfl)), off_ (hoff 19 (by kernel_rfl)), off_ (hoff 21 (by kernel_rfl)), off_ (hoff 22 (by kernel_rfl))⟩
  refine steps_cons ?_ ?_
  ·rintro b a w' ⟨dv, ov, m17_, m18_, m19_, m21_, m22_, ha, Q_VB, Q_VQ, Q_X17_, Q_X18_, Q_X19_, Q_X21_, Q_X22_⟩ hb_ hon hoff
   refine ⟨_, rfl, fun K hK => ?_⟩
   have e22 : a.tmps[22]? = some (.pointer (some ⟨vp, 1, none⟩)) := by rw [ha]; exact (putSel_off rfl).trans rfl
   replace ha := Aside0.mk ha
   have VB := Aside0.mk (Q_VB (hoff 17 (by kernel_rfl)))
   have hc_ : w'.cell? ⟨vp, 1, none⟩ = some (.int .i64 0) := (blk_cell (blk_below HVz.out VB.out) 1).trans rfl
   refine value_ (w1 := w') (v := .int .i64 0) (by rfl) rfl ?_ ?_
   ·go_simp
    (try simp only [i64_w])
    try rfl
   refine hK.out _ _ ⟨dv, ov, m17_, m18_, m19_, m21_, m22_, (ptup_ ha.out 1 hb_ rfl rfl rfl), Q_VB, off_ (hoff 17 (by kernel_rfl)), off_ (hoff 17 (by kernel_rfl)), off_ (hoff 18 (by kernel_rfl)), off_ (hoff 19 (by kernel_rfl)), off_ (hoff 21 (by kernel_rfl)), off_ (hoff 22 (by kernel_rfl))⟩
  refine steps_cons ?_ ?_
  ·rintro b a w' ⟨dv, ov, m17_, m18_, m19_, m21_, m22_, ha, Q_VB, Q_VQ, Q_X17_, Q_X18_, Q_X19_, Q_X21_, Q_X22_⟩ hb_ hon hoff
   refine ⟨_, rfl, fun K hK => ?_⟩
   have e27 : a.tmps[27]? = some (.pointer (some ⟨vp, 7, none⟩)) := by rw [ha]; exact (putSel_off rfl).trans rfl
   replace ha := Aside0.mk ha
   have VB := Aside0.mk (Q_VB (hoff 17 (by kernel_rfl)))
   have hc_ : w'.cell? ⟨vp, 7, none⟩ = some (.slice (some PA) 11 pc) := (blk_cell (blk_below HVz.out VB.out) 7).trans rfl
   refine value_ (w1 := w') (v := .slice (some PA) 11 pc) (by rfl) rfl ?_ ?_
   ·go_simp
    (try simp only [i64_w])
    try rfl
   refine hK.out _ _ ⟨dv, ov, m17_, m18_, m19_, m21_, m22_, (ptup_ ha.out 2 hb_ rfl rfl rfl), Q_VB, off_ (hoff 17 (by kernel_rfl)), off_ (hoff 17 (by kernel_rfl)), off_ (hoff 18 (by kernel_rfl)), off_ (hoff 19 (by kernel_rfl)), off_ (hoff 21 (by kernel_rfl)), off_ (hoff 22 (by kernel_rfl))⟩
  refine steps_cons ?_ ?_
  ·rintro b a w' ⟨dv, ov, m17_, m18_, m19_, m21_, m22_, ha, Q_VB, Q_VQ, Q_X17_, Q_X18_, Q_X19_, Q_X21_, Q_X22_⟩ hb_ hon hoff
   refine ⟨_, rfl, fun K hK => ?_⟩
   have e28 : a.tmps[28]? = some (.slice (some PA) 11 pc) := pton_ ha 2 rfl rfl (hon 12 (by kernel_rfl)) rfl
   have e29 : a.tmps[29]? = some (.int .i64 (kb : Int)) := by rw [ha]; exact (putSel_off rfl).trans rfl
   replace ha := Aside0.mk ha
   have VB := Aside0.mk (Q_VB (hoff 17 (by kernel_rfl)))
   refine value_ (w1 := w') (v := .pointer (some (PA.add kb))) (by rfl) rfl ?_ ?_
   ·go_simp
    (try simp only [i64_w])
    try rfl
   refine hK.out _ _ ⟨dv, ov, m17_, m18_, m19_, m21_, m22_, (ptup_ ha.out 3 hb_ rfl rfl rfl), Q_VB, off_ (hoff 17 (by kernel_rfl)), off_ (hoff 17 (by kernel_rfl)), off_ (hoff 18 (by kernel_rfl)), off_ (hoff 19 (by kernel_rfl)), off_ (hoff 21 (by kernel_rfl)), off_ (hoff 22 (by kernel_rfl))⟩
  refine steps_cons ?_ ?_
  ·rintro b a w' ⟨dv, ov, m17_, m18_, m19_, m21_, m22_, ha, Q_VB, Q_VQ, Q_X17_, Q_X18_, Q_X19_, Q_X21_, Q_X22_⟩ hb_ hon hoff
   refine ⟨_, rfl, fun K hK => ?_⟩
   have e30 : a.tmps[30]? = some (.pointer (some (PA.add kb))) := pton_ ha 3 rfl rfl (hon 14 (by kernel_rfl)) rfl
   replace ha := Aside0.mk ha
   have VB := Aside0.mk (Q_VB (hoff 17 (by kernel_rfl)))
   have hc_ : w'.cell? (PA.add kb) = some (.int .i64 (pb : Int)) := pw_cell_below VB.out YKz.out
   refine value_ (w1 := w') (v := .int .i64 (pb : Int)) (by rfl) rfl ?_ ?_
   ·go_simp
    (try simp only [i64_w])
    try rfl
   refine hK.out _ _ ⟨dv, ov, m17_, m18_, m19_, m21_, m22_, (ptup_ ha.out 4 hb_ rfl rfl rfl), Q_VB, off_ (hoff 17 (by kernel_rfl)), off_ (hoff 17 (by kernel_rfl)), off_ (hoff 18 (by kernel_rfl)), off_ (hoff 19 (by kernel_rfl)), off_ (hoff 21 (by kernel_rfl)), off_ (hoff 22 (by kernel_rfl))⟩
  refine steps_cons ?_ ?_
  ·rintro b a w' ⟨dv, ov, m17_, m18_, m19_, m21_, m22_, ha, Q_VB, Q_VQ, Q_X17_, Q_X18_, Q_X19_, Q_X21_, Q_X22_⟩ hb_ hon hoff
   refine ⟨_, rfl, fun K hK => ?_⟩
   have e19 : a.tmps[19]? = some (.pointer (some ⟨ar.p, 0, none⟩)) := pton_ ha 0 rfl rfl (hon 3 (by kernel_rfl)) rfl
   have e23 : a.tmps[23]? = some (.int .i64 0) := pton_ ha 1 rfl rfl (hon 7 (by kernel_rfl)) rfl
   have e31 : a.tmps[31]? = some (.int .i64 (pb : Int)) := pton_ ha 4 rfl rfl (hon 15 (by kernel_rfl)) rfl
   have e32 : a.tmps[32]? = some (.int .i64 (pi : Int)) := by rw [ha]; exact (putSel_off rfl).trans rfl
   replace ha := Aside0.mk ha
   have VB := Aside0.mk (Q_VB hb_)
   refine goes_ Try.func46 (by kernel_rfl) rfl #[.pointer (some ⟨ar.p, 0, none⟩), .int .i64 0, .int .i64 (pb : Int), .int .i64 (pi : Int)] (by rfl) rfl rfl (by first | (simp only [List.map_toArray, List.map_cons, List.map_nil, Act.eval, Array.getD_eq_getD_getElem?, Option.getD_some, e19, e23, e31, e32]; done) | (simp only [List.map_toArray, List.map_cons, List.map_nil, Act.eval, Array.getD_eq_getD_getElem?, Option.getD_some, e19, e23, e31, e32]; rfl)) ?_
   refine (nread_any ar ok s pb pi w' HFz.out.1 HFz.out.2 (HAz.out.below VB.out) hb hp h0 h1).mono ?_
   rintro e w1 ⟨dv_, ov_, rfl, g1, g2, g3⟩
   refine ⟨_, rfl, ?_⟩
   refine hK.out _ _ ⟨dv_, ov_, (.tuple #[dv_, ov_, .int .i64 (readS ar s).2]), m18_, m19_, m21_, m22_, (ptup_ ha.out 5 hb_ rfl rfl rfl), fun h0_ => absurd ((up_self b 17).symm.trans h0_) (by decide), fun _ => ⟨g1, (Mods.of_below VB.out).trans g2, fun h_ => by obtain ⟨A, c, B, c', z1, z2, z3, z4, z5, z6, z7, z8⟩ := g3 h_; exact ⟨A, c, B, c', z1, z2, z3, z4, z5, z6, Nat.le_trans VB.out.size z7, Nat.le_trans VB.out.size z8⟩⟩, fun _ => rfl, off_ (hoff 18 (by kernel_rfl)), off_ (hoff 19 (by kernel_rfl)), off_ (hoff 21 (by kernel_rfl)), off_ (hoff 22 (by kernel_rfl))⟩
  refine steps_cons ?_ ?_
  ·rintro b a w' ⟨dv, ov, m17_, m18_, m19_, m21_, m22_, ha, Q_VB, Q_VQ, Q_X17_, Q_X18_, Q_X19_, Q_X21_, Q_X22_⟩ hb_ hon hoff
   refine ⟨_, rfl, fun K hK => ?_⟩
   have e33 : a.tmps[33]? = some (m17_) := pton_ ha 5 rfl rfl (hon 17 (by kernel_rfl)) rfl
   rw [Q_X17_ (hon 17 (by kernel_rfl))] at e33
   replace ha := Aside0.mk ha
   have VQ := Aside0.mk (Q_VQ (hon 17 (by kernel_rfl)))
   refine value_ (w1 := w') (v := dv) (by rfl) rfl ?_ ?_
   ·go_simp
    (try simp only [i64_w])
    try rfl
   refine hK.out _ _ ⟨dv, ov, m17_, (dv), m19_, m21_, m22_, (ptup_ ha.out 6 hb_ rfl rfl rfl), fun h0_ => absurd ((hon 17 (by kernel_rfl)).symm.trans h0_) (by decide), Q_VQ, Q_X17_, fun _ => rfl, Q_X19_, off_ (hoff 21 (by kernel_rfl)), off_ (hoff 22 (by kernel_rfl))⟩
  refine steps_cons ?_ ?_
  ·rintro b a w' ⟨dv, ov, m17_, m18_, m19_, m21_, m22_, ha, Q_VB, Q_VQ, Q_X17_, Q_X18_, Q_X19_, Q_X21_, Q_X22_⟩ hb_ hon hoff
   refine ⟨_, rfl, fun K hK => ?_⟩
   have e33 : a.tmps[33]? = some (m17_) := pton_ ha 5 rfl rfl (hon 17 (by kernel_rfl)) rfl
   rw [Q_X17_ (hon 17 (by kernel_rfl))] at e33
   replace ha := Aside0.mk ha
   have VQ := Aside0.mk (Q_VQ (hon 17 (by kernel_rfl)))
   refine value_ (w1 := w') (v := ov) (by rfl) rfl ?_ ?_
   ·go_simp
    (try simp only [i64_w])
    try rfl
   refine hK.out _ _ ⟨dv, ov, m17_, m18_, (ov), m21_, m22_, (ptup_ ha.out 7 hb_ rfl rfl rfl), fun h0_ => absurd ((hon 17 (by kernel_rfl)).symm.trans h0_) (by decide), Q_VQ, Q_X17_, Q_X18_, fun _ => rfl, off_ (hoff 21 (by kernel_rfl)), off_ (hoff 22 (by kernel_rfl))⟩
  refine steps_cons ?_ ?_
  ·rintro b a w' ⟨dv, ov, m17_, m18_, m19_, m21_, m22_, ha, Q_VB, Q_VQ, Q_X17_, Q_X18_, Q_X19_, Q_X21_, Q_X22_⟩ hb_ hon hoff
   refine ⟨_, rfl, fun K hK => ?_⟩
   have e33 : a.tmps[33]? = some (m17_) := pton_ ha 5 rfl rfl (hon 17 (by kernel_rfl)) rfl
   rw [Q_X17_ (hon 17 (by kernel_rfl))] at e33
   replace ha := Aside0.mk ha
   have VQ := Aside0.mk (Q_VQ (hon 17 (by kernel_rfl)))
   refine value_ (w1 := w') (v := .int .i64 (readS ar s).2) (by rfl) rfl ?_ ?_
   ·go_simp
    (try simp only [i64_w])
    try rfl
   refine hK.out _ _ ⟨dv, ov, m17_, m18_, m19_, m21_, m22_, (ptup_ ha.out 8 hb_ rfl rfl rfl), fun h0_ => absurd ((hon 17 (by kernel_rfl)).symm.trans h0_) (by decide), Q_VQ, Q_X17_, Q_X18_, Q_X19_, off_ (hoff 21 (by kernel_rfl)), off_ (hoff 22 (by kernel_rfl))⟩
  refine steps_cons ?_ ?_
  ·rintro b a w' ⟨dv, ov, m17_, m18_, m19_, m21_, m22_, ha, Q_VB, Q_VQ, Q_X17_, Q_X18_, Q_X19_, Q_X21_, Q_X22_⟩ hb_ hon hoff
   refine ⟨_, rfl, fun K hK => ?_⟩
   have e34 : a.tmps[34]? = some (m18_) := pton_ ha 6 rfl rfl (hon 18 (by kernel_rfl)) rfl
   rw [Q_X18_ (hon 18 (by kernel_rfl))] at e34
   replace ha := Aside0.mk ha
   have VQ := Aside0.mk (Q_VQ (hon 17 (by kernel_rfl)))
   refine value_ (w1 := w') (v := dv) (by rfl) rfl ?_ ?_
   ·go_simp
    (try simp only [i64_w])
    try rfl
   refine hK.out _ _ ⟨dv, ov, m17_, m18_, m19_, (dv), m22_, (ptup_ ha.out 9 hb_ rfl rfl rfl), fun h0_ => absurd ((hon 17 (by kernel_rfl)).symm.trans h0_) (by decide), Q_VQ, Q_X17_, Q_X18_, Q_X19_, fun _ => rfl, off_ (hoff 22 (by kernel_rfl))⟩
  refine steps_cons ?_ ?_
  ·rintro b a w' ⟨dv, ov, m17_, m18_, m19_, m21_, m22_, ha, Q_VB, Q_VQ, Q_X17_, Q_X18_, Q_X19_, Q_X21_, Q_X22_⟩ hb_ hon hoff
   refine ⟨_, rfl, fun K hK => ?_⟩
   have e35 : a.tmps[35]? = some (m19_) := pton_ ha 7 rfl rfl (hon 19 (by kernel_rfl)) rfl
   rw [Q_X19_ (hon 19 (by kernel_rfl))] at e35
   replace ha := Aside0.mk ha
   have VQ := Aside0.mk (Q_VQ (hon 17 (by kernel_rfl)))
   refine value_ (w1 := w') (v := ov) (by rfl) rfl ?_ ?_
   ·go_simp
    (try simp only [i64_w])
    try rfl
   refine hK.out _ _ ⟨dv, ov, m17_, m18_, m19_, m21_, (ov), (ptup_ ha.out 10 hb_ rfl rfl rfl), fun h0_ => absurd ((hon 17 (by kernel_rfl)).symm.trans h0_) (by decide), Q_VQ, Q_X17_, Q_X18_, Q_X19_, Q_X21_, fun _ => rfl⟩
  refine steps_cons ?_ ?_
  ·rintro b a w' ⟨dv, ov, m17_, m18_, m19_, m21_, m22_, ha, Q_VB, Q_VQ, Q_X17_, Q_X18_, Q_X19_, Q_X21_, Q_X22_⟩ hb_ hon hoff
   refine ⟨_, rfl, fun K hK => ?_⟩
   have e36 : a.tmps[36]? = some (.int .i64 (readS ar s).2) := pton_ ha 8 rfl rfl (hon 20 (by kernel_rfl)) rfl
   replace ha := Aside0.mk ha
   have VQ := Aside0.mk (Q_VQ (hon 17 (by kernel_rfl)))
   refine value_ (w1 := w') (v := .int .i64 (readS ar s).2) (by rfl) rfl ?_ ?_
   ·go_simp
    (try simp only [i64_w])
    try rfl
   refine hK.out _ _ ⟨dv, ov, m17_, m18_, m19_, m21_, m22_, (ptup_ ha.out 11 hb_ rfl rfl rfl), fun h0_ => absurd ((hon 17 (by kernel_rfl)).symm.trans h0_) (by decide), Q_VQ, Q_X17_, Q_X18_, Q_X19_, Q_X21_, Q_X22_⟩
  exact steps_nil
 ·rintro b a w' hall ⟨dv, ov, m17_, m18_, m19_, m21_, m22_, ha, Q_VB, Q_VQ, Q_X17_, Q_X18_, Q_X19_, Q_X21_, Q_X22_⟩
  clear VB
  have hb3_ := hall 3 (by kernel_rfl)
  have hb7_ := hall 7 (by kernel_rfl)
  have hb12_ := hall 12 (by kernel_rfl)
  have hb14_ := hall 14 (by kernel_rfl)
  have hb15_ := hall 15 (by kernel_rfl)
  have hb17_ := hall 17 (by kernel_rfl)
  have hb18_ := hall 18 (by kernel_rfl)
  have hb19_ := hall 19 (by kernel_rfl)
  have hb20_ := hall 20 (by kernel_rfl)
  have hb21_ := hall 21 (by kernel_rfl)
  have hb22_ := hall 22 (by kernel_rfl)
  have hb23_ := hall 23 (by kernel_rfl)
  subst ha
  obtain rfl := Q_X17_ hb17_
  obtain rfl := Q_X18_ hb18_
  obtain rfl := Q_X19_ hb19_
  obtain rfl := Q_X21_ hb21_
  obtain rfl := Q_X22_ hb22_
  simp only [putSel, hb3_, hb7_, hb12_, hb14_, hb15_, hb17_, hb18_, hb19_, hb20_, hb21_, hb22_, hb23_, if_true, Act.put, List.setIfInBounds_toArray, List.set_cons_zero, List.set_cons_succ]
  clear Q_VB
  have VQ := Aside0.mk (Q_VQ hb17_)
  clear Q_VQ
  clear hall hb3_ hb7_ hb12_ hb14_ hb15_ hb17_ hb18_ hb19_ hb20_ hb21_ hb22_ hb23_
  have VQ1 := Lib.hid VQ.out
  clear VQ HVz YKz HAz HFz hv1 yk
  go_wp2_with fail
  go_ret3
  refine ⟨_, _, rfl, VQ1.out.1, (Mods.of_below HB1.out).trans (DZ.out.trans VQ1.out.2.1), fun h_ => ?_⟩
  obtain ⟨A, c, B, c', z1, z2, z3, z4, z5, z6, z7, z8⟩ := VQ1.out.2.2 h_
  have hsz := SZ.out
  have hbs := HB1.out.size
  exact ⟨A, c, B, c', z1, z2, z3, z4, z5, z6, by omega, by omega⟩
end Go.Proofs.Ytffalemndjampaa
end
section
set_option linter.unusedVariables false
set_option linter.unusedSimpArgs false
namespace Go.Proofs.Ytffalemndjampaa
open Go.RowKit Go.Proofs.YtffalemndjampaaW.PrintWords Go.Proofs.YtffalemndjampaaW.PrintLast
theorem les1_one (x : Int) (h0 : 0 ≤ x) (h1 : x < 256) : les 1 [x] = [x] := by simp [les, le]; omega
set_option maxHeartbeats 4000000 in
set_option maxRecDepth 100000 in
theorem list_any (base p : Nat) (v : Value) (l xs : List Int) (A : Option Addr) (n c : Nat) (w : World) (h : WrV w base p v l) (hbp : base ≤ p) (hB : base ≤ w.heap.size) (hr : ReadsInt w .i64 A n xs) (hne : 0 < n → ∀ a, A = some a → a.block ≠ p ∧ some a.block ≠ v.ownBlock) (hx : ∀ x ∈ xs, 0 ≤ x ∧ x < 256) (hn : n ≤ 200) (hl : l.length ≤ 1000) :
  Calls Try.prog 66 #[.pointer (some ⟨p, 0, none⟩), .slice A n c] w fun e w' => e = .returned (.tuple #[]) ∧ WrS w base p v (l ++ (n : Int) :: xs) w' := by
 have hc1 : IntKind.u8.wrap (n : Int) = (n : Int) := by simp [IntKind.wrap, IntKind.bits, IntKind.signed]; omega
 have hu := U8_box base p v l [(n : Int)] 1 w.heap.size w _ rfl rfl h hbp hB rfl (fun x hx_ => by obtain rfl := List.mem_singleton.1 hx_; omega) (by omega)
 rw [les1_one (n : Int) (by omega) (by omega)] at hu
 have HU := Lib.hid hu
 have HV := Lib.hid h
 have HR := Lib.hid (And.intro hr (And.intro hne hx))
 have hlen := hr.1
 clear hu h hr hne hx
 go_enter Try.func66, Try.ntmps66
 go_wp2_with fail
 refine HU.out.mono ?_
 rintro e w1 ⟨rfl, hs⟩
 have H1 := Lib.hid hs
 clear hs HU
 go_wp2_with fail
 go_loopw [14] (fun i wr => ∃ j : Nat, j ≤ n ∧ i = .int .i64 (j : Int) ∧ Hid (WrS w base p v (l ++ (n : Int) :: xs.take j) wr)) (fun i _ => n - (intOf i).toNat)
 case atStart => exact ⟨0, Nat.zero_le _, rfl, by simpa using H1⟩
 case round =>
  obtain ⟨j, hj, rfl, HS⟩ := hrel
  by_cases hlt : j < n
  ·obtain ⟨v1, g1, g2, g3, g4⟩ := HS.out
   have hr1 := reads_keep HR.out.1 g2 HR.out.2.1
   obtain ⟨ad, he, hc⟩ := hr1.at_ (j : Int) (by omega) (by omega)
   rw [Int.toNat_natCast, rd_getD] at hc
   obtain ⟨x, hx⟩ : ∃ x, xs.getD j 0 = x := ⟨_, rfl⟩
   have hxm : x ∈ xs := by rw [← hx, List.getD_eq_getElem?_getD, List.getElem?_eq_getElem (by omega)]; exact List.getElem_mem _
   have hxb := HR.out.2.2 x hxm
   have htk : xs.take (j + 1) = xs.take j ++ [x] := by
    rw [List.take_succ_eq_append_getElem (by omega), ← hx, List.getD_eq_getElem?_getD, List.getElem?_eq_getElem (by omega)]; rfl
   rw [hx] at hc
   have hc2 : IntKind.u8.wrap x = x := by simp [IntKind.wrap, IntKind.bits, IntKind.signed]; omega
   have hll : (l ++ (n : Int) :: xs.take j).length ≤ 1300 := by simp; omega
   have hu := U8_box base p v1 (l ++ (n : Int) :: xs.take j) [x] 1 wr.heap.size wr _ rfl rfl g1 hbp (by have := g4.size; omega) rfl (fun y hy => by obtain rfl := List.mem_singleton.1 hy; omega) (by omega)
   rw [les1_one x hxb.1 hxb.2] at hu
   have HU := Lib.hid hu
   have HG := Lib.hid (And.intro g1 (And.intro g2 (And.intro g3 g4)))
   have HT := Lib.hid htk
   subst he
   clear hu g1 g2 g3 g4 hr1 hxm hll htk hx
   go_wp2_with fail
   refine HU.out.mono ?_
   rintro e w2 ⟨rfl, hs⟩
   have H2 := Lib.hid (WrS.to HG.out hs)
   clear hs
   go_wp2_with fail
   go_roundw
   case rel => exact ⟨j + 1, by omega, by go_num, by have h_ := H2.out; rw [List.append_assoc, List.cons_append, ← HT.out] at h_; exact Lib.hid h_⟩
   case measure => simp [intOf]; omega
  ·obtain rfl : j = n := by omega
   have hk : xs.take j = xs := List.take_of_length_le (by omega)
   rw [hk] at HS
   clear hk
   go_wp2_with fail
   go_end0
   exact ⟨rfl, HS.out⟩
end Go.Proofs.Ytffalemndjampaa
end
section
set_option linter.unusedVariables false
set_option linter.unusedSimpArgs false
namespace Go.Proofs.Ytffalemndjampaa
open Go.RowKit Go.Proofs.YtffalemndjampaaW.PrintWords Go.Proofs.YtffalemndjampaaW.PrintLast
set_option maxHeartbeats 2000000 in
theorem gcheck_any (w : World) : Calls Try.prog 32 #[.agg #[.int .i64 3, .int .i64 16, .int .i64 6, .int .i64 256]] w fun e w' => e = .returned (.int .i64 0) ∧ Below w.heap.size w w' := by
 go_enter Try.func32, Try.ntmps32
 go_wp2_with fail
 try go_quiet (fail)
 try go_wp2_with fail
 go_ret
 exact ⟨rfl, by repeat (first | exact bl_alloc (Below.refl _ _) _ | apply pw_below_drewN)⟩
set_option maxHeartbeats 2000000 in
theorem virt_any (w : World) : Calls Try.prog 37 #[.agg #[.int .i64 3, .int .i64 16, .int .i64 6, .int .i64 256]] w fun e w' => e = .returned (.int .i64 11) ∧ Below w.heap.size w w' := by
 go_enter Try.func37, Try.ntmps37
 go_wp2_with fail
 try go_quiet (fail)
 try go_wp2_with fail
 go_ret
 exact ⟨rfl, by repeat (first | exact bl_alloc (Below.refl _ _) _ | apply pw_below_drewN)⟩
def Tb.all (T : Tb) : List Int := T.place ++ (T.spare ++ [T.t0, T.t1])
structure TbOk (T : Tb) : Prop where
 nodup : T.all.Nodup
 rng : ∀ x ∈ T.all, 0 ≤ x ∧ x < 16
 seq0 : 0 ≤ T.seq
 seq1 : T.seq < 4294967296
theorem nodup_mid {P R : List Int} {x : Int} (h : (P ++ x :: R).Nodup) : x ∉ P := fun hx => by
 rw [List.nodup_append] at h
 exact h.2.2 x hx x List.mem_cons_self rfl
theorem take_mid (L : List Int) (j : Nat) (x : Int) (hj : L[j]? = some x) : L = L.take j ++ x :: L.drop (j + 1) ∧ L.take (j + 1) = L.take j ++ [x] := by
 have hl := (List.getElem?_eq_some_iff.1 hj).1
 have h2 : L[j] = x := (List.getElem?_eq_some_iff.1 hj).2
 refine ⟨?_, ?_⟩
 ·have h1 := List.drop_eq_getElem_cons hl
  rw [h2] at h1
  rw [← h1, List.take_append_drop]
 ·rw [List.take_add_one, hj]; rfl
def seenL (P : List Int) : List Int := (List.range 16).map fun k : Nat => if (k : Int) ∈ P then 1 else 0
theorem seenL_length (P : List Int) : (seenL P).length = 16 := by simp [seenL]
theorem seenL_nil : seenL [] = List.replicate 16 0 := by decide
theorem seenL_rd (P : List Int) (x : Int) (h0 : 0 ≤ x) (h1 : x < 16) (hx : x ∉ P) : rd (seenL P) x = 0 := by
 obtain ⟨k, rfl⟩ := Int.eq_ofNat_of_zero_le h0
 rw [rd_getD, List.getD_eq_getElem?_getD, List.getElem?_eq_getElem (by rw [seenL_length]; omega)]
 simp [seenL, hx]
theorem seenL_set (P : List Int) (x : Int) (h0 : 0 ≤ x) (h1 : x < 16) : (seenL P).set x.toNat 1 = seenL (P ++ [x]) := by
 obtain ⟨k, rfl⟩ := Int.eq_ofNat_of_zero_le h0
 rw [Int.toNat_natCast]
 apply List.ext_getElem
 ·simp [seenL_length]
 ·intro i a b
  have hi : i < 16 := by rw [seenL_length] at b; exact b
  rw [List.getElem_set]
  by_cases e : k = i
  ·subst e; simp [seenL]
  ·have e2 : ¬ ((i : Int) = (k : Int)) := by omega
   simp [seenL, e, e2]
def TmR.T4 : Bool × List (List Nat × List Nat) := (true, [([], []), ([0], [0]), ([1], [1]), ([], []), ([3], [3]), ([2, 4], [2, 4])])
def TmR.B4 : List Nat := [0, 1, 3, 0, 8, 31]
theorem TmR.tab4 : rtab .any (opsOf Try.f65 4) = TmR.T4 := by kernel_rfl
theorem TmR.bits4 : waitsOk TmR.T4.2 TmR.B4 = true := by kernel_rfl
theorem ix3 (a b c : Value) (W : World) : (Instr.index 145 (.agg #[a, b, c]) (.int .i64 0)).run Try.prog W = .ok a W ∧ (Instr.index 145 (.agg #[a, b, c]) (.int .i64 1)).run Try.prog W = .ok b W ∧ (Instr.index 145 (.agg #[a, b, c]) (.int .i64 2)).run Try.prog W = .ok c W := by
 refine ⟨?_, ?_, ?_⟩ <;> kernel_rfl
theorem cell_off {w : World} {g o j : Nat} {v : Value} (h : w.cell? ((⟨g, o, none⟩ : Addr).add j) = some v) : w.cell? ⟨g, o + j, none⟩ = some v := by
 have e : (⟨g, o, none⟩ : Addr).add j = ⟨g, o + j, none⟩ := by unfold Addr.add; split <;> simp_all
 rw [← e]; exact h
theorem rd_two {w : World} {g2 : Nat} {v0 v1 v2 : Value} {t0 t1 : Int} (h : w.heap[g2]? = some (.cells #[v0, v1, v2, .int .i64 t0, .int .i64 t1] 108 (0, 0))) : ReadsInt w .i64 (some ⟨g2, 3, none⟩) 2 [t0, t1] :=
 ⟨rfl, by decide, fun _ => ⟨_, rfl, fun j hj => by
  rcases j with _ | _ | j
  ·exact (blk_cell h 3).trans rfl
  ·exact (blk_cell h 4).trans rfl
  ·omega⟩⟩
def CkS (w : World) (g g2 g3 : Nat) (C : Array Value) (P : List Int) (wr : World) : Prop :=
 wr.ownsRow w.heap.size 3 1 (.slice (some ⟨g, 0, none⟩) 16 16) 16 (nums .i64 (seenL P)) ∧ wr.heap[g2]? = some (.cells C 108 (0, 0)) ∧ wr.heap[g3]? = some (.cells #[.int .i64 3, .int .i64 16, .int .i64 6, .int .i64 256] 50 (0, 0)) ∧ Below w.heap.size w wr
set_option maxHeartbeats 8000000 in
set_option maxRecDepth 100000 in
theorem check_any (C : Array Value) (T : Tb) (N : Nat → Prop) (w : World) (h : TbR w N C T) (hT : TbOk T) : Calls Try.prog 65 #[.agg C, .agg #[.int .i64 3, .int .i64 16, .int .i64 6, .int .i64 256]] w fun e w' => e = .returned (.int .i64 0) ∧ Below w.heap.size w w' := by
 obtain ⟨PA, pc, SA, sc, rfl, hpc, hsc, hn3, hrp, hrs, -, -⟩ := h
 have HRP := Lib.hid hrp
 have HRS := Lib.hid hrs
 have HOK := Lib.hid hT
 have hlp := hrp.1
 have hls := hrs.1
 obtain ⟨seq, pl, sp, t0, t1⟩ := T
 simp only [tbC] at *
 obtain ⟨sn, hsn⟩ : ∃ sn, sp.length = sn := ⟨_, rfl⟩
 have hmk := print_make (P := Try.prog) 46 3 .i64 8 Try.underlying46 infoI (by decide) 16 (by omega)
 rw [show ((16 : Nat) : Int) = 16 from rfl] at hmk
 rw [hsn] at HRS hsc hn3 ⊢
 clear hrp hrs hT
 have ha := al2_ w #[.int .u32 seq, .slice (some PA) 11 pc, .slice SA sn sc, .int .i64 t0, .int .i64 t1] #[.int .i64 3, .int .i64 16, .int .i64 6, .int .i64 256] 108 50
 go_enter Try.func65, Try.ntmps65
 go_wp2_with fail
 obtain ⟨w0, hw0⟩ : ∃ w0, (w.alloc (.cells #[.int .u32 seq, .slice (some PA) 11 pc, .slice SA sn sc, .int .i64 t0, .int .i64 t1] 108)).alloc (.cells #[.int .i64 3, .int .i64 16, .int .i64 6, .int .i64 256] 50) = w0 := ⟨_, rfl⟩
 rw [hw0] at ha ⊢
 obtain ⟨g2, hg2⟩ : ∃ g2, w.heap.size = g2 := ⟨_, rfl⟩
 obtain ⟨g3, hg3⟩ : ∃ g3, w.heap.size + 1 = g3 := ⟨_, rfl⟩
 rw [hg3] at ha
 rw [hg2] at ha
 try rw [hg3]
 try rw [hg2]
 have H0 := Lib.hid (And.intro ha.1 (And.intro ha.2.1 (show Below w.heap.size w w0 by rw [hg2]; exact ha.2.2)))
 have HG2 := Lib.hid hg2
 have HG3 := Lib.hid hg3
 clear hw0 ha hg2 hg3
 refine (gcheck_any w0).mono ?_
 rintro e wi ⟨rfl, hbi⟩
 have H2i := Lib.hid (blk_below H0.out.1 hbi)
 have H3i := Lib.hid (blk_below H0.out.2.1 hbi)
 have HBi := Lib.hid (bl_seq H0.out.2.2 hbi)
 clear hbi H0
 go_wp2_with fail
 refine start_ (n := 6) (S := fun w' => True) (ds := []) _ (by kernel_rfl) rfl rfl trivial (fun hHeld => ?_)
 refine with_tabW TmR.tab4 TmR.bits4 (fun HT_ HW_ => ?_)
 have H2z := Lib.hid (show wi.drew.heap[g2]? = _ from H2i.out)
 have H3z := Lib.hid (show wi.drew.heap[g3]? = _ from H3i.out)
 have DZ := Lib.hid (fun W (h_ : Below wi.drew.heap.size wi.drew W) => (⟨h_.os, h_.tape, h_.output, h_.size, h_.block⟩ : Below wi.heap.size wi W))
 generalize wi.drew = wz at H2z H3z DZ hHeld ⊢
 have VB := Lib.hid (Below.refl wz.heap.size wz)
 refine pur_ 0 (some 16) HT_.out rfl rfl (by kernel_rfl) (fun _ _ _ h => h) (by rfl) (fun w' => by go_simp; with_reducible rfl) (by simp only [Act.put, List.setIfInBounds_toArray, List.set_cons_zero, List.set_cons_succ, i64_w, i32_w]; rfl) ?_
 refine inv_at [1, 2, 3, 4, 5] (fun a0_ b a w' => a = putSel a0_ b [(1, 17, .slice (some PA) 11 pc), (2, 18, .int .i64 11), (3, 19, .agg #[.int .i64 3, .int .i64 16, .int .i64 6, .int .i64 256]), (4, 20, .int .i64 11), (5, 21, .bool false)] ∧ (Below wz.heap.size wz w')) HT_.out HW_.out (by kernel_rfl) (by kernel_rfl) ?_ ?_ ?_
 ·exact ⟨by simp only [putSel, Bool.false_eq_true, if_false], VB.out⟩
 ·skip
  clear VB
  refine steps_cons ?_ ?_
  ·rintro b a w' ⟨ha, Q_VB⟩ hb_ hon hoff
   refine ⟨_, rfl, fun K hK => ?_⟩
   have e16 : a.tmps[16]? = some (.pointer (some ⟨g2, 1, none⟩)) := by rw [ha]; exact (putSel_off rfl).trans rfl
   replace ha := Aside0.mk ha
   have VB := Aside0.mk Q_VB
   have hc1_ : w'.cell? ⟨g2, 1, none⟩ = some (.slice (some PA) 11 pc) := (blk_cell (blk_below H2z.out VB.out) 1).trans rfl
   refine value_ (w1 := w') (v := .slice (some PA) 11 pc) (by rfl) rfl ?_ ?_
   ·go_simp
    (try simp only [i64_w])
    try rfl
   refine hK.out _ _ ⟨(ptup_ ha.out 0 hb_ rfl rfl rfl), Q_VB⟩
  refine steps_cons ?_ ?_
  ·rintro b a w' ⟨ha, Q_VB⟩ hb_ hon hoff
   refine ⟨_, rfl, fun K hK => ?_⟩
   have e17 : a.tmps[17]? = some (.slice (some PA) 11 pc) := pton_ ha 0 rfl rfl (hon 1 (by kernel_rfl)) rfl
   replace ha := Aside0.mk ha
   have VB := Aside0.mk Q_VB
   refine value_ (w1 := w') (v := .int .i64 11) (by rfl) rfl ?_ ?_
   ·go_simp
    (try simp only [i64_w])
    try rfl
   refine hK.out _ _ ⟨(ptup_ ha.out 1 hb_ rfl rfl rfl), Q_VB⟩
  refine steps_cons ?_ ?_
  ·rintro b a w' ⟨ha, Q_VB⟩ hb_ hon hoff
   refine ⟨_, rfl, fun K hK => ?_⟩
   have e3 : a.tmps[3]? = some (.pointer (some ⟨g3, 0, none⟩)) := by rw [ha]; exact (putSel_off rfl).trans rfl
   replace ha := Aside0.mk ha
   have VB := Aside0.mk Q_VB
   have hd0_ : w'.cell? ⟨g3, 0, none⟩ = some (.int .i64 3) := (blk_cell (blk_below H3z.out VB.out) 0).trans rfl
   have hd1_ : w'.cell? ⟨g3, 1, none⟩ = some (.int .i64 16) := (blk_cell (blk_below H3z.out VB.out) 1).trans rfl
   have hd2_ : w'.cell? ⟨g3, 2, none⟩ = some (.int .i64 6) := (blk_cell (blk_below H3z.out VB.out) 2).trans rfl
   have hd3_ : w'.cell? ⟨g3, 3, none⟩ = some (.int .i64 256) := (blk_cell (blk_below H3z.out VB.out) 3).trans rfl
   refine value_ (w1 := w') (v := .agg #[.int .i64 3, .int .i64 16, .int .i64 6, .int .i64 256]) (by rfl) rfl ?_ ?_
   ·go_simp
    (try simp only [i64_w])
    try rfl
   refine hK.out _ _ ⟨(ptup_ ha.out 2 hb_ rfl rfl rfl), Q_VB⟩
  refine steps_cons ?_ ?_
  ·rintro b a w' ⟨ha, Q_VB⟩ hb_ hon hoff
   refine ⟨_, rfl, fun K hK => ?_⟩
   have e19 : a.tmps[19]? = some (.agg #[.int .i64 3, .int .i64 16, .int .i64 6, .int .i64 256]) := pton_ ha 2 rfl rfl (hon 3 (by kernel_rfl)) rfl
   replace ha := Aside0.mk ha
   have VB := Aside0.mk Q_VB
   refine goes_ Try.func37 (by kernel_rfl) rfl #[.agg #[.int .i64 3, .int .i64 16, .int .i64 6, .int .i64 256]] (by rfl) rfl rfl (by first | (simp only [List.map_toArray, List.map_cons, List.map_nil, Act.eval, Array.getD_eq_getD_getElem?, Option.getD_some, e19]; done) | (simp only [List.map_toArray, List.map_cons, List.map_nil, Act.eval, Array.getD_eq_getD_getElem?, Option.getD_some, e19]; rfl)) ?_
   refine (virt_any w').mono ?_
   rintro e w1 ⟨rfl, g1⟩
   refine ⟨_, rfl, ?_⟩
   refine hK.out _ _ ⟨(ptup_ ha.out 3 hb_ rfl rfl rfl), bl_seq VB.out g1⟩
  refine steps_cons ?_ ?_
  ·rintro b a w' ⟨ha, Q_VB⟩ hb_ hon hoff
   refine ⟨_, rfl, fun K hK => ?_⟩
   have e18 : a.tmps[18]? = some (.int .i64 11) := pton_ ha 1 rfl rfl (hon 2 (by kernel_rfl)) rfl
   have e20 : a.tmps[20]? = some (.int .i64 11) := pton_ ha 3 rfl rfl (hon 4 (by kernel_rfl)) rfl
   replace ha := Aside0.mk ha
   have VB := Aside0.mk Q_VB
   refine value_ (w1 := w') (v := .bool false) (by rfl) rfl ?_ ?_
   ·go_simp
    (try simp only [i64_w])
    try rfl
   refine hK.out _ _ ⟨(ptup_ ha.out 4 hb_ rfl rfl rfl), Q_VB⟩
  exact steps_nil
 ·rintro b a w' hall ⟨ha, Q_VB⟩
  clear VB
  have hb1_ := hall 1 (by kernel_rfl)
  have hb2_ := hall 2 (by kernel_rfl)
  have hb3_ := hall 3 (by kernel_rfl)
  have hb4_ := hall 4 (by kernel_rfl)
  have hb5_ := hall 5 (by kernel_rfl)
  subst ha
  simp only [putSel, hb1_, hb2_, hb3_, hb4_, hb5_, if_true, Act.put, List.setIfInBounds_toArray, List.set_cons_zero, List.set_cons_succ]
  have VB := Aside0.mk Q_VB
  clear Q_VB
  clear hall hb1_ hb2_ hb3_ hb4_ hb5_
  have H2v := Lib.hid (blk_below H2z.out VB.out)
  have H3v := Lib.hid (blk_below H3z.out VB.out)
  have HBv := Lib.hid (bl_seq HBi.out (DZ.out _ VB.out))
  clear VB H2z H3z DZ H2i H3i HBi
  have y31 : w'.cell? ⟨g3, 1, none⟩ = some (.int .i64 16) := (blk_cell H3v.out 1).trans rfl
  have al1 := bl_alloc (Below.refl w'.heap.size w') (.cells (madeCells #[.int .i64 0] 16) 3)
  have ho := own_made w' w'.heap.size 3 .i64 16 (Nat.le_refl _) (by decide)
  rw [← seenL_nil] at ho
  go_wp2_with fail
  obtain ⟨W1, hW1⟩ : ∃ W1, w'.alloc (.cells (madeCells #[.int .i64 0] 16) 3) = W1 := ⟨_, rfl⟩
  rw [hW1] at al1 ho ⊢
  obtain ⟨g, hg⟩ : ∃ g, w'.heap.size = g := ⟨_, rfl⟩
  have hgl2 : g ≠ g2 := by have h_ := blk_lt H2v.out; omega
  have hgl3 : g ≠ g3 := by have h_ := blk_lt H3v.out; omega
  have hgw : w.heap.size ≤ g := by have h_ := HBv.out.size; omega
  have HNG := Lib.hid (And.intro hgl2 (And.intro hgl3 hgw))
  rw [hg] at ho
  try rw [hg]
  have HS0 := Lib.hid (show CkS w g g2 g3 #[.int .u32 seq, .slice (some PA) 11 pc, .slice SA sn sc, .int .i64 t0, .int .i64 t1] [] W1 from ⟨own_weaken ho hgw, blk_below H2v.out al1, blk_below H3v.out al1, bl_seq HBv.out al1⟩)
  have y1 : W1.cell? ⟨g2, 1, none⟩ = some (.slice (some PA) 11 pc) := (blk_cell HS0.out.2.1 1).trans rfl
  have y2 : W1.cell? ⟨g2, 2, none⟩ = some (.slice SA sn sc) := (blk_cell HS0.out.2.1 2).trans rfl
  clear hW1 al1 ho hg hgl2 hgl3 hgw H2v H3v HBv y31
  go_quiet (fail)
  generalize hwD : World.drewN W1 _ = wD
  have HSD := Lib.hid (show CkS w g g2 g3 #[.int .u32 seq, .slice (some PA) 11 pc, .slice SA sn sc, .int .i64 t0, .int .i64 t1] [] wD by rw [← hwD]; exact ⟨HS0.out.1, HS0.out.2.1, HS0.out.2.2.1, bl_drewN HS0.out.2.2.2 _⟩)
  clear hwD y1 y2 HS0
  go_wp2_with fail
  go_loopw [32] (fun i wr => ∃ k : Nat, k ≤ 3 ∧ i = .int .i64 (k : Int) ∧ Hid (CkS w g g2 g3 #[.int .u32 seq, .slice (some PA) 11 pc, .slice SA sn sc, .int .i64 t0, .int .i64 t1] (if k = 0 then [] else if k = 1 then pl else if k = 2 then pl ++ sp else pl ++ (sp ++ [t0, t1])) wr)) (fun i _ => 3 - (intOf i).toNat)
  case atStart => exact ⟨0, Nat.zero_le _, rfl, HSD⟩
  case round =>
   obtain ⟨k, hk, rfl, HK⟩ := hrel
   by_cases k0 : k = 0
   ·subst k0
    have HK := Lib.hid (show CkS w g g2 g3 #[.int .u32 seq, .slice (some PA) 11 pc, .slice SA sn sc, .int .i64 t0, .int .i64 t1] [] wr from HK.out)
    have hix := fun W => (ix3 (.slice (some PA) 11 pc) (.slice SA sn sc) (.slice (some ⟨g2, 3, none⟩) 2 2) W).1
    go_wp2_with fail
    go_loopw [37] (fun i wq => ∃ j : Nat, j ≤ 11 ∧ i = .int .i64 (j : Int) ∧ Hid (CkS w g g2 g3 #[.int .u32 seq, .slice (some PA) 11 pc, .slice SA sn sc, .int .i64 t0, .int .i64 t1] (([] : List Int) ++ (pl).take j) wq)) (fun i _ => 11 - (intOf i).toNat)
    case atStart => exact ⟨0, Nat.zero_le _, rfl, by simpa using HK⟩
    case round =>
     obtain ⟨j, hj, rfl, HJ⟩ := hrel
     by_cases hlt : j < 11
     ·have hrd := HRP.out.below HJ.out.2.2.2
      obtain ⟨x, hx⟩ : ∃ x, (pl)[j]? = some x := ⟨_, List.getElem?_eq_getElem (by rw [hrd.1]; exact hlt)⟩
      obtain ⟨ad, hA, hc⟩ := hrd.at_ (j : Int) (by omega) (by omega)
      rw [Int.toNat_natCast, rd_getD, List.getD_eq_getElem?_getD, hx, Option.getD_some] at hc
      obtain ⟨m1, m2⟩ := take_mid (pl) j x hx
      have hal : Tb.all ⟨seq, pl, sp, t0, t1⟩ = (([] : List Int) ++ (pl).take j) ++ x :: ((pl).drop (j + 1) ++ (sp ++ [t0, t1])) := by
       rw [show Tb.all ⟨seq, pl, sp, t0, t1⟩ = ([] : List Int) ++ ((pl) ++ (sp ++ [t0, t1])) from by simp [Tb.all]]
       conv => lhs; rw [m1]
       simp only [List.append_assoc, List.cons_append]
      have hnd := HOK.out.nodup
      rw [hal] at hnd
      have hxn := nodup_mid hnd
      have hxr := HOK.out.rng x (by rw [hal]; simp)
      obtain ⟨xn, rfl⟩ := Int.eq_ofNat_of_zero_le hxr.1
      have hx16 : xn < 16 := by omega
      have hse := seenL_rd _ _ hxr.1 hxr.2 hxn
      obtain ⟨o1, o2⟩ := own_at HJ.out.1 (xn : Int) (by omega) (by omega)
      rw [hse, Int.toNat_natCast] at o1
      rw [Int.toNat_natCast] at o2
      have hst := (own_store HJ.out.1 (xn : Int) 1).1
      rw [seenL_set _ _ hxr.1 hxr.2, List.append_assoc, ← m2, Int.toNat_natCast] at hst
      have HNX := Lib.hid (show CkS w g g2 g3 #[.int .u32 seq, .slice (some PA) 11 pc, .slice SA sn sc, .int .i64 t0, .int .i64 t1] (([] : List Int) ++ (pl).take (j + 1)) (wr.setCell ⟨g, xn, none⟩ (.int .i64 1)) from ⟨hst, blk_far HJ.out.2.1 (p := ⟨g, xn, none⟩) (Ne.symm HNG.out.1) _, blk_far HJ.out.2.2.1 (p := ⟨g, xn, none⟩) (Ne.symm HNG.out.2.1) _, bl_set HJ.out.2.2.2 (p := ⟨g, xn, none⟩) HNG.out.2.2 _⟩)
      have y3 : wr.cell? ⟨g3, 1, none⟩ = some (.int .i64 16) := (blk_cell HJ.out.2.2.1 1).trans rfl
      have c1 : decide ((xn : Int) < 0) = false := decide_eq_false (by omega)
      have c2 : decide ((16 : Int) ≤ (xn : Int)) = false := decide_eq_false (by omega)
      have c3 : decide (16 ≤ xn) = false := decide_eq_false (by omega)
      have xI : (xn : Int) < 16 := by omega
      have jI : (j : Int) < 11 := by omega
      obtain rfl := Option.some.inj hA
      skip
      clear hrd hx m1 m2 hal hnd hxn hxr hse hst
      go_wp2_with fail
      go_roundw
      case rel => exact ⟨j + 1, by omega, by go_num, HNX⟩
      case measure => simp [intOf]; omega
     ·have htk : (pl).take j = (pl) := List.take_of_length_le (by omega)
      rw [htk] at HJ
      have jI : ¬ (j : Int) < 11 := by omega
      clear htk
      go_wp2_with fail
      go_roundw
      case rel => exact ⟨0 + 1, by omega, by go_num, by simpa using HJ⟩
      case measure => simp [intOf]
   by_cases k1 : k = 1
   ·subst k1
    have HK := Lib.hid (show CkS w g g2 g3 #[.int .u32 seq, .slice (some PA) 11 pc, .slice SA sn sc, .int .i64 t0, .int .i64 t1] pl wr from HK.out)
    have hix := fun W => (ix3 (.slice (some PA) 11 pc) (.slice SA sn sc) (.slice (some ⟨g2, 3, none⟩) 2 2) W).2.1
    go_wp2_with fail
    go_loopw [37] (fun i wq => ∃ j : Nat, j ≤ sn ∧ i = .int .i64 (j : Int) ∧ Hid (CkS w g g2 g3 #[.int .u32 seq, .slice (some PA) 11 pc, .slice SA sn sc, .int .i64 t0, .int .i64 t1] (pl ++ (sp).take j) wq)) (fun i _ => sn - (intOf i).toNat)
    case atStart => exact ⟨0, Nat.zero_le _, rfl, by simpa using HK⟩
    case round =>
     obtain ⟨j, hj, rfl, HJ⟩ := hrel
     by_cases hlt : j < sn
     ·have hrd := HRS.out.below HJ.out.2.2.2
      obtain ⟨x, hx⟩ : ∃ x, (sp)[j]? = some x := ⟨_, List.getElem?_eq_getElem (by rw [hrd.1]; exact hlt)⟩
      obtain ⟨ad, hA, hc⟩ := hrd.at_ (j : Int) (by omega) (by omega)
      rw [Int.toNat_natCast, rd_getD, List.getD_eq_getElem?_getD, hx, Option.getD_some] at hc
      obtain ⟨m1, m2⟩ := take_mid (sp) j x hx
      have hal : Tb.all ⟨seq, pl, sp, t0, t1⟩ = (pl ++ (sp).take j) ++ x :: ((sp).drop (j + 1) ++ [t0, t1]) := by
       rw [show Tb.all ⟨seq, pl, sp, t0, t1⟩ = pl ++ ((sp) ++ [t0, t1]) from by simp [Tb.all]]
       conv => lhs; rw [m1]
       simp only [List.append_assoc, List.cons_append]
      have hnd := HOK.out.nodup
      rw [hal] at hnd
      have hxn := nodup_mid hnd
      have hxr := HOK.out.rng x (by rw [hal]; simp)
      obtain ⟨xn, rfl⟩ := Int.eq_ofNat_of_zero_le hxr.1
      have hx16 : xn < 16 := by omega
      have hse := seenL_rd _ _ hxr.1 hxr.2 hxn
      obtain ⟨o1, o2⟩ := own_at HJ.out.1 (xn : Int) (by omega) (by omega)
      rw [hse, Int.toNat_natCast] at o1
      rw [Int.toNat_natCast] at o2
      have hst := (own_store HJ.out.1 (xn : Int) 1).1
      rw [seenL_set _ _ hxr.1 hxr.2, List.append_assoc, ← m2, Int.toNat_natCast] at hst
      have HNX := Lib.hid (show CkS w g g2 g3 #[.int .u32 seq, .slice (some PA) 11 pc, .slice SA sn sc, .int .i64 t0, .int .i64 t1] (pl ++ (sp).take (j + 1)) (wr.setCell ⟨g, xn, none⟩ (.int .i64 1)) from ⟨hst, blk_far HJ.out.2.1 (p := ⟨g, xn, none⟩) (Ne.symm HNG.out.1) _, blk_far HJ.out.2.2.1 (p := ⟨g, xn, none⟩) (Ne.symm HNG.out.2.1) _, bl_set HJ.out.2.2.2 (p := ⟨g, xn, none⟩) HNG.out.2.2 _⟩)
      have y3 : wr.cell? ⟨g3, 1, none⟩ = some (.int .i64 16) := (blk_cell HJ.out.2.2.1 1).trans rfl
      have c1 : decide ((xn : Int) < 0) = false := decide_eq_false (by omega)
      have c2 : decide ((16 : Int) ≤ (xn : Int)) = false := decide_eq_false (by omega)
      have c3 : decide (16 ≤ xn) = false := decide_eq_false (by omega)
      have xI : (xn : Int) < 16 := by omega
      have jI : (j : Int) < sn := by omega
      subst hA
      skip
      clear hrd hx m1 m2 hal hnd hxn hxr hse hst
      go_wp2_with fail
      go_roundw
      case rel => exact ⟨j + 1, by omega, by go_num, HNX⟩
      case measure => simp [intOf]; omega
     ·have htk : (sp).take j = (sp) := List.take_of_length_le (by omega)
      rw [htk] at HJ
      have jI : ¬ (j : Int) < sn := by omega
      clear htk
      go_wp2_with fail
      go_roundw
      case rel => exact ⟨1 + 1, by omega, by go_num, by simpa using HJ⟩
      case measure => simp [intOf]
   by_cases k2 : k = 2
   ·subst k2
    have HK := Lib.hid (show CkS w g g2 g3 #[.int .u32 seq, .slice (some PA) 11 pc, .slice SA sn sc, .int .i64 t0, .int .i64 t1] (pl ++ sp) wr from HK.out)
    have hix := fun W => (ix3 (.slice (some PA) 11 pc) (.slice SA sn sc) (.slice (some ⟨g2, 3, none⟩) 2 2) W).2.2
    go_wp2_with fail
    go_loopw [37] (fun i wq => ∃ j : Nat, j ≤ 2 ∧ i = .int .i64 (j : Int) ∧ Hid (CkS w g g2 g3 #[.int .u32 seq, .slice (some PA) 11 pc, .slice SA sn sc, .int .i64 t0, .int .i64 t1] ((pl ++ sp) ++ ([t0, t1]).take j) wq)) (fun i _ => 2 - (intOf i).toNat)
    case atStart => exact ⟨0, Nat.zero_le _, rfl, by simpa using HK⟩
    case round =>
     obtain ⟨j, hj, rfl, HJ⟩ := hrel
     by_cases hlt : j < 2
     ·have hrd := rd_two HJ.out.2.1
      obtain ⟨x, hx⟩ : ∃ x, ([t0, t1])[j]? = some x := ⟨_, List.getElem?_eq_getElem (by rw [hrd.1]; exact hlt)⟩
      obtain ⟨ad, hA, hc⟩ := hrd.at_ (j : Int) (by omega) (by omega)
      rw [Int.toNat_natCast, rd_getD, List.getD_eq_getElem?_getD, hx, Option.getD_some] at hc
      obtain ⟨m1, m2⟩ := take_mid ([t0, t1]) j x hx
      have hal : Tb.all ⟨seq, pl, sp, t0, t1⟩ = ((pl ++ sp) ++ ([t0, t1]).take j) ++ x :: (([t0, t1]).drop (j + 1) ++ ([] : List Int)) := by
       rw [show Tb.all ⟨seq, pl, sp, t0, t1⟩ = (pl ++ sp) ++ (([t0, t1]) ++ ([] : List Int)) from by simp [Tb.all]]
       conv => lhs; rw [m1]
       simp only [List.append_assoc, List.cons_append]
      have hnd := HOK.out.nodup
      rw [hal] at hnd
      have hxn := nodup_mid hnd
      have hxr := HOK.out.rng x (by rw [hal]; simp)
      obtain ⟨xn, rfl⟩ := Int.eq_ofNat_of_zero_le hxr.1
      have hx16 : xn < 16 := by omega
      have hse := seenL_rd _ _ hxr.1 hxr.2 hxn
      obtain ⟨o1, o2⟩ := own_at HJ.out.1 (xn : Int) (by omega) (by omega)
      rw [hse, Int.toNat_natCast] at o1
      rw [Int.toNat_natCast] at o2
      have hst := (own_store HJ.out.1 (xn : Int) 1).1
      rw [seenL_set _ _ hxr.1 hxr.2, List.append_assoc, ← m2, Int.toNat_natCast] at hst
      have HNX := Lib.hid (show CkS w g g2 g3 #[.int .u32 seq, .slice (some PA) 11 pc, .slice SA sn sc, .int .i64 t0, .int .i64 t1] ((pl ++ sp) ++ ([t0, t1]).take (j + 1)) (wr.setCell ⟨g, xn, none⟩ (.int .i64 1)) from ⟨hst, blk_far HJ.out.2.1 (p := ⟨g, xn, none⟩) (Ne.symm HNG.out.1) _, blk_far HJ.out.2.2.1 (p := ⟨g, xn, none⟩) (Ne.symm HNG.out.2.1) _, bl_set HJ.out.2.2.2 (p := ⟨g, xn, none⟩) HNG.out.2.2 _⟩)
      have y3 : wr.cell? ⟨g3, 1, none⟩ = some (.int .i64 16) := (blk_cell HJ.out.2.2.1 1).trans rfl
      have c1 : decide ((xn : Int) < 0) = false := decide_eq_false (by omega)
      have c2 : decide ((16 : Int) ≤ (xn : Int)) = false := decide_eq_false (by omega)
      have c3 : decide (16 ≤ xn) = false := decide_eq_false (by omega)
      have xI : (xn : Int) < 16 := by omega
      have jI : (j : Int) < 2 := by omega
      obtain rfl := Option.some.inj hA
      have hcc := cell_off hc
      clear hrd hx m1 m2 hal hnd hxn hxr hse hst
      go_wp2_with fail
      go_roundw
      case rel => exact ⟨j + 1, by omega, by go_num, HNX⟩
      case measure => simp [intOf]; omega
     ·have htk : ([t0, t1]).take j = ([t0, t1]) := List.take_of_length_le (by simp; omega)
      rw [htk] at HJ
      have jI : ¬ (j : Int) < 2 := by omega
      clear htk
      go_wp2_with fail
      go_roundw
      case rel => exact ⟨2 + 1, by omega, by go_num, by simpa using HJ⟩
      case measure => simp [intOf]
   ·obtain rfl : k = 3 := by omega
    go_wp2_with fail
    go_ret
    exact ⟨rfl, HK.out.2.2.2⟩
end Go.Proofs.Ytffalemndjampaa
end
section
set_option linter.unusedVariables false
set_option linter.unusedSimpArgs false
namespace Go.Proofs.Ytffalemndjampaa
open Go.RowKit Go.Proofs.YtffalemndjampaaW.PrintWords Go.Proofs.YtffalemndjampaaW.PrintLast
def encL (T : Tb) : List Int := le T.seq 4 ++ ((11 :: T.place) ++ (((T.spare.length : Int) :: T.spare) ++ [T.t0, T.t1]))
theorem u8_wrap (x : Int) (h0 : 0 ≤ x) (h1 : x < 256) : IntKind.u8.wrap x = x := by simp [IntKind.wrap, IntKind.bits, IntKind.signed]; omega
theorem far_new {w W : World} {base p : Nat} {v : Value} {l : List Int} {A : Option Addr} {n : Nat} {xs : List Int} (h : ReadsInt w .i64 A n xs) (hB : w.heap.size ≤ base) (hp : w.heap.size ≤ p) (hv : WrV W base p v l) : 0 < n → ∀ a, A = some a → a.block ≠ p ∧ some a.block ≠ v.ownBlock := by
 intro hn a ha
 obtain ⟨ad, e, hc⟩ := h.2.2 hn
 have hlt := World.block_lt_of_cell? w _ (hc 0 hn)
 obtain rfl := Option.some.inj (ha.symm.trans e)
 have hb : ((a.add 0).block) = a.block := rfl
 rw [hb] at hlt
 refine ⟨by omega, fun e2 => ?_⟩
 have := (hv.own.lt _ e2.symm).1
 omega
theorem own_dn {w : World} {B B' : Nat} {e : TypeId} {s n : Nat} {v : Value} {xs : List Value} (h : w.ownsRow B e s v n xs) (hb : B' ≤ B) : w.ownsRow B' e s v n xs := by
 obtain ⟨h1, h2⟩ := h
 refine ⟨h1, ?_⟩
 rcases h2 with h2 | ⟨g, cap, cur, e, hg, r⟩
 ·exact .inl h2
 ·exact .inr ⟨g, cap, cur, e, Nat.le_trans hb hg, r⟩
theorem wstep {w W W' : World} {p g : Nat} {o : Obj} {v : Value} {l : List Int} (hw : w.heap.size ≤ p) (h : W.heap[g]? = some o ∧ Below w.heap.size w W) (hg : g < p) (hs : WrS W p p v l W') : ∃ v', WrV W' p p v' l ∧ (W'.heap[g]? = some o ∧ Below w.heap.size w W') ∧ W.heap.size ≤ W'.heap.size := by
 obtain ⟨v', h1, h2, h3, h4⟩ := hs
 exact ⟨v', h1, ⟨(h4.block g hg).trans h.1, bl_step h.2 h4 hw⟩, h4.size⟩
set_option maxHeartbeats 8000000 in
set_option maxRecDepth 100000 in
theorem enc_any (C : Array Value) (T : Tb) (N : Nat → Prop) (w : World) (h : TbR w N C T) (hT : TbOk T) : Calls Try.prog 62 #[.agg C, .agg #[.int .i64 3, .int .i64 16, .int .i64 6, .int .i64 256]] w fun e w' => ∃ v, e = .returned (.tuple #[v, .int .i64 0]) ∧ New w w' v (encL T) := by
 have HT := Lib.hid h
 have HOK := Lib.hid hT
 obtain ⟨PA, pc, SA, sc, rfl, hpc, hsc, hn3, hrp, hrs, -, -⟩ := h
 have HRP := Lib.hid hrp
 have HRS := Lib.hid hrs
 have hlp := hrp.1
 have hr0 := hT.rng T.t0 (by simp [Tb.all])
 have hr1 := hT.rng T.t1 (by simp [Tb.all])
 have hrp' : ∀ x ∈ T.place, 0 ≤ x ∧ x < 256 := fun x hx => by have := hT.rng x (by simp [Tb.all, hx]); omega
 have hrs' : ∀ x ∈ T.spare, 0 ≤ x ∧ x < 256 := fun x hx => by have := hT.rng x (by simp [Tb.all, hx]); omega
 have HRG := Lib.hid (And.intro hrp' hrs')
 have hsq := And.intro hT.seq0 hT.seq1
 obtain ⟨seq, pl, sp, t0, t1⟩ := T
 simp only at hr0 hr1 hsq
 obtain ⟨sn, hsn⟩ : ∃ sn, sp.length = sn := ⟨_, rfl⟩
 have hC : tbC PA pc SA sc ⟨seq, pl, sp, t0, t1⟩ = #[.int .u32 seq, .slice (some PA) 11 pc, .slice SA sn sc, .int .i64 t0, .int .i64 t1] := by simp only [tbC]; rw [hsn]
 rw [hC] at HT ⊢
 simp only at HRP HRS HRG hn3
 rw [hsn] at HRS hn3
 have HSN := Lib.hid hsn
 have w0e : IntKind.u8.wrap t0 = t0 := u8_wrap t0 hr0.1 (by omega)
 have w1e : IntKind.u8.wrap t1 = t1 := u8_wrap t1 hr1.1 (by omega)
 clear hrp hrs hT hrp' hrs' hC hsn
 have ha := al2_ w #[.int .u32 seq, .slice (some PA) 11 pc, .slice SA sn sc, .int .i64 t0, .int .i64 t1] #[.int .i64 3, .int .i64 16, .int .i64 6, .int .i64 256] 108 50
 go_enter Try.func62, Try.ntmps62
 go_wp2_with fail
 obtain ⟨w0, hw0⟩ : ∃ w0, (w.alloc (.cells #[.int .u32 seq, .slice (some PA) 11 pc, .slice SA sn sc, .int .i64 t0, .int .i64 t1] 108)).alloc (.cells #[.int .i64 3, .int .i64 16, .int .i64 6, .int .i64 256] 50) = w0 := ⟨_, rfl⟩
 rw [hw0] at ha ⊢
 obtain ⟨g2, hg2⟩ : ∃ g2, w.heap.size = g2 := ⟨_, rfl⟩
 obtain ⟨g3, hg3⟩ : ∃ g3, w.heap.size + 1 = g3 := ⟨_, rfl⟩
 rw [hg3] at ha
 rw [hg2] at ha
 try rw [hg3]
 try rw [hg2]
 have H0 := Lib.hid (And.intro ha.1 (show Below w.heap.size w w0 by rw [hg2]; exact ha.2.2))
 clear hw0 ha hg2 hg3
 refine (check_any _ ⟨seq, pl, sp, t0, t1⟩ N w0 (HT.out.below H0.out.2) HOK.out).mono ?_
 rintro e w1 ⟨rfl, hb1⟩
 have H1 := Lib.hid (And.intro (blk_below H0.out.1 hb1) (bl_seq H0.out.2 hb1))
 clear hb1 H0
 have hwv : WrV (w1.alloc (.cells #[.slice none 0 0] 29)) w1.heap.size w1.heap.size (.slice none 0 0) [] := ⟨heap_alloc_new w1 _, own_nil _ _ _ _⟩
 have hwb : Below w1.heap.size w1 (w1.alloc (.cells #[.slice none 0 0] 29)) := bl_alloc (Below.refl _ _) _
 have y0 : ∀ o, (w1.alloc o).cell? ⟨g2, 0, none⟩ = some (.int .u32 seq) := fun o => pw_cell_below (bl_alloc (Below.refl _ _) o) ((blk_cell H1.out.1 0).trans rfl)
 go_wp2_with fail
 obtain ⟨w2, hw2⟩ : ∃ w2, w1.alloc (.cells #[.slice none 0 0] 29) = w2 := ⟨_, rfl⟩
 have hsz2 : w2.heap.size = w1.heap.size + 1 := by rw [← hw2]; simp
 rw [hw2] at hwv hwb ⊢
 obtain ⟨p, hp⟩ : ∃ p, w1.heap.size = p := ⟨_, rfl⟩
 have hpw : w.heap.size ≤ p := by rw [← hp]; exact H1.out.2.size
 have hgp0 : g2 < p := by rw [← hp]; exact blk_lt H1.out.1
 rw [hp] at hwv hsz2 hwb
 try rw [hp]
 have H2 := Lib.hid (And.intro (blk_below H1.out.1 (by rw [hp]; exact hwb)) (bl_seq H1.out.2 (by rw [hp]; exact hwb)))
 have HW2 := Lib.hid hwv
 have HPW := Lib.hid (And.intro hpw hgp0)
 have HB2 := Lib.hid hsz2
 clear hw2 hsz2 hwv hwb hp hpw hgp0 y0
 refine (U32_box p p (.slice none 0 0) [] [seq] 1 (p + 1) w2 _ HB2.out.symm rfl HW2.out (Nat.le_refl _) (by rw [HB2.out]; omega) rfl (fun x hx => by obtain rfl := List.mem_singleton.1 hx; exact hsq) (by simp)).mono ?_
 rintro e w3 ⟨rfl, hs⟩
 have he4 : les 4 [seq] = le seq 4 := by simp [les]
 rw [he4, List.nil_append] at hs
 obtain ⟨v3, hv3, h3, hz3⟩ := wstep HPW.out.1 H2.out HPW.out.2 hs
 have H3 := Lib.hid (And.intro h3 (Nat.le_trans (by rw [HB2.out]; omega : p ≤ w2.heap.size) hz3))
 have HV3 := Lib.hid hv3
 have y1 : w3.cell? ⟨g2, 1, none⟩ = some (.slice (some PA) 11 pc) := (blk_cell h3.1 1).trans rfl
 clear hs he4 hv3 h3 hz3
 go_wp2_with fail
 clear y1
 have hl3 : (le seq 4).length = 4 := le_length _ _
 refine (list_any p p v3 (le seq 4) pl (some PA) 11 pc w3 HV3.out (Nat.le_refl _) H3.out.2 (HRP.out.below H3.out.1.2) (far_new HRP.out HPW.out.1 HPW.out.1 HV3.out) HRG.out.1 (by omega) (by omega)).mono ?_
 rintro e w4 ⟨rfl, hs⟩
 obtain ⟨v4, hv4, h4, hz4⟩ := wstep HPW.out.1 H3.out.1 HPW.out.2 hs
 have H4 := Lib.hid (And.intro h4 (Nat.le_trans H3.out.2 hz4))
 have HV4 := Lib.hid hv4
 have y2 : w4.cell? ⟨g2, 2, none⟩ = some (.slice SA sn sc) := (blk_cell h4.1 2).trans rfl
 clear hs hv4 h4 hz4
 go_wp2_with fail
 clear y2
 have hl4 : (le seq 4 ++ ((11 : Nat) : Int) :: pl).length = 16 := by simp [hl3, hlp]
 refine (list_any p p v4 (le seq 4 ++ ((11 : Nat) : Int) :: pl) sp SA sn sc w4 HV4.out (Nat.le_refl _) H4.out.2 (HRS.out.below H4.out.1.2) (far_new HRS.out HPW.out.1 HPW.out.1 HV4.out) HRG.out.2 (by omega) (by omega)).mono ?_
 rintro e w5 ⟨rfl, hs⟩
 obtain ⟨v5, hv5, h5, hz5⟩ := wstep HPW.out.1 H4.out.1 HPW.out.2 hs
 have H5 := Lib.hid (And.intro h5 (Nat.le_trans H4.out.2 hz5))
 have HV5 := Lib.hid hv5
 have y3 : w5.cell? ⟨g2, 3, none⟩ = some (.int .i64 t0) := (blk_cell h5.1 3).trans rfl
 have y4 : w5.cell? ⟨g2, 4, none⟩ = some (.int .i64 t1) := (blk_cell h5.1 4).trans rfl
 clear hs hv5 h5 hz5
 have hl5 : ((le seq 4 ++ ((11 : Nat) : Int) :: pl) ++ (sn : Int) :: sp).length = 17 + sn := by simp only [List.length_append, List.length_cons]; have := HSN.out; simp only [hl3, hlp]; omega
 go_wp2_with fail
 clear y3 y4
 refine (U8_box p p v5 ((le seq 4 ++ ((11 : Nat) : Int) :: pl) ++ (sn : Int) :: sp) [t0, t1] 2 w5.heap.size w5 _ rfl rfl HV5.out (Nat.le_refl _) H5.out.2 rfl (fun x hx => by simp only [List.mem_cons, List.not_mem_nil, or_false] at hx; rcases hx with rfl | rfl <;> omega) (by omega)).mono ?_
 rintro e w6 ⟨rfl, hs⟩
 obtain ⟨v6, hv6, h6, hz6⟩ := wstep HPW.out.1 H5.out.1 HPW.out.2 hs
 have he6 : (le seq 4 ++ ((11 : Nat) : Int) :: pl) ++ (sn : Int) :: sp ++ les 1 [t0, t1] = encL ⟨seq, pl, sp, t0, t1⟩ := by
  have e1 : les 1 [t0, t1] = [t0, t1] := by simp [les, le]; omega
  rw [e1]
  simp only [encL]
  rw [HSN.out]
  simp
 have hle : (encL ⟨seq, pl, sp, t0, t1⟩).length = 19 + sn := by rw [← he6]; simp only [List.length_append, hl5]; simp [les, le]; omega
 rw [he6] at hv6
 have H6 := Lib.hid (And.intro h6 hv6)
 clear hs hv6 h6 hz6 he6
 go_wp2_with fail
 refine (Bytes_any p p v6 _ w6 H6.out.2 (by omega)).mono ?_
 rintro e w7 ⟨v7, rfl, ho, hb7⟩
 have H7 := Lib.hid (And.intro ho hb7)
 clear ho hb7
 go_wp2_with fail
 go_ret2
 exact ⟨v7, rfl, own_dn H7.out.1 H6.out.1.2.size, bl_seq H6.out.1.2 H7.out.2⟩
end Go.Proofs.Ytffalemndjampaa
end
section
namespace Go.Proofs.Ytffalemndjampaa
open Go.RowKit Go.Proofs.YtffalemndjampaaW.PrintWords
theorem WrV.first (w : World) (b : Nat) (h : w.heap[b]? = some (.cells #[.slice none 0 0] 29 (0, 0))) (base : Nat) : WrV w base b (.slice none 0 0) [] := ⟨h, own_nil _ _ _ _⟩
theorem WrV.hold {w w' : World} {base p b : Nat} {v : Value} {L : List Int} {cs : Array Value} {t : TypeId} (hv : WrV w base p v L) (hk : KeepBut w w' p v.ownBlock) (h : w.heap[b]? = some (.cells cs t (0, 0))) (ht : t ≠ 29) (hu : 5 ≠ t) : w'.heap[b]? = some (.cells cs t (0, 0)) := by
 refine hk.blk h ?_ (own_ne hv.own h hu)
 rintro rfl
 rw [hv.blk] at h
 injection h with h
 injection h with h1 h2 h3
 exact ht h2.symm
theorem WrV.apart {w : World} {base p b : Nat} {v : Value} {L : List Int} {cs : Array Value} {t : TypeId} (hv : WrV w base p v L) (h : w.heap[b]? = some (.cells cs t (0, 0))) (ht : t ≠ 29) (hu : 5 ≠ t) (o n : Nat) : 0 < n → ∀ a, some (⟨b, o, none⟩ : Addr) = some a → a.block ≠ p ∧ some a.block ≠ v.ownBlock := by
 intro _ a ha
 obtain rfl := Option.some.inj ha
 refine ⟨?_, own_ne hv.own h hu⟩
 rintro rfl
 rw [hv.blk] at h
 injection h with h
 injection h with h1 h2 h3
 exact ht h2.symm
theorem WrV.apart0 {w : World} {base p b : Nat} {L : List Int} {cs : Array Value} {t : TypeId} (hv : WrV w base p (.slice none 0 0) L) (h : w.heap[b]? = some (.cells cs t (0, 0))) (ht : t ≠ 29) (o n : Nat) : 0 < n → ∀ a, some (⟨b, o, none⟩ : Addr) = some a → a.block ≠ p ∧ some a.block ≠ (Value.slice none 0 0).ownBlock := by
 intro _ a ha
 obtain rfl := Option.some.inj ha
 refine ⟨?_, by simp [Value.ownBlock]⟩
 rintro rfl
 rw [hv.blk] at h
 injection h with h
 injection h with h1 h2 h3
 exact ht h2.symm
theorem reads_cells {w : World} {b o n : Nat} {cs : Array Value} {t : TypeId} {k : IntKind} {xs : List Int} (h : w.heap[b]? = some (.cells cs t (0, 0))) (hn : xs.length = n) (hm : n ≤ 9223372036854775807) (hx : (cs.toList.drop o).take n = nums k xs) : ReadsInt w k (some ⟨b, o, none⟩) n xs := by
 refine ⟨hn, hm, fun h0 => ⟨_, rfl, fun j hj => ?_⟩⟩
 have hs : xs[j]? = some (xs.getD j 0) := by rw [List.getD_eq_getElem?_getD, List.getElem?_eq_getElem (by omega)]; rfl
 have h2 : (nums k xs)[j]? = some (.int k (xs.getD j 0)) := by rw [nums, List.getElem?_map, hs]; rfl
 rw [← hx, List.getElem?_take_of_lt hj, List.getElem?_drop] at h2
 have h3 : (⟨b, o, none⟩ : Addr).add j = ⟨b, o + j, none⟩ := by unfold Addr.add; split <;> simp_all
 rw [h3, blk_cell h]
 simpa using h2
end Go.Proofs.Ytffalemndjampaa
end
section
namespace Go.Proofs.Ytffalemndjampaa
def crcP : BitVec 32 := 0x82F63B78#32
def crcT (s : BitVec 32) : BitVec 32 := (s >>> 1) ^^^ (if s.getLsbD 0 then crcP else 0#32)
def crcN : Nat → BitVec 32 → BitVec 32
 | 0, s => s
 | n + 1, s => crcN n (crcT s)
def crcB (s : BitVec 32) (l : List (BitVec 32)) : BitVec 32 := l.foldl (fun s c => crcN 8 (s ^^^ c)) s
theorem crcB_append (s : BitVec 32) (l m : List (BitVec 32)) : crcB s (l ++ m) = crcB (crcB s l) m := by simp [crcB]
end Go.Proofs.Ytffalemndjampaa
end
section
namespace Go.Proofs.Ytffalemndjampaa
def crcV (x : Int) : BitVec 32 := BitVec.ofNat 32 x.toNat
def crcS (s : BitVec 32) (l : List Int) : BitVec 32 := crcB s (l.map crcV)
def crcOf (l : List Int) : Int := ((~~~ (crcS (~~~ 0#32) l)).toNat : Int)
theorem crcOf_bound (l : List Int) : 0 ≤ crcOf l ∧ crcOf l < 4294967296 := by
 have h := (~~~ (crcS (~~~ 0#32) l)).isLt
 unfold crcOf
 omega
theorem crcN_T : ∀ (n : Nat) (s : BitVec 32), crcN n (crcT s) = crcT (crcN n s)
 | 0, _ => rfl
 | n + 1, s => by rw [crcN, crcN_T n, crcN]
end Go.Proofs.Ytffalemndjampaa
end
section
set_option linter.unusedVariables false
set_option linter.unusedSimpArgs false
namespace Go.Proofs.Ytffalemndjampaa
open Go.RowKit Go.Proofs.YtffalemndjampaaW.PrintWords
structure Hd where
 k : Int
 e : Int
 b : Int
 i : Int
 c : Int
 l : Int
 m : Int
structure Hd.ok (h : Hd) : Prop where
 k0 : 0 ≤ h.k
 k1 : h.k < 256
 e0 : 0 ≤ h.e
 e1 : h.e < 4294967296
 b0 : 0 ≤ h.b
 b1 : h.b < 4294967296
 i0 : 0 ≤ h.i
 i1 : h.i < 65536
 c0 : 0 ≤ h.c
 c1 : h.c < 65536
 l0 : 0 ≤ h.l
 l1 : h.l < 4294967296
 m0 : 0 ≤ h.m
 m1 : h.m < 4294967296
def hd0 : Hd := ⟨0, 0, 0, 0, 0, 0, 0⟩
def at_ (xs : List Int) (k n : Nat) : Int := num ((xs.drop k).take n)
theorem at_bound (xs : List Int) (a n : Nat) (hb : Byt xs) (hn : n ≤ 4) : 0 ≤ at_ xs a n ∧ at_ xs a n < 256 ^ n := by
 have h := num_bound ((xs.drop a).take n) (fun x hx => hb x (List.drop_subset _ _ (List.take_subset _ _ hx)))
 have hl : ((xs.drop a).take n).length ≤ n := by rw [List.length_take]; omega
 refine ⟨h.1, Int.lt_of_lt_of_le h.2 ?_⟩
 exact pow256 _ hl hn
def fieldsL (h : Hd) : List Int := le 22356 2 ++ (le h.k 1 ++ (le 0 1 ++ (le h.e 4 ++ (le h.b 4 ++ (le h.i 2 ++ (le h.c 2 ++ (le h.l 4 ++ le h.m 4)))))))
theorem fieldsL_length (h : Hd) : (fieldsL h).length = 24 := by simp [fieldsL, le_length]
def tailL (xs : List Int) : List Int := padL (xs.take 32) 32
theorem tailL_length (xs : List Int) : (tailL xs).length = 32 := by
 rw [tailL, padL, List.length_append, List.length_replicate, List.length_take, show (32 : Int).toNat = 32 from rfl]; omega
theorem byt_append {a b : List Int} (ha : Byt a) (hb : Byt b) : Byt (a ++ b) := fun x hx => by
 rcases List.mem_append.1 hx with h | h
 ·exact ha x h
 ·exact hb x h
theorem byt_rep (n : Nat) : Byt (List.replicate n 0) := fun x hx => by obtain ⟨_, rfl⟩ := List.mem_replicate.1 hx; omega
theorem tailL_byt {xs : List Int} (h : Byt xs) : Byt (tailL xs) := byt_append (fun x hx => h x (List.take_subset _ _ hx)) (byt_rep _)
theorem fieldsL_byt (h : Hd) : Byt (fieldsL h) := by
 unfold fieldsL
 exact byt_append (le_byt _ _) (byt_append (le_byt _ _) (byt_append (le_byt _ _) (byt_append (le_byt _ _) (byt_append (le_byt _ _) (byt_append (le_byt _ _) (byt_append (le_byt _ _) (byt_append (le_byt _ _) (le_byt _ _))))))))
def sumL (h : Hd) (data bes : List Int) : Int := crcOf (fieldsL h ++ data ++ tailL bes)
def sealL (h : Hd) (data bes : List Int) : List Int := fieldsL h ++ (le (sumL h data bes) 4 ++ (le 0 4 ++ tailL bes))
theorem sealL_length (h : Hd) (data bes : List Int) : (sealL h data bes).length = 64 := by simp [sealL, fieldsL_length, le_length, tailL_length]
theorem sealL_byt (h : Hd) (data : List Int) {bes : List Int} (hb : Byt bes) : Byt (sealL h data bes) :=
 byt_append (fieldsL_byt h) (byt_append (le_byt _ _) (byt_append (le_byt _ _) (tailL_byt hb)))
def openH (o : List Int) : Hd := ⟨at_ o 2 1, at_ o 4 4, at_ o 8 4, at_ o 12 2, at_ o 14 2, at_ o 16 4, at_ o 20 4⟩
theorem openH_ok {o : List Int} (hb : Byt o) : (openH o).ok := by
 have a1 := at_bound o 2 1 hb (by omega)
 have a2 := at_bound o 4 4 hb (by omega)
 have a3 := at_bound o 8 4 hb (by omega)
 have a4 := at_bound o 12 2 hb (by omega)
 have a5 := at_bound o 14 2 hb (by omega)
 have a6 := at_bound o 16 4 hb (by omega)
 have a7 := at_bound o 20 4 hb (by omega)
 constructor <;> simp [openH] <;> omega
def rightO (data o : List Int) : Bool := at_ o 0 2 == 22356 && (at_ o 3 1 == 0 && (at_ o 28 4 == 0 && at_ o 24 4 == crcOf (o.take 24 ++ data ++ o.drop 32)))
theorem right_no {data o : List Int} (hs : at_ o 24 4 ≠ crcOf (o.take 24 ++ data ++ o.drop 32)) : rightO data o = false := by rw [rightO, beq_eq_false_iff_ne.2 hs]; simp
def openB (data o : List Int) : Bool := decide (o.length = 64) && (rightO data o && (decide (1 ≤ at_ o 2 1) && decide (at_ o 2 1 ≤ 6)))
theorem at_app (a b : List Int) (k n : Nat) (h : a.length = k) : at_ (a ++ b) k n = num (b.take n) := by
 rw [at_, List.drop_append_of_le_length (by omega), List.drop_of_length_le (by omega), List.nil_append]
theorem at_le {xs a b : List Int} {k n : Nat} {x : Int} (e : xs = a ++ (le x n ++ b)) (h : a.length = k) (h0 : 0 ≤ x) (h1 : x < 256 ^ n) : at_ xs k n = x := by
 rw [e, at_app a _ k n h, List.take_append_of_le_length (by rw [le_length]; omega), List.take_of_length_le (by rw [le_length]; omega), num_le x n h0 h1]
section
variable (h : Hd) (data bes : List Int)
theorem seal_take : (sealL h data bes).take 24 = fieldsL h := by
 rw [sealL, List.take_append_of_le_length (by rw [fieldsL_length]; omega), List.take_of_length_le (by rw [fieldsL_length]; omega)]
theorem seal_drop : (sealL h data bes).drop 32 = tailL bes := by
 have e : sealL h data bes = (fieldsL h ++ (le (sumL h data bes) 4 ++ le 0 4)) ++ tailL bes := by simp [sealL]
 have hl : (fieldsL h ++ (le (sumL h data bes) 4 ++ le 0 4)).length = 32 := by simp [fieldsL_length, le_length]
 rw [e, List.drop_append_of_le_length (by omega), List.drop_of_length_le (by omega), List.nil_append]
theorem seal_sum : at_ (sealL h data bes) 24 4 = sumL h data bes := by
 have hb := crcOf_bound (fieldsL h ++ data ++ tailL bes)
 exact at_le (a := fieldsL h) rfl (fieldsL_length h) hb.1 hb.2
theorem seal_rest : at_ (sealL h data bes) 28 4 = 0 :=
 at_le (a := fieldsL h ++ le (sumL h data bes) 4) (b := tailL bes) (by simp [sealL]) (by simp [fieldsL_length, le_length]) (by omega) (by decide)
variable {h}
theorem seal_magic : at_ (sealL h data bes) 0 2 = 22356 :=
 at_le (a := []) (b := (le h.k 1 ++ (le 0 1 ++ (le h.e 4 ++ (le h.b 4 ++ (le h.i 2 ++ (le h.c 2 ++ (le h.l 4 ++ le h.m 4))))))) ++ (le (sumL h data bes) 4 ++ (le 0 4 ++ tailL bes))) (by simp [sealL, fieldsL]) rfl (by omega) (by decide)
theorem seal_zero : at_ (sealL h data bes) 3 1 = 0 :=
 at_le (a := le 22356 2 ++ le h.k 1) (b := (le h.e 4 ++ (le h.b 4 ++ (le h.i 2 ++ (le h.c 2 ++ (le h.l 4 ++ le h.m 4))))) ++ (le (sumL h data bes) 4 ++ (le 0 4 ++ tailL bes))) (by simp [sealL, fieldsL]) (by simp [le_length]) (by omega) (by decide)
theorem seal_head (ho : h.ok) : openH (sealL h data bes) = h := by
 have a1 : at_ (sealL h data bes) 2 1 = h.k := at_le (a := le 22356 2) (b := (le 0 1 ++ (le h.e 4 ++ (le h.b 4 ++ (le h.i 2 ++ (le h.c 2 ++ (le h.l 4 ++ le h.m 4)))))) ++ (le (sumL h data bes) 4 ++ (le 0 4 ++ tailL bes))) (by simp [sealL, fieldsL]) (by simp [le_length]) ho.k0 (by have := ho.k1; omega)
 have a2 : at_ (sealL h data bes) 4 4 = h.e := at_le (a := le 22356 2 ++ (le h.k 1 ++ le 0 1)) (b := (le h.b 4 ++ (le h.i 2 ++ (le h.c 2 ++ (le h.l 4 ++ le h.m 4)))) ++ (le (sumL h data bes) 4 ++ (le 0 4 ++ tailL bes))) (by simp [sealL, fieldsL]) (by simp [le_length]) ho.e0 (by have := ho.e1; omega)
 have a3 : at_ (sealL h data bes) 8 4 = h.b := at_le (a := le 22356 2 ++ (le h.k 1 ++ (le 0 1 ++ le h.e 4))) (b := (le h.i 2 ++ (le h.c 2 ++ (le h.l 4 ++ le h.m 4))) ++ (le (sumL h data bes) 4 ++ (le 0 4 ++ tailL bes))) (by simp [sealL, fieldsL]) (by simp [le_length]) ho.b0 (by have := ho.b1; omega)
 have a4 : at_ (sealL h data bes) 12 2 = h.i := at_le (a := le 22356 2 ++ (le h.k 1 ++ (le 0 1 ++ (le h.e 4 ++ le h.b 4)))) (b := (le h.c 2 ++ (le h.l 4 ++ le h.m 4)) ++ (le (sumL h data bes) 4 ++ (le 0 4 ++ tailL bes))) (by simp [sealL, fieldsL]) (by simp [le_length]) ho.i0 (by have := ho.i1; omega)
 have a5 : at_ (sealL h data bes) 14 2 = h.c := at_le (a := le 22356 2 ++ (le h.k 1 ++ (le 0 1 ++ (le h.e 4 ++ (le h.b 4 ++ le h.i 2))))) (b := (le h.l 4 ++ le h.m 4) ++ (le (sumL h data bes) 4 ++ (le 0 4 ++ tailL bes))) (by simp [sealL, fieldsL]) (by simp [le_length]) ho.c0 (by have := ho.c1; omega)
 have a6 : at_ (sealL h data bes) 16 4 = h.l := at_le (a := le 22356 2 ++ (le h.k 1 ++ (le 0 1 ++ (le h.e 4 ++ (le h.b 4 ++ (le h.i 2 ++ le h.c 2)))))) (b := le h.m 4 ++ (le (sumL h data bes) 4 ++ (le 0 4 ++ tailL bes))) (by simp [sealL, fieldsL]) (by simp [le_length]) ho.l0 (by have := ho.l1; omega)
 have a7 : at_ (sealL h data bes) 20 4 = h.m := at_le (a := le 22356 2 ++ (le h.k 1 ++ (le 0 1 ++ (le h.e 4 ++ (le h.b 4 ++ (le h.i 2 ++ (le h.c 2 ++ le h.l 4))))))) (b := le (sumL h data bes) 4 ++ (le 0 4 ++ tailL bes)) (by simp [sealL, fieldsL]) (by simp [le_length]) ho.m0 (by have := ho.m1; omega)
 rw [openH, a1, a2, a3, a4, a5, a6, a7]
theorem seal_right : rightO data (sealL h data bes) = true := by
 rw [rightO, seal_magic, seal_zero, seal_rest, seal_sum, seal_take, seal_drop, sumL]
 simp
def kindB (h : Hd) : Bool := decide (1 ≤ h.k) && decide (h.k ≤ 6)
theorem openB_def (data o : List Int) : openB data o = (decide (o.length = 64) && (rightO data o && kindB (openH o))) := rfl
theorem seal_open (ho : h.ok) : openB data (sealL h data bes) = kindB h := by
 rw [openB_def, sealL_length, seal_right, seal_head data bes ho]
 simp
end
end Go.Proofs.Ytffalemndjampaa
end
