/- What the proof of TopSealed leans on: Tr Ts. -/
import Derived.Test.YtffalemndjampaaQat
section
set_option linter.unusedVariables false
set_option linter.unusedSimpArgs false
namespace Go.Proofs.Ytffalemndjampaa
open Go.RowKit Go.Proofs.YtffalemndjampaaW.PrintWords Go.Proofs.YtffalemndjampaaW.PrintLast
def salGo (ar : Ar) (fr kb : Nat) : Nat → Nat → St → St × Int
 | 0, _, s => (s, 0)
 | n + 1, i, s => if (readS ar s).2 = 0 then (if (progS ar (readS ar s).1 kb i (pgD ((s.bl fr).pg i))).2 = 0 then salGo ar fr kb n (i + 1) (progS ar (readS ar s).1 kb i (pgD ((s.bl fr).pg i))).1 else progS ar (readS ar s).1 kb i (pgD ((s.bl fr).pg i))) else readS ar s
def salS (ar : Ar) (s : St) (fr kb p : Nat) (x : List Int × List Int) : St × Int :=
 if (eraseS ar s kb).2 = 0 then (if (salGo ar fr kb p 0 (eraseS ar s kb).1).2 = 0 then progS ar (salGo ar fr kb p 0 (eraseS ar s kb).1).1 kb p x else salGo ar fr kb p 0 (eraseS ar s kb).1) else eraseS ar s kb
theorem salGo_ops (ar : Ar) (fr kb : Nat) : ∀ (n i : Nat) (s : St), s.ops ≤ (salGo ar fr kb n i s).1.ops ∧ (salGo ar fr kb n i s).1.ops ≤ s.ops + 2 * (n : Int) := by
 intro n
 induction n with
 | zero => intro i s; simp [salGo]
 | succ n ih =>
  intro i s
  have h1 := readS_ops ar s
  have h2 := progS_ops ar (readS ar s).1 kb i (pgD ((s.bl fr).pg i))
  rw [salGo]
  split
  ·split
   ·have h3 := ih (i + 1) (progS ar (readS ar s).1 kb i (pgD ((s.bl fr).pg i))).1
    omega
   ·omega
  ·omega
theorem salS_ops (ar : Ar) (s : St) (fr kb p : Nat) (x : List Int × List Int) : s.ops ≤ (salS ar s fr kb p x).1.ops ∧ (salS ar s fr kb p x).1.ops ≤ s.ops + 2 * (p : Int) + 2 := by
 have h1 := eraseS_ops ar s kb
 have h2 := salGo_ops ar fr kb p 0 (eraseS ar s kb).1
 have h3 := progS_ops ar (salGo ar fr kb p 0 (eraseS ar s kb).1).1 kb p x
 unfold salS
 split
 ·split <;> omega
 ·omega
theorem Arr.pgbyt {w : World} {ar : Ar} {ok : Nat → Prop} {s : St} (h : Arr w ar ok s) (i p : Nat) (hi : i < 16) (hp : p < 6) : Byt (pgD ((s.bl i).pg p)).1 ∧ Byt (pgD ((s.bl i).pg p)).2 := by
 rcases h.pg i p hi hp with ⟨h0, _⟩ | ⟨x, A, c, B, c', h0, _, _, _, _, _, _, _, _, h1, h2⟩
 ·rw [h0]
  exact ⟨fun x hx => by have h_ := List.eq_of_mem_replicate (show x ∈ List.replicate 256 (255 : Int) from hx); omega, fun x hx => by have h_ := List.eq_of_mem_replicate (show x ∈ List.replicate 64 (255 : Int) from hx); omega⟩
 ·rw [h0]; exact ⟨h1, h2⟩
def TrA.T1 : Bool × List (List Nat × List Nat) := (true, [([], []), ([0], [0]), ([1], [1]), ([2], [2]), ([], []), ([4], [4]), ([5], [5]), ([6], [6]), ([], []), ([3, 7, 8], [3, 7, 8]), ([9, 9, 0, 1, 2, 3, 4, 5, 6, 7, 8, 9], [9])])
def TrA.B1 : List Nat := [0, 1, 3, 7, 0, 16, 48, 112, 0, 511, 1023]
theorem TrA.tab1 : rtab .any (opsOf Try.f43 1) = TrA.T1 := by kernel_rfl
theorem TrA.bits1 : waitsOk TrA.T1.2 TrA.B1 = true := by kernel_rfl
def TrB.T7 : Bool × List (List Nat × List Nat) := (true, [([], []), ([0], [0]), ([1], [1]), ([2], [2]), ([], []), ([4], [4]), ([5], [5]), ([6], [6]), ([], []), ([], []), ([3, 7, 8, 9], [3, 7, 8, 9]), ([10], [10]), ([11], [11]), ([11], [11]), ([11], [11]), ([12, 10, 0, 1, 2, 3, 4, 5, 6, 7, 8, 9, 10, 11, 12], [12]), ([13, 15, 0, 1, 2, 3, 4, 5, 6, 7, 8, 9, 10, 11, 12, 13, 15], [13]), ([14, 16, 0, 1, 2, 3, 4, 5, 6, 7, 8, 9, 10, 11, 12, 13, 14, 15, 16], [14])])
def TrB.B7 : List Nat := [0, 1, 3, 7, 0, 16, 48, 112, 0, 0, 1023, 2047, 4095, 4095, 4095, 8191, 49151, 131071]
theorem TrB.tab7 : rtab .any (opsOf Try.f43 7) = TrB.T7 := by kernel_rfl
theorem TrB.bits7 : waitsOk TrB.T7.2 TrB.B7 = true := by kernel_rfl
def TrC.T10 : Bool × List (List Nat × List Nat) := (true, [([], []), ([0], [0]), ([1], [1]), ([2], [2]), ([], []), ([4], [4]), ([5], [5]), ([6], [6]), ([], []), ([], []), ([], []), ([], []), ([3, 7, 8, 9, 10, 11], [3, 7, 8, 9, 10, 11]), ([12, 12, 0, 1, 2, 3, 4, 5, 6, 7, 8, 9, 10, 11, 12], [12])])
def TrC.B10 : List Nat := [0, 1, 3, 7, 0, 16, 48, 112, 0, 0, 0, 0, 4095, 8191]
theorem TrC.tab10 : rtab .any (opsOf Try.f43 10) = TrC.T10 := by kernel_rfl
theorem TrC.bits10 : waitsOk TrC.T10.2 TrC.B10 = true := by kernel_rfl
def TrD.T14 : Bool × List (List Nat × List Nat) := (true, [([], []), ([0], [0]), ([1], [1]), ([2], [2]), ([], []), ([4], [4]), ([5], [5]), ([6], [6]), ([], []), ([], []), ([], []), ([], []), ([3, 7, 8, 9, 10, 11], [3, 7, 8, 9, 10, 11]), ([12, 12, 0, 1, 2, 3, 4, 5, 6, 7, 8, 9, 10, 11, 12], [12])])
def TrD.B14 : List Nat := [0, 1, 3, 7, 0, 16, 48, 112, 0, 0, 0, 0, 4095, 8191]
theorem TrD.tab14 : rtab .any (opsOf Try.f43 14) = TrD.T14 := by kernel_rfl
theorem TrD.bits14 : waitsOk TrD.T14.2 TrD.B14 = true := by kernel_rfl
set_option maxHeartbeats 16000000 in
set_option maxRecDepth 100000 in
theorem salvage_any (ar : Ar) (ok N : Nat → Prop) (s : St) (vp fr kb p : Nat) (T : Tb) (A B : Addr) (cA cB : Nat) (d o : List Int) (w : World) (hE : Env w ar ok N vp) (h : Arr w ar ok s) (hv : VolR w vp ar.p N T) (hfr : fr < 16) (hb : kb < 16) (hp : p < 6) (h0 : 0 ≤ s.ops) (h1 : s.ops + 20 ≤ 1000000)
  (hd : ReadsInt w .u8 (some A) 256 d) (ho : ReadsInt w .u8 (some B) 64 o) (hA : ¬ ar.M A.block) (hB : ¬ ar.M B.block) (byd : Byt d) (byo : Byt o) :
  Calls Try.prog 43 #[.pointer (some ⟨vp, 0, none⟩), .int .i64 (fr : Int), .int .i64 (kb : Int), .int .i64 (p : Int), .slice (some A) 256 cA, .slice (some B) 64 cB] w (StQ w ar ok (salS ar s fr kb p (d, o))) := by
 obtain ⟨PA, pc, SA, sc, hv1, hv2⟩ := hv
 simp only [volC] at hv1
 obtain ⟨seq, hsq⟩ : ∃ seq, T.seq = seq := ⟨_, rfl⟩
 obtain ⟨sn, hsn⟩ : ∃ sn, T.spare.length = sn := ⟨_, rfl⟩
 obtain ⟨t0, ht0⟩ : ∃ t0, T.t0 = t0 := ⟨_, rfl⟩
 obtain ⟨t1, ht1⟩ : ∃ t1, T.t1 = t1 := ⟨_, rfl⟩
 rw [hsq, hsn, ht0, ht1] at hv1
 have HV := Lib.hid hv1
 have HA := Lib.hid h
 have HE := Lib.hid hE
 have HD := Lib.hid (And.intro hd (And.intro ho (And.intro hA (And.intro hB (And.intro byd byo)))))
 have HOP := Lib.hid (eraseS_ops ar s kb)
 have HM := Lib.hid (show ∀ k, ar.M k → k < w.heap.size from fun k hk => h.M_lt hk)
 clear hv2 h hE hd ho hA hB byd byo hsq hsn ht0 ht1
 go_enter Try.func43, Try.ntmps43
 go_wp2_with fail
 have HVW := HV.out
 refine start_ (n := 11) (S := fun w' => True) (ds := []) _ (by kernel_rfl) rfl rfl trivial (fun hHeld => ?_)
 refine with_tabW TrA.tab1 TrA.bits1 (fun HT_ HW_ => ?_)
 have HVz := Lib.hid (show w.drew.heap[vp]? = _ from HVW)
 have HAz := Lib.hid (HA.out.below (show Below w.heap.size w w.drew from bl_drew (Below.refl _ _)))
 have HEz := Lib.hid (show Env w.drew ar ok N vp from HE.out.later (Nat.le_refl _))
 have DZ := Lib.hid (show Mods ar.M w w.drew from (Mods.refl _ w).drewN 1)
 generalize w.drew = wz at HVz HAz HEz DZ hHeld ⊢
 have VB := Lib.hid (Below.refl wz.heap.size wz)
 refine pur_ 0 (some 19) HT_.out rfl rfl (by kernel_rfl) (fun _ _ _ h => h) (by rfl) (fun w' => by go_simp; with_reducible rfl) (by simp only [Act.put, List.setIfInBounds_toArray, List.set_cons_zero, List.set_cons_succ, i64_w, i32_w]; rfl) ?_
 refine pur_ 1 (some 20) HT_.out rfl rfl (by kernel_rfl) (fun _ _ _ h => h) (by rfl) (fun w' => by go_simp; with_reducible rfl) (by simp only [Act.put, List.setIfInBounds_toArray, List.set_cons_zero, List.set_cons_succ, i64_w, i32_w]; rfl) ?_
 refine pur_ 2 (some 21) HT_.out rfl rfl (by kernel_rfl) (fun _ _ _ h => h) (by rfl) (fun w' => by go_simp; with_reducible rfl) (by simp only [Act.put, List.setIfInBounds_toArray, List.set_cons_zero, List.set_cons_succ, i64_w, i32_w]; rfl) ?_
 refine pur_ 4 (some 23) HT_.out rfl rfl (by kernel_rfl) (fun _ _ _ h => h) (by rfl) (fun w' => by go_simp; with_reducible rfl) (by simp only [Act.put, List.setIfInBounds_toArray, List.set_cons_zero, List.set_cons_succ, i64_w, i32_w]; rfl) ?_
 refine pur_ 5 (some 24) HT_.out rfl rfl (by kernel_rfl) (fun _ _ _ h => h) (by rfl) (fun w' => by go_simp; with_reducible rfl) (by simp only [Act.put, List.setIfInBounds_toArray, List.set_cons_zero, List.set_cons_succ, i64_w, i32_w]; rfl) ?_
 refine pur_ 6 (some 25) HT_.out rfl rfl (by kernel_rfl) (fun _ _ _ h => h) (by rfl) (fun w' => by go_simp; with_reducible rfl) (by simp only [Act.put, List.setIfInBounds_toArray, List.set_cons_zero, List.set_cons_succ, i64_w, i32_w]; rfl) ?_
 refine pur_ 8 (some 27) HT_.out rfl rfl (by kernel_rfl) (fun _ _ _ h => h) (by rfl) (fun w' => by go_simp; with_reducible rfl) (by simp only [Act.put, List.setIfInBounds_toArray, List.set_cons_zero, List.set_cons_succ, i64_w, i32_w]; rfl) ?_
 refine inv_at [3, 7, 9, 10] (fun a0_ b a w' => a = putSel a0_ b [(3, 22, .pointer (some ⟨ar.p, 0, none⟩)), (7, 26, .int .i64 0), (9, 28, .int .i64 (eraseS ar s kb).2), (10, 13, .int .i64 (eraseS ar s kb).2)] ∧ (b 9 = false → Below wz.heap.size wz w') ∧ (b 9 = true → Arr w' ar ok (eraseS ar s kb).1 ∧ Mods ar.M wz w')) HT_.out HW_.out (by kernel_rfl) (by kernel_rfl) ?_ ?_ ?_
 ·exact ⟨by simp only [putSel, Bool.false_eq_true, if_false], fun _ => VB.out, fun h_ => absurd h_ (by decide)⟩
 ·skip
  clear VB
  refine steps_cons ?_ ?_
  ·rintro b a w' ⟨ha, Q_VB, Q_VQ⟩ hb_ hon hoff
   refine ⟨_, rfl, fun K hK => ?_⟩
   have e21 : a.tmps[21]? = some (.pointer (some ⟨vp, 0, none⟩)) := by rw [ha]; exact (putSel_off rfl).trans rfl
   replace ha := Aside0.mk ha
   have VB := Aside0.mk (Q_VB (hoff 9 (by kernel_rfl)))
   have hc0_ : w'.cell? ⟨vp, 0, none⟩ = some (.pointer (some ⟨ar.p, 0, none⟩)) := (blk_cell (blk_below HVz.out VB.out) 0).trans rfl
   refine value_ (w1 := w') (v := .pointer (some ⟨ar.p, 0, none⟩)) (by rfl) rfl ?_ ?_
   ·go_simp
    (try simp only [i64_w])
    try rfl
   refine hK.out _ _ ⟨(ptup_ ha.out 0 hb_ rfl rfl rfl), Q_VB, off_ (hoff 9 (by kernel_rfl))⟩
  refine steps_cons ?_ ?_
  ·rintro b a w' ⟨ha, Q_VB, Q_VQ⟩ hb_ hon hoff
   refine ⟨_, rfl, fun K hK => ?_⟩
   have e25 : a.tmps[25]? = some (.pointer (some ⟨vp, 1, none⟩)) := by rw [ha]; exact (putSel_off rfl).trans rfl
   replace ha := Aside0.mk ha
   have VB := Aside0.mk (Q_VB (hoff 9 (by kernel_rfl)))
   have hc1_ : w'.cell? ⟨vp, 1, none⟩ = some (.int .i64 0) := (blk_cell (blk_below HVz.out VB.out) 1).trans rfl
   refine value_ (w1 := w') (v := .int .i64 0) (by rfl) rfl ?_ ?_
   ·go_simp
    (try simp only [i64_w])
    try rfl
   refine hK.out _ _ ⟨(ptup_ ha.out 1 hb_ rfl rfl rfl), Q_VB, off_ (hoff 9 (by kernel_rfl))⟩
  refine steps_cons ?_ ?_
  ·rintro b a w' ⟨ha, Q_VB, Q_VQ⟩ hb_ hon hoff
   refine ⟨_, rfl, fun K hK => ?_⟩
   have e22 : a.tmps[22]? = some (.pointer (some ⟨ar.p, 0, none⟩)) := pton_ ha 0 rfl rfl (hon 3 (by kernel_rfl)) rfl
   have e26 : a.tmps[26]? = some (.int .i64 0) := pton_ ha 1 rfl rfl (hon 7 (by kernel_rfl)) rfl
   have e27 : a.tmps[27]? = some (.int .i64 (kb : Int)) := by rw [ha]; exact (putSel_off rfl).trans rfl
   replace ha := Aside0.mk ha
   have VB := Aside0.mk (Q_VB hb_)
   refine goes_ Try.func36 (by kernel_rfl) rfl #[.pointer (some ⟨ar.p, 0, none⟩), .int .i64 0, .int .i64 (kb : Int)] (by rfl) rfl rfl (by first | (simp only [List.map_toArray, List.map_cons, List.map_nil, Act.eval, Array.getD_eq_getD_getElem?, Option.getD_some, e22, e26, e27]; done) | (simp only [List.map_toArray, List.map_cons, List.map_nil, Act.eval, Array.getD_eq_getD_getElem?, Option.getD_some, e22, e26, e27]; rfl)) ?_
   refine (nerase_any ar ok s kb w' HEz.out.fix HEz.out.ok_M (HEz.out.later VB.out.size).ok_n (HAz.out.below VB.out) hb h0 (by omega)).mono ?_
   rintro e w1 ⟨rfl, q1, q2⟩
   refine ⟨_, rfl, ?_⟩
   refine hK.out _ _ ⟨(ptup_ ha.out 2 hb_ rfl rfl rfl), fun h0_ => absurd ((up_self b 9).symm.trans h0_) (by decide), fun _ => ⟨q1, (Mods.of_below VB.out).trans q2⟩⟩
  refine steps_cons ?_ ?_
  ·rintro b a w' ⟨ha, Q_VB, Q_VQ⟩ hb_ hon hoff
   refine ⟨_, rfl, fun K hK => ?_⟩
   have e28 : a.tmps[28]? = some (.int .i64 (eraseS ar s kb).2) := pton_ ha 2 rfl rfl (hon 9 (by kernel_rfl)) rfl
   replace ha := Aside0.mk ha
   have VQ := Aside0.mk (Q_VQ (hon 9 (by kernel_rfl)))
   refine value_ (w1 := w') (v := .int .i64 (eraseS ar s kb).2) (by rfl) rfl ?_ ?_
   ·go_simp
    (try simp only [i64_w])
    try rfl
   refine hK.out _ _ ⟨(ptup_ ha.out 3 hb_ rfl rfl rfl), fun h0_ => absurd ((hon 9 (by kernel_rfl)).symm.trans h0_) (by decide), Q_VQ⟩
  exact steps_nil
 ·rintro b a w' hall ⟨ha, Q_VB, Q_VQ⟩
  clear VB
  have hb3_ := hall 3 (by kernel_rfl)
  have hb7_ := hall 7 (by kernel_rfl)
  have hb9_ := hall 9 (by kernel_rfl)
  have hb10_ := hall 10 (by kernel_rfl)
  subst ha
  simp only [putSel, hb3_, hb7_, hb9_, hb10_, if_true, Act.put, List.setIfInBounds_toArray, List.set_cons_zero, List.set_cons_succ]
  clear Q_VB
  have VQ := Aside0.mk (Q_VQ hb9_)
  clear Q_VQ
  clear hall hb3_ hb7_ hb9_ hb10_
  clear HVz HAz HEz
  have HQ := Lib.hid (show Arr w' ar ok (eraseS ar s kb).1 ∧ Mods ar.M w w' from ⟨VQ.out.1, DZ.out.trans VQ.out.2⟩)
  clear VQ DZ HVW
  generalize w' = w1 at HQ ⊢
  obtain ⟨sA, hs1⟩ : ∃ sA, (eraseS ar s kb).1 = sA := ⟨_, rfl⟩
  obtain ⟨e1, he1⟩ : ∃ e1, (eraseS ar s kb).2 = e1 := ⟨_, rfl⟩
  have HL := Lib.hid (show salS ar s fr kb p (d, o) = if e1 = 0 then (if (salGo ar fr kb p 0 sA).2 = 0 then progS ar (salGo ar fr kb p 0 sA).1 kb p (d, o) else salGo ar fr kb p 0 sA) else (sA, e1) by unfold salS; rw [he1, hs1, ← he1, ← hs1])
  rw [hs1] at HQ HOP
  rw [he1]
  clear hs1 he1
  by_cases hz : e1 = 0
  ·subst hz
   have hl := HL.out
   rw [if_pos rfl] at hl
   have HL := Lib.hid hl
   clear hl
   go_wp2_with fail
   go_loopw [33] (fun i wr => ∃ (j : Nat) (s' : St), i = .int .i64 (j : Int) ∧ j ≤ p ∧ s.ops ≤ s'.ops ∧ s'.ops + 2 * ((p : Int) - (j : Int)) + 1 ≤ 1000000 ∧ Hid (salGo ar fr kb (p - j) j s' = salGo ar fr kb p 0 sA) ∧ Hid (Arr wr ar ok s' ∧ Mods ar.M w wr)) (fun i _ => p - (intOf i).toNat)
   case atStart => exact ⟨0, sA, rfl, Nat.zero_le _, HOP.out.1, by have h_ := HOP.out.2; omega, Lib.hid rfl, Lib.hid HQ.out⟩
   case round =>
    obtain ⟨j, s1, rfl, hj, ho0, ho1, HG, HI⟩ := hrel
    have HE1 := Lib.hid (HE.out.later HI.out.2.size)
    have HVW := HI.out.2.blk HV.out HE.out.vM
    clear HQ HA HOP
    by_cases hlt : j < p
    ·have hs0 : 0 ≤ s1.ops := by omega
     have hs1 : s1.ops ≤ 1000000 := by omega
     have hj6 : j < 6 := by omega
     have HRO := Lib.hid (readS_ops ar s1)
     have hjp : (j : Int) < (p : Int) := by omega
     go_wp2_with fail
     refine start_ (n := 18) (S := fun w' => True) (ds := []) _ (by kernel_rfl) rfl rfl trivial (fun hHeld => ?_)
     refine with_tabW TrB.tab7 TrB.bits7 (fun HT_ HW_ => ?_)
     have HVz := Lib.hid (show wr.drew.heap[vp]? = _ from HVW)
     have HAz := Lib.hid (HI.out.1.below (show Below wr.heap.size wr wr.drew from bl_drew (Below.refl _ _)))
     have HEz := Lib.hid (show Env wr.drew ar ok N vp from HE1.out.later (Nat.le_refl _))
     have DZ := Lib.hid (show Mods ar.M wr wr.drew from (Mods.refl _ wr).drewN 1)
     generalize wr.drew = wz at HVz HAz HEz DZ hHeld ⊢
     have VB := Lib.hid (Below.refl wz.heap.size wz)
     refine pur_ 0 (some 37) HT_.out rfl rfl (by kernel_rfl) (fun _ _ _ h => h) (by rfl) (fun w' => by go_simp; with_reducible rfl) (by simp only [Act.put, List.setIfInBounds_toArray, List.set_cons_zero, List.set_cons_succ, i64_w, i32_w]; rfl) ?_
     refine pur_ 1 (some 38) HT_.out rfl rfl (by kernel_rfl) (fun _ _ _ h => h) (by rfl) (fun w' => by go_simp; with_reducible rfl) (by simp only [Act.put, List.setIfInBounds_toArray, List.set_cons_zero, List.set_cons_succ, i64_w, i32_w]; rfl) ?_
     refine pur_ 2 (some 39) HT_.out rfl rfl (by kernel_rfl) (fun _ _ _ h => h) (by rfl) (fun w' => by go_simp; with_reducible rfl) (by simp only [Act.put, List.setIfInBounds_toArray, List.set_cons_zero, List.set_cons_succ, i64_w, i32_w]; rfl) ?_
     refine pur_ 4 (some 41) HT_.out rfl rfl (by kernel_rfl) (fun _ _ _ h => h) (by rfl) (fun w' => by go_simp; with_reducible rfl) (by simp only [Act.put, List.setIfInBounds_toArray, List.set_cons_zero, List.set_cons_succ, i64_w, i32_w]; rfl) ?_
     refine pur_ 5 (some 42) HT_.out rfl rfl (by kernel_rfl) (fun _ _ _ h => h) (by rfl) (fun w' => by go_simp; with_reducible rfl) (by simp only [Act.put, List.setIfInBounds_toArray, List.set_cons_zero, List.set_cons_succ, i64_w, i32_w]; rfl) ?_
     refine pur_ 6 (some 43) HT_.out rfl rfl (by kernel_rfl) (fun _ _ _ h => h) (by rfl) (fun w' => by go_simp; with_reducible rfl) (by simp only [Act.put, List.setIfInBounds_toArray, List.set_cons_zero, List.set_cons_succ, i64_w, i32_w]; rfl) ?_
     refine pur_ 8 (some 45) HT_.out rfl rfl (by kernel_rfl) (fun _ _ _ h => h) (by rfl) (fun w' => by go_simp; with_reducible rfl) (by simp only [Act.put, List.setIfInBounds_toArray, List.set_cons_zero, List.set_cons_succ, i64_w, i32_w]; rfl) ?_
     refine pur_ 9 (some 46) HT_.out rfl rfl (by kernel_rfl) (fun _ _ _ h => h) (by rfl) (fun w' => by go_simp; with_reducible rfl) (by simp only [Act.put, List.setIfInBounds_toArray, List.set_cons_zero, List.set_cons_succ, i64_w, i32_w]; rfl) ?_
     refine inv_at [3, 7, 10, 11, 12, 13, 14, 15, 16, 17] (fun a0_ b a w' => ∃ (xdv : Value) (xov : Value) (m10_ : Value) (m11_ : Value) (m12_ : Value) (m13_ : Value) (m15_ : Value) (m16_ : Value), a = putSel a0_ b [(3, 40, .pointer (some ⟨ar.p, 0, none⟩)), (7, 44, .int .i64 0), (10, 47, m10_), (11, 36, m11_), (12, 48, m12_), (13, 49, m13_), (14, 50, .int .i64 (readS ar s1).2), (15, 15, m15_), (16, 16, m16_), (17, 17, .int .i64 (readS ar s1).2)] ∧ (b 10 = false → Below wz.heap.size wz w') ∧ (b 10 = true → Arr w' ar ok (readS ar s1).1 ∧ Mods ar.M wz w' ∧ ((readS ar s1).2 = 0 → ∃ A c B c', xdv = .slice (some A) 256 c ∧ xov = .slice (some B) 64 c' ∧ ReadsInt w' .u8 (some A) 256 (pgD ((s1.bl fr).pg j)).1 ∧ ReadsInt w' .u8 (some B) 64 (pgD ((s1.bl fr).pg j)).2 ∧ wz.heap.size ≤ A.block ∧ wz.heap.size ≤ B.block)) ∧ (b 10 = true → (m10_ : Value) = .tuple #[xdv, xov, .int .i64 (readS ar s1).2]) ∧ (b 11 = true → (m11_ : Value) = .tuple #[xdv, xov, .int .i64 (readS ar s1).2]) ∧ (b 12 = true → (m12_ : Value) = xdv) ∧ (b 13 = true → (m13_ : Value) = xov) ∧ (b 15 = true → (m15_ : Value) = xdv) ∧ (b 16 = true → (m16_ : Value) = xov)) HT_.out HW_.out (by kernel_rfl) (by kernel_rfl) ?_ ?_ ?_
     ·exact ⟨.bool false, .bool false, .bool false, .bool false, .bool false, .bool false, .bool false, .bool false, by simp only [putSel, Bool.false_eq_true, if_false], fun _ => VB.out, fun h_ => absurd h_ (by decide), fun h_ => absurd h_ (by decide), fun h_ => absurd h_ (by decide), fun h_ => absurd h_ (by decide), fun h_ => absurd h_ (by decide), fun h_ => absurd h_ (by decide), fun h_ => absurd h_ (by decide)⟩
     ·skip
      clear VB
      refine steps_cons ?_ ?_
      ·rintro b a w' ⟨xdv, xov, m10_, m11_, m12_, m13_, m15_, m16_, ha, Q_VB, Q_VQ, Q_X10_, Q_X11_, Q_X12_, Q_X13_, Q_X15_, Q_X16_⟩ hb_ hon hoff
       refine ⟨_, rfl, fun K hK => ?_⟩
       have e39 : a.tmps[39]? = some (.pointer (some ⟨vp, 0, none⟩)) := by rw [ha]; exact (putSel_off rfl).trans rfl
       replace ha := Aside0.mk ha
       have VB := Aside0.mk (Q_VB (hoff 10 (by kernel_rfl)))
       have hc0_ : w'.cell? ⟨vp, 0, none⟩ = some (.pointer (some ⟨ar.p, 0, none⟩)) := (blk_cell (blk_below HVz.out VB.out) 0).trans rfl
       refine value_ (w1 := w') (v := .pointer (some ⟨ar.p, 0, none⟩)) (by rfl) rfl ?_ ?_
       ·go_simp
        (try simp only [i64_w])
        try rfl
       refine hK.out _ _ ⟨xdv, xov, m10_, m11_, m12_, m13_, m15_, m16_, (ptup_ ha.out 0 hb_ rfl rfl rfl), Q_VB, off_ (hoff 10 (by kernel_rfl)), off_ (hoff 10 (by kernel_rfl)), off_ (hoff 11 (by kernel_rfl)), off_ (hoff 12 (by kernel_rfl)), off_ (hoff 13 (by kernel_rfl)), off_ (hoff 15 (by kernel_rfl)), off_ (hoff 16 (by kernel_rfl))⟩
      refine steps_cons ?_ ?_
      ·rintro b a w' ⟨xdv, xov, m10_, m11_, m12_, m13_, m15_, m16_, ha, Q_VB, Q_VQ, Q_X10_, Q_X11_, Q_X12_, Q_X13_, Q_X15_, Q_X16_⟩ hb_ hon hoff
       refine ⟨_, rfl, fun K hK => ?_⟩
       have e43 : a.tmps[43]? = some (.pointer (some ⟨vp, 1, none⟩)) := by rw [ha]; exact (putSel_off rfl).trans rfl
       replace ha := Aside0.mk ha
       have VB := Aside0.mk (Q_VB (hoff 10 (by kernel_rfl)))
       have hc1_ : w'.cell? ⟨vp, 1, none⟩ = some (.int .i64 0) := (blk_cell (blk_below HVz.out VB.out) 1).trans rfl
       refine value_ (w1 := w') (v := .int .i64 0) (by rfl) rfl ?_ ?_
       ·go_simp
        (try simp only [i64_w])
        try rfl
       refine hK.out _ _ ⟨xdv, xov, m10_, m11_, m12_, m13_, m15_, m16_, (ptup_ ha.out 1 hb_ rfl rfl rfl), Q_VB, off_ (hoff 10 (by kernel_rfl)), off_ (hoff 10 (by kernel_rfl)), off_ (hoff 11 (by kernel_rfl)), off_ (hoff 12 (by kernel_rfl)), off_ (hoff 13 (by kernel_rfl)), off_ (hoff 15 (by kernel_rfl)), off_ (hoff 16 (by kernel_rfl))⟩
      refine steps_cons ?_ ?_
      ·rintro b a w' ⟨xdv, xov, m10_, m11_, m12_, m13_, m15_, m16_, ha, Q_VB, Q_VQ, Q_X10_, Q_X11_, Q_X12_, Q_X13_, Q_X15_, Q_X16_⟩ hb_ hon hoff
       refine ⟨_, rfl, fun K hK => ?_⟩
       have e40 : a.tmps[40]? = some (.pointer (some ⟨ar.p, 0, none⟩)) := pton_ ha 0 rfl rfl (hon 3 (by kernel_rfl)) rfl
       have e44 : a.tmps[44]? = some (.int .i64 0) := pton_ ha 1 rfl rfl (hon 7 (by kernel_rfl)) rfl
       have e45 : a.tmps[45]? = some (.int .i64 (fr : Int)) := by rw [ha]; exact (putSel_off rfl).trans rfl
       have e46 : a.tmps[46]? = some (.int .i64 (j : Int)) := by rw [ha]; exact (putSel_off rfl).trans rfl
       replace ha := Aside0.mk ha
       have VB := Aside0.mk (Q_VB hb_)
       refine goes_ Try.func46 (by kernel_rfl) rfl #[.pointer (some ⟨ar.p, 0, none⟩), .int .i64 0, .int .i64 (fr : Int), .int .i64 (j : Int)] (by rfl) rfl rfl (by first | (simp only [List.map_toArray, List.map_cons, List.map_nil, Act.eval, Array.getD_eq_getD_getElem?, Option.getD_some, e40, e44, e45, e46]; done) | (simp only [List.map_toArray, List.map_cons, List.map_nil, Act.eval, Array.getD_eq_getD_getElem?, Option.getD_some, e40, e44, e45, e46]; rfl)) ?_
       refine (nread_any ar ok s1 fr j w' HEz.out.fix HEz.out.ok_M (HAz.out.below VB.out) hfr hj6 hs0 hs1).mono ?_
       rintro e w1 ⟨dv_, ov_, rfl, q1, q2, q3⟩
       refine ⟨_, rfl, ?_⟩
       refine hK.out _ _ ⟨dv_, ov_, (.tuple #[dv_, ov_, .int .i64 (readS ar s1).2]), m11_, m12_, m13_, m15_, m16_, (ptup_ ha.out 2 hb_ rfl rfl rfl), fun h0_ => absurd ((up_self b 10).symm.trans h0_) (by decide), fun _ => ⟨q1, (Mods.of_below VB.out).trans q2, fun h_ => by obtain ⟨A, c, B, c', z1, z2, z3, z4, z5, z6, z7, z8⟩ := q3 h_; exact ⟨A, c, B, c', z1, z2, z5, z6, Nat.le_trans VB.out.size z7, Nat.le_trans VB.out.size z8⟩⟩, fun _ => rfl, off_ (hoff 11 (by kernel_rfl)), off_ (hoff 12 (by kernel_rfl)), off_ (hoff 13 (by kernel_rfl)), off_ (hoff 15 (by kernel_rfl)), off_ (hoff 16 (by kernel_rfl))⟩
      refine steps_cons ?_ ?_
      ·rintro b a w' ⟨xdv, xov, m10_, m11_, m12_, m13_, m15_, m16_, ha, Q_VB, Q_VQ, Q_X10_, Q_X11_, Q_X12_, Q_X13_, Q_X15_, Q_X16_⟩ hb_ hon hoff
       refine ⟨_, rfl, fun K hK => ?_⟩
       have e47 : a.tmps[47]? = some (m10_) := pton_ ha 2 rfl rfl (hon 10 (by kernel_rfl)) rfl
       rw [Q_X10_ (hon 10 (by kernel_rfl))] at e47
       replace ha := Aside0.mk ha
       have VQ := Aside0.mk (Q_VQ (hon 10 (by kernel_rfl)))
       refine value_ (w1 := w') (v := .tuple #[xdv, xov, .int .i64 (readS ar s1).2]) (by rfl) rfl ?_ ?_
       ·go_simp
        (try simp only [i64_w])
        try rfl
       refine hK.out _ _ ⟨xdv, xov, m10_, (.tuple #[xdv, xov, .int .i64 (readS ar s1).2]), m12_, m13_, m15_, m16_, (ptup_ ha.out 3 hb_ rfl rfl rfl), fun h0_ => absurd ((hon 10 (by kernel_rfl)).symm.trans h0_) (by decide), Q_VQ, Q_X10_, fun _ => rfl, off_ (hoff 12 (by kernel_rfl)), off_ (hoff 13 (by kernel_rfl)), off_ (hoff 15 (by kernel_rfl)), off_ (hoff 16 (by kernel_rfl))⟩
      refine steps_cons ?_ ?_
      ·rintro b a w' ⟨xdv, xov, m10_, m11_, m12_, m13_, m15_, m16_, ha, Q_VB, Q_VQ, Q_X10_, Q_X11_, Q_X12_, Q_X13_, Q_X15_, Q_X16_⟩ hb_ hon hoff
       refine ⟨_, rfl, fun K hK => ?_⟩
       have e36 : a.tmps[36]? = some (m11_) := pton_ ha 3 rfl rfl (hon 11 (by kernel_rfl)) rfl
       rw [Q_X11_ (hon 11 (by kernel_rfl))] at e36
       replace ha := Aside0.mk ha
       have VQ := Aside0.mk (Q_VQ (hon 10 (by kernel_rfl)))
       refine value_ (w1 := w') (v := xdv) (by rfl) rfl ?_ ?_
       ·go_simp
        (try simp only [i64_w])
        try rfl
       refine hK.out _ _ ⟨xdv, xov, m10_, m11_, (xdv), m13_, m15_, m16_, (ptup_ ha.out 4 hb_ rfl rfl rfl), fun h0_ => absurd ((hon 10 (by kernel_rfl)).symm.trans h0_) (by decide), Q_VQ, Q_X10_, Q_X11_, fun _ => rfl, Q_X13_, off_ (hoff 15 (by kernel_rfl)), off_ (hoff 16 (by kernel_rfl))⟩
      refine steps_cons ?_ ?_
      ·rintro b a w' ⟨xdv, xov, m10_, m11_, m12_, m13_, m15_, m16_, ha, Q_VB, Q_VQ, Q_X10_, Q_X11_, Q_X12_, Q_X13_, Q_X15_, Q_X16_⟩ hb_ hon hoff
       refine ⟨_, rfl, fun K hK => ?_⟩
       have e36 : a.tmps[36]? = some (m11_) := pton_ ha 3 rfl rfl (hon 11 (by kernel_rfl)) rfl
       rw [Q_X11_ (hon 11 (by kernel_rfl))] at e36
       replace ha := Aside0.mk ha
       have VQ := Aside0.mk (Q_VQ (hon 10 (by kernel_rfl)))
       refine value_ (w1 := w') (v := xov) (by rfl) rfl ?_ ?_
       ·go_simp
        (try simp only [i64_w])
        try rfl
       refine hK.out _ _ ⟨xdv, xov, m10_, m11_, m12_, (xov), m15_, m16_, (ptup_ ha.out 5 hb_ rfl rfl rfl), fun h0_ => absurd ((hon 10 (by kernel_rfl)).symm.trans h0_) (by decide), Q_VQ, Q_X10_, Q_X11_, Q_X12_, fun _ => rfl, Q_X15_, off_ (hoff 16 (by kernel_rfl))⟩
      refine steps_cons ?_ ?_
      ·rintro b a w' ⟨xdv, xov, m10_, m11_, m12_, m13_, m15_, m16_, ha, Q_VB, Q_VQ, Q_X10_, Q_X11_, Q_X12_, Q_X13_, Q_X15_, Q_X16_⟩ hb_ hon hoff
       refine ⟨_, rfl, fun K hK => ?_⟩
       have e36 : a.tmps[36]? = some (m11_) := pton_ ha 3 rfl rfl (hon 11 (by kernel_rfl)) rfl
       rw [Q_X11_ (hon 11 (by kernel_rfl))] at e36
       replace ha := Aside0.mk ha
       have VQ := Aside0.mk (Q_VQ (hon 10 (by kernel_rfl)))
       refine value_ (w1 := w') (v := .int .i64 (readS ar s1).2) (by rfl) rfl ?_ ?_
       ·go_simp
        (try simp only [i64_w])
        try rfl
       refine hK.out _ _ ⟨xdv, xov, m10_, m11_, m12_, m13_, m15_, m16_, (ptup_ ha.out 6 hb_ rfl rfl rfl), fun h0_ => absurd ((hon 10 (by kernel_rfl)).symm.trans h0_) (by decide), Q_VQ, Q_X10_, Q_X11_, Q_X12_, Q_X13_, Q_X15_, Q_X16_⟩
      refine steps_cons ?_ ?_
      ·rintro b a w' ⟨xdv, xov, m10_, m11_, m12_, m13_, m15_, m16_, ha, Q_VB, Q_VQ, Q_X10_, Q_X11_, Q_X12_, Q_X13_, Q_X15_, Q_X16_⟩ hb_ hon hoff
       refine ⟨_, rfl, fun K hK => ?_⟩
       have e48 : a.tmps[48]? = some (m12_) := pton_ ha 4 rfl rfl (hon 12 (by kernel_rfl)) rfl
       rw [Q_X12_ (hon 12 (by kernel_rfl))] at e48
       replace ha := Aside0.mk ha
       have VQ := Aside0.mk (Q_VQ (hon 10 (by kernel_rfl)))
       refine value_ (w1 := w') (v := xdv) (by rfl) rfl ?_ ?_
       ·go_simp
        (try simp only [i64_w])
        try rfl
       refine hK.out _ _ ⟨xdv, xov, m10_, m11_, m12_, m13_, (xdv), m16_, (ptup_ ha.out 7 hb_ rfl rfl rfl), fun h0_ => absurd ((hon 10 (by kernel_rfl)).symm.trans h0_) (by decide), Q_VQ, Q_X10_, Q_X11_, Q_X12_, Q_X13_, fun _ => rfl, off_ (hoff 16 (by kernel_rfl))⟩
      refine steps_cons ?_ ?_
      ·rintro b a w' ⟨xdv, xov, m10_, m11_, m12_, m13_, m15_, m16_, ha, Q_VB, Q_VQ, Q_X10_, Q_X11_, Q_X12_, Q_X13_, Q_X15_, Q_X16_⟩ hb_ hon hoff
       refine ⟨_, rfl, fun K hK => ?_⟩
       have e49 : a.tmps[49]? = some (m13_) := pton_ ha 5 rfl rfl (hon 13 (by kernel_rfl)) rfl
       rw [Q_X13_ (hon 13 (by kernel_rfl))] at e49
       replace ha := Aside0.mk ha
       have VQ := Aside0.mk (Q_VQ (hon 10 (by kernel_rfl)))
       refine value_ (w1 := w') (v := xov) (by rfl) rfl ?_ ?_
       ·go_simp
        (try simp only [i64_w])
        try rfl
       refine hK.out _ _ ⟨xdv, xov, m10_, m11_, m12_, m13_, m15_, (xov), (ptup_ ha.out 8 hb_ rfl rfl rfl), fun h0_ => absurd ((hon 10 (by kernel_rfl)).symm.trans h0_) (by decide), Q_VQ, Q_X10_, Q_X11_, Q_X12_, Q_X13_, Q_X15_, fun _ => rfl⟩
      refine steps_cons ?_ ?_
      ·rintro b a w' ⟨xdv, xov, m10_, m11_, m12_, m13_, m15_, m16_, ha, Q_VB, Q_VQ, Q_X10_, Q_X11_, Q_X12_, Q_X13_, Q_X15_, Q_X16_⟩ hb_ hon hoff
       refine ⟨_, rfl, fun K hK => ?_⟩
       have e50 : a.tmps[50]? = some (.int .i64 (readS ar s1).2) := pton_ ha 6 rfl rfl (hon 14 (by kernel_rfl)) rfl
       replace ha := Aside0.mk ha
       have VQ := Aside0.mk (Q_VQ (hon 10 (by kernel_rfl)))
       refine value_ (w1 := w') (v := .int .i64 (readS ar s1).2) (by rfl) rfl ?_ ?_
       ·go_simp
        (try simp only [i64_w])
        try rfl
       refine hK.out _ _ ⟨xdv, xov, m10_, m11_, m12_, m13_, m15_, m16_, (ptup_ ha.out 9 hb_ rfl rfl rfl), fun h0_ => absurd ((hon 10 (by kernel_rfl)).symm.trans h0_) (by decide), Q_VQ, Q_X10_, Q_X11_, Q_X12_, Q_X13_, Q_X15_, Q_X16_⟩
      exact steps_nil
     ·rintro b a w' hall ⟨xdv, xov, m10_, m11_, m12_, m13_, m15_, m16_, ha, Q_VB, Q_VQ, Q_X10_, Q_X11_, Q_X12_, Q_X13_, Q_X15_, Q_X16_⟩
      clear VB
      have hb3_ := hall 3 (by kernel_rfl)
      have hb7_ := hall 7 (by kernel_rfl)
      have hb10_ := hall 10 (by kernel_rfl)
      have hb11_ := hall 11 (by kernel_rfl)
      have hb12_ := hall 12 (by kernel_rfl)
      have hb13_ := hall 13 (by kernel_rfl)
      have hb14_ := hall 14 (by kernel_rfl)
      have hb15_ := hall 15 (by kernel_rfl)
      have hb16_ := hall 16 (by kernel_rfl)
      have hb17_ := hall 17 (by kernel_rfl)
      subst ha
      obtain rfl := Q_X10_ hb10_
      obtain rfl := Q_X11_ hb11_
      obtain rfl := Q_X12_ hb12_
      obtain rfl := Q_X13_ hb13_
      obtain rfl := Q_X15_ hb15_
      obtain rfl := Q_X16_ hb16_
      simp only [putSel, hb3_, hb7_, hb10_, hb11_, hb12_, hb13_, hb14_, hb15_, hb16_, hb17_, if_true, Act.put, List.setIfInBounds_toArray, List.set_cons_zero, List.set_cons_succ]
      clear Q_VB
      have VQ := Aside0.mk (Q_VQ hb10_)
      clear Q_VQ
      clear hall hb3_ hb7_ hb10_ hb11_ hb12_ hb13_ hb14_ hb15_ hb16_ hb17_
      have HSG := Lib.hid (show salGo ar fr kb p 0 sA = salGo ar fr kb (p - (j + 1) + 1) j s1 from by rw [← HG.out]; congr 1; omega)
      have HPB := Lib.hid (HI.out.1.pgbyt fr j hfr hj6)
      have HV2 := Lib.hid ((DZ.out.trans VQ.out.2.1).blk HVW HE.out.vM)
      have HQ2 := Lib.hid (show Arr w' ar ok (readS ar s1).1 ∧ Mods ar.M w w' from ⟨VQ.out.1, HI.out.2.trans (DZ.out.trans VQ.out.2.1)⟩)
      have HRD := Lib.hid (VQ.out.2.2)
      have HZS := Lib.hid (show w.heap.size ≤ wz.heap.size from Nat.le_trans HI.out.2.size DZ.out.size)
      clear VQ DZ HVz HAz HEz HVW HG HI
      generalize w' = w2 at HV2 HQ2 HRD ⊢
      obtain ⟨s2, hs2⟩ : ∃ s2, (readS ar s1).1 = s2 := ⟨_, rfl⟩
      obtain ⟨e2, he2⟩ : ∃ e2, (readS ar s1).2 = e2 := ⟨_, rfl⟩
      obtain ⟨xp, hxp⟩ : ∃ xp, (s1.bl fr).pg j = xp := ⟨_, rfl⟩
      have HS2 := Lib.hid (show readS ar s1 = (s2, e2) by rw [← hs2, ← he2])
      rw [hs2] at HQ2 HRO
      rw [he2, hxp] at HRD
      rw [hxp] at HPB
      have HXP := Lib.hid hxp
      rw [he2]
      clear hs2 he2 hxp
      by_cases hz2 : e2 = 0
      ·subst hz2
       obtain ⟨RA, cR, RB, cS, rfl, rfl, z3, z4, z5, z6⟩ := HRD.out rfl
       have HR2 := Lib.hid (show ReadsInt w2 .u8 (some RA) 256 (pgD xp).1 ∧ ReadsInt w2 .u8 (some RB) 64 (pgD xp).2 ∧ ¬ ar.M RA.block ∧ ¬ ar.M RB.block ∧ Byt (pgD xp).1 ∧ Byt (pgD xp).2 from ⟨z3, z4, fun hm => Nat.not_le.2 (HM.out _ hm) (Nat.le_trans HZS.out z5), fun hm => Nat.not_le.2 (HM.out _ hm) (Nat.le_trans HZS.out z6), HPB.out.1, HPB.out.2⟩)
       have HE2 := Lib.hid (HE.out.later HQ2.out.2.size)
       have HA2 := Lib.hid HQ2.out.1
       have HM2 := Lib.hid HQ2.out.2
       have hs2 : 0 ≤ s2.ops := by have h_ := HRO.out.1; omega
       have hs3 : s2.ops ≤ 1000000 := by have h_ := HRO.out.2; omega
       have HPO := Lib.hid (progS_ops ar s2 kb j (pgD xp))
       have HVW := HV2.out
       clear z3 z4 z5 z6 HRD HQ2 HPB
       go_wp2_with fail
       refine start_ (n := 14) (S := fun w' => True) (ds := []) _ (by kernel_rfl) rfl rfl trivial (fun hHeld => ?_)
       refine with_tabW TrC.tab10 TrC.bits10 (fun HT_ HW_ => ?_)
       have HVz := Lib.hid (show w2.drew.heap[vp]? = _ from HVW)
       have HAz := Lib.hid (HA2.out.below (show Below w2.heap.size w2 w2.drew from bl_drew (Below.refl _ _)))
       have HEz := Lib.hid (show Env w2.drew ar ok N vp from HE2.out.later (Nat.le_refl _))
       have HRz := Lib.hid (show ReadsInt w2.drew .u8 (some RA) 256 (pgD xp).1 ∧ ReadsInt w2.drew .u8 (some RB) 64 (pgD xp).2 ∧ ¬ ar.M RA.block ∧ ¬ ar.M RB.block ∧ Byt (pgD xp).1 ∧ Byt (pgD xp).2 from ⟨HR2.out.1.below (bl_drew (Below.refl _ _)), HR2.out.2.1.below (bl_drew (Below.refl _ _)), HR2.out.2.2⟩)
       have DZ := Lib.hid (show Mods ar.M w2 w2.drew from (Mods.refl _ w2).drewN 1)
       generalize w2.drew = wz at HVz HAz HEz HRz DZ hHeld ⊢
       have VB := Lib.hid (Below.refl wz.heap.size wz)
       refine pur_ 0 (some 54) HT_.out rfl rfl (by kernel_rfl) (fun _ _ _ h => h) (by rfl) (fun w' => by go_simp; with_reducible rfl) (by simp only [Act.put, List.setIfInBounds_toArray, List.set_cons_zero, List.set_cons_succ, i64_w, i32_w]; rfl) ?_
       refine pur_ 1 (some 55) HT_.out rfl rfl (by kernel_rfl) (fun _ _ _ h => h) (by rfl) (fun w' => by go_simp; with_reducible rfl) (by simp only [Act.put, List.setIfInBounds_toArray, List.set_cons_zero, List.set_cons_succ, i64_w, i32_w]; rfl) ?_
       refine pur_ 2 (some 56) HT_.out rfl rfl (by kernel_rfl) (fun _ _ _ h => h) (by rfl) (fun w' => by go_simp; with_reducible rfl) (by simp only [Act.put, List.setIfInBounds_toArray, List.set_cons_zero, List.set_cons_succ, i64_w, i32_w]; rfl) ?_
       refine pur_ 4 (some 58) HT_.out rfl rfl (by kernel_rfl) (fun _ _ _ h => h) (by rfl) (fun w' => by go_simp; with_reducible rfl) (by simp only [Act.put, List.setIfInBounds_toArray, List.set_cons_zero, List.set_cons_succ, i64_w, i32_w]; rfl) ?_
       refine pur_ 5 (some 59) HT_.out rfl rfl (by kernel_rfl) (fun _ _ _ h => h) (by rfl) (fun w' => by go_simp; with_reducible rfl) (by simp only [Act.put, List.setIfInBounds_toArray, List.set_cons_zero, List.set_cons_succ, i64_w, i32_w]; rfl) ?_
       refine pur_ 6 (some 60) HT_.out rfl rfl (by kernel_rfl) (fun _ _ _ h => h) (by rfl) (fun w' => by go_simp; with_reducible rfl) (by simp only [Act.put, List.setIfInBounds_toArray, List.set_cons_zero, List.set_cons_succ, i64_w, i32_w]; rfl) ?_
       refine pur_ 8 (some 62) HT_.out rfl rfl (by kernel_rfl) (fun _ _ _ h => h) (by rfl) (fun w' => by go_simp; with_reducible rfl) (by simp only [Act.put, List.setIfInBounds_toArray, List.set_cons_zero, List.set_cons_succ, i64_w, i32_w]; rfl) ?_
       refine pur_ 9 (some 63) HT_.out rfl rfl (by kernel_rfl) (fun _ _ _ h => h) (by rfl) (fun w' => by go_simp; with_reducible rfl) (by simp only [Act.put, List.setIfInBounds_toArray, List.set_cons_zero, List.set_cons_succ, i64_w, i32_w]; rfl) ?_
       refine pur_ 10 (some 64) HT_.out rfl rfl (by kernel_rfl) (fun _ _ _ h => h) (by rfl) (fun w' => by go_simp; with_reducible rfl) (by simp only [Act.put, List.setIfInBounds_toArray, List.set_cons_zero, List.set_cons_succ, i64_w, i32_w]; rfl) ?_
       refine pur_ 11 (some 65) HT_.out rfl rfl (by kernel_rfl) (fun _ _ _ h => h) (by rfl) (fun w' => by go_simp; with_reducible rfl) (by simp only [Act.put, List.setIfInBounds_toArray, List.set_cons_zero, List.set_cons_succ, i64_w, i32_w]; rfl) ?_
       refine inv_at [3, 7, 12, 13] (fun a0_ b a w' => a = putSel a0_ b [(3, 57, .pointer (some ⟨ar.p, 0, none⟩)), (7, 61, .int .i64 0), (12, 66, .int .i64 (progS ar s2 kb j (pgD xp)).2), (13, 18, .int .i64 (progS ar s2 kb j (pgD xp)).2)] ∧ (b 12 = false → Below wz.heap.size wz w') ∧ (b 12 = true → Arr w' ar ok (progS ar s2 kb j (pgD xp)).1 ∧ Mods ar.M wz w')) HT_.out HW_.out (by kernel_rfl) (by kernel_rfl) ?_ ?_ ?_
       ·exact ⟨by simp only [putSel, Bool.false_eq_true, if_false], fun _ => VB.out, fun h_ => absurd h_ (by decide)⟩
       ·skip
        clear VB
        refine steps_cons ?_ ?_
        ·rintro b a w' ⟨ha, Q_VB, Q_VQ⟩ hb_ hon hoff
         refine ⟨_, rfl, fun K hK => ?_⟩
         have e56 : a.tmps[56]? = some (.pointer (some ⟨vp, 0, none⟩)) := by rw [ha]; exact (putSel_off rfl).trans rfl
         replace ha := Aside0.mk ha
         have VB := Aside0.mk (Q_VB (hoff 12 (by kernel_rfl)))
         have hc0_ : w'.cell? ⟨vp, 0, none⟩ = some (.pointer (some ⟨ar.p, 0, none⟩)) := (blk_cell (blk_below HVz.out VB.out) 0).trans rfl
         refine value_ (w1 := w') (v := .pointer (some ⟨ar.p, 0, none⟩)) (by rfl) rfl ?_ ?_
         ·go_simp
          (try simp only [i64_w])
          try rfl
         refine hK.out _ _ ⟨(ptup_ ha.out 0 hb_ rfl rfl rfl), Q_VB, off_ (hoff 12 (by kernel_rfl))⟩
        refine steps_cons ?_ ?_
        ·rintro b a w' ⟨ha, Q_VB, Q_VQ⟩ hb_ hon hoff
         refine ⟨_, rfl, fun K hK => ?_⟩
         have e60 : a.tmps[60]? = some (.pointer (some ⟨vp, 1, none⟩)) := by rw [ha]; exact (putSel_off rfl).trans rfl
         replace ha := Aside0.mk ha
         have VB := Aside0.mk (Q_VB (hoff 12 (by kernel_rfl)))
         have hc1_ : w'.cell? ⟨vp, 1, none⟩ = some (.int .i64 0) := (blk_cell (blk_below HVz.out VB.out) 1).trans rfl
         refine value_ (w1 := w') (v := .int .i64 0) (by rfl) rfl ?_ ?_
         ·go_simp
          (try simp only [i64_w])
          try rfl
         refine hK.out _ _ ⟨(ptup_ ha.out 1 hb_ rfl rfl rfl), Q_VB, off_ (hoff 12 (by kernel_rfl))⟩
        refine steps_cons ?_ ?_
        ·rintro b a w' ⟨ha, Q_VB, Q_VQ⟩ hb_ hon hoff
         refine ⟨_, rfl, fun K hK => ?_⟩
         have e57 : a.tmps[57]? = some (.pointer (some ⟨ar.p, 0, none⟩)) := pton_ ha 0 rfl rfl (hon 3 (by kernel_rfl)) rfl
         have e61 : a.tmps[61]? = some (.int .i64 0) := pton_ ha 1 rfl rfl (hon 7 (by kernel_rfl)) rfl
         have e62 : a.tmps[62]? = some (.int .i64 (kb : Int)) := by rw [ha]; exact (putSel_off rfl).trans rfl
         have e63 : a.tmps[63]? = some (.int .i64 (j : Int)) := by rw [ha]; exact (putSel_off rfl).trans rfl
         have e64 : a.tmps[64]? = some (.slice (some RA) 256 cR) := by rw [ha]; exact (putSel_off rfl).trans rfl
         have e65 : a.tmps[65]? = some (.slice (some RB) 64 cS) := by rw [ha]; exact (putSel_off rfl).trans rfl
         replace ha := Aside0.mk ha
         have VB := Aside0.mk (Q_VB hb_)
         refine goes_ Try.func42 (by kernel_rfl) rfl #[.pointer (some ⟨ar.p, 0, none⟩), .int .i64 0, .int .i64 (kb : Int), .int .i64 (j : Int), .slice (some RA) 256 cR, .slice (some RB) 64 cS] (by rfl) rfl rfl (by first | (simp only [List.map_toArray, List.map_cons, List.map_nil, Act.eval, Array.getD_eq_getD_getElem?, Option.getD_some, e57, e61, e62, e63, e64, e65]; done) | (simp only [List.map_toArray, List.map_cons, List.map_nil, Act.eval, Array.getD_eq_getD_getElem?, Option.getD_some, e57, e61, e62, e63, e64, e65]; rfl)) ?_
         refine (nprog_any ar ok s2 kb j RA RB cR cS (pgD xp).1 (pgD xp).2 w' HEz.out.fix HEz.out.ok_M (HEz.out.later VB.out.size).ok_n (HAz.out.below VB.out) hb hj6 hs2 hs3 (HRz.out.1.below VB.out) (HRz.out.2.1.below VB.out) HRz.out.2.2.1 HRz.out.2.2.2.1 HRz.out.2.2.2.2.1 HRz.out.2.2.2.2.2).mono ?_
         rintro e w1 ⟨rfl, q1, q2⟩
         refine ⟨_, rfl, ?_⟩
         refine hK.out _ _ ⟨(ptup_ ha.out 2 hb_ rfl rfl rfl), fun h0_ => absurd ((up_self b 12).symm.trans h0_) (by decide), fun _ => ⟨q1, (Mods.of_below VB.out).trans q2⟩⟩
        refine steps_cons ?_ ?_
        ·rintro b a w' ⟨ha, Q_VB, Q_VQ⟩ hb_ hon hoff
         refine ⟨_, rfl, fun K hK => ?_⟩
         have e66 : a.tmps[66]? = some (.int .i64 (progS ar s2 kb j (pgD xp)).2) := pton_ ha 2 rfl rfl (hon 12 (by kernel_rfl)) rfl
         replace ha := Aside0.mk ha
         have VQ := Aside0.mk (Q_VQ (hon 12 (by kernel_rfl)))
         refine value_ (w1 := w') (v := .int .i64 (progS ar s2 kb j (pgD xp)).2) (by rfl) rfl ?_ ?_
         ·go_simp
          (try simp only [i64_w])
          try rfl
         refine hK.out _ _ ⟨(ptup_ ha.out 3 hb_ rfl rfl rfl), fun h0_ => absurd ((hon 12 (by kernel_rfl)).symm.trans h0_) (by decide), Q_VQ⟩
        exact steps_nil
       ·rintro b a w' hall ⟨ha, Q_VB, Q_VQ⟩
        clear VB
        have hb3_ := hall 3 (by kernel_rfl)
        have hb7_ := hall 7 (by kernel_rfl)
        have hb12_ := hall 12 (by kernel_rfl)
        have hb13_ := hall 13 (by kernel_rfl)
        subst ha
        simp only [putSel, hb3_, hb7_, hb12_, hb13_, if_true, Act.put, List.setIfInBounds_toArray, List.set_cons_zero, List.set_cons_succ]
        clear Q_VB
        have VQ := Aside0.mk (Q_VQ hb12_)
        clear Q_VQ
        clear hall hb3_ hb7_ hb12_ hb13_
        have HQ3 := Lib.hid (show Arr w' ar ok (progS ar s2 kb j (pgD xp)).1 ∧ Mods ar.M w w' from ⟨VQ.out.1, HM2.out.trans (DZ.out.trans VQ.out.2)⟩)
        clear VQ DZ HVz HAz HEz HRz HVW HR2 HA2 HM2 HE2
        obtain ⟨s3, hs3'⟩ : ∃ s3, (progS ar s2 kb j (pgD xp)).1 = s3 := ⟨_, rfl⟩
        obtain ⟨e3, he3⟩ : ∃ e3, (progS ar s2 kb j (pgD xp)).2 = e3 := ⟨_, rfl⟩
        have HS3 := Lib.hid (show progS ar s2 kb j (pgD xp) = (s3, e3) by rw [← hs3', ← he3])
        rw [hs3'] at HQ3 HPO
        rw [he3]
        clear hs3' he3
        by_cases hz3 : e3 = 0
        ·subst hz3
         go_wp2_with fail
         go_roundw
         case rel =>
          refine ⟨j + 1, s3, by go_num, by omega, ?_, ?_, Lib.hid ?_, HQ3⟩
          ·have h_ := HRO.out.1; have h2_ := HPO.out.1; omega
          ·have h_ := HRO.out.2; have h2_ := HPO.out.2; omega
          ·rw [HSG.out, salGo, HS2.out, if_pos rfl, HXP.out, HS3.out, if_pos rfl]
         case measure => simp [intOf]; omega
        ·have hf : salGo ar fr kb p 0 sA = (s3, e3) := by rw [HSG.out, salGo, HS2.out, if_pos rfl, HXP.out, HS3.out, if_neg hz3]
         go_wp2_with fail
         go_ret
         rw [HL.out, hf, if_neg hz3]
         exact ⟨rfl, HQ3.out.1, HQ3.out.2⟩
      ·have hf : salGo ar fr kb p 0 sA = (s2, e2) := by rw [HSG.out, salGo, HS2.out, if_neg hz2]
       go_wp2_with fail
       go_ret
       rw [HL.out, hf, if_neg hz2]
       exact ⟨rfl, HQ2.out.1, HQ2.out.2⟩
    ·obtain rfl : j = p := by omega
     have hs0 : 0 ≤ s1.ops := by omega
     have hs1 : s1.ops ≤ 1000000 := by omega
     have hf : salGo ar fr kb j 0 sA = (s1, 0) := by rw [← HG.out, Nat.sub_self]; rfl
     have HF := Lib.hid (show salS ar s fr kb j (d, o) = progS ar s1 kb j (d, o) by rw [HL.out, hf, if_pos rfl, if_pos trivial])
     have HRW : ReadsInt wr .u8 (some A) 256 d ∧ ReadsInt wr .u8 (some B) 64 o := ⟨HI.out.2.reads HD.out.1 (fun x hx => by obtain rfl := Option.some.inj hx; exact HD.out.2.2.1), HI.out.2.reads HD.out.2.1 (fun x hx => by obtain rfl := Option.some.inj hx; exact HD.out.2.2.2.1)⟩
     clear hf
     go_wp2_with fail
     refine start_ (n := 14) (S := fun w' => True) (ds := []) _ (by kernel_rfl) rfl rfl trivial (fun hHeld => ?_)
     refine with_tabW TrD.tab14 TrD.bits14 (fun HT_ HW_ => ?_)
     have HVz := Lib.hid (show wr.drew.heap[vp]? = _ from HVW)
     have HAz := Lib.hid (HI.out.1.below (show Below wr.heap.size wr wr.drew from bl_drew (Below.refl _ _)))
     have HEz := Lib.hid (show Env wr.drew ar ok N vp from HE1.out.later (Nat.le_refl _))
     have HRz := Lib.hid (show ReadsInt wr.drew .u8 (some A) 256 d ∧ ReadsInt wr.drew .u8 (some B) 64 o from ⟨HRW.1.below (bl_drew (Below.refl _ _)), HRW.2.below (bl_drew (Below.refl _ _))⟩)
     have DZ := Lib.hid (show Mods ar.M wr wr.drew from (Mods.refl _ wr).drewN 1)
     generalize wr.drew = wz at HVz HAz HEz HRz DZ hHeld ⊢
     have VB := Lib.hid (Below.refl wz.heap.size wz)
     refine pur_ 0 (some 71) HT_.out rfl rfl (by kernel_rfl) (fun _ _ _ h => h) (by rfl) (fun w' => by go_simp; with_reducible rfl) (by simp only [Act.put, List.setIfInBounds_toArray, List.set_cons_zero, List.set_cons_succ, i64_w, i32_w]; rfl) ?_
     refine pur_ 1 (some 72) HT_.out rfl rfl (by kernel_rfl) (fun _ _ _ h => h) (by rfl) (fun w' => by go_simp; with_reducible rfl) (by simp only [Act.put, List.setIfInBounds_toArray, List.set_cons_zero, List.set_cons_succ, i64_w, i32_w]; rfl) ?_
     refine pur_ 2 (some 73) HT_.out rfl rfl (by kernel_rfl) (fun _ _ _ h => h) (by rfl) (fun w' => by go_simp; with_reducible rfl) (by simp only [Act.put, List.setIfInBounds_toArray, List.set_cons_zero, List.set_cons_succ, i64_w, i32_w]; rfl) ?_
     refine pur_ 4 (some 75) HT_.out rfl rfl (by kernel_rfl) (fun _ _ _ h => h) (by rfl) (fun w' => by go_simp; with_reducible rfl) (by simp only [Act.put, List.setIfInBounds_toArray, List.set_cons_zero, List.set_cons_succ, i64_w, i32_w]; rfl) ?_
     refine pur_ 5 (some 76) HT_.out rfl rfl (by kernel_rfl) (fun _ _ _ h => h) (by rfl) (fun w' => by go_simp; with_reducible rfl) (by simp only [Act.put, List.setIfInBounds_toArray, List.set_cons_zero, List.set_cons_succ, i64_w, i32_w]; rfl) ?_
     refine pur_ 6 (some 77) HT_.out rfl rfl (by kernel_rfl) (fun _ _ _ h => h) (by rfl) (fun w' => by go_simp; with_reducible rfl) (by simp only [Act.put, List.setIfInBounds_toArray, List.set_cons_zero, List.set_cons_succ, i64_w, i32_w]; rfl) ?_
     refine pur_ 8 (some 79) HT_.out rfl rfl (by kernel_rfl) (fun _ _ _ h => h) (by rfl) (fun w' => by go_simp; with_reducible rfl) (by simp only [Act.put, List.setIfInBounds_toArray, List.set_cons_zero, List.set_cons_succ, i64_w, i32_w]; rfl) ?_
     refine pur_ 9 (some 80) HT_.out rfl rfl (by kernel_rfl) (fun _ _ _ h => h) (by rfl) (fun w' => by go_simp; with_reducible rfl) (by simp only [Act.put, List.setIfInBounds_toArray, List.set_cons_zero, List.set_cons_succ, i64_w, i32_w]; rfl) ?_
     refine pur_ 10 (some 81) HT_.out rfl rfl (by kernel_rfl) (fun _ _ _ h => h) (by rfl) (fun w' => by go_simp; with_reducible rfl) (by simp only [Act.put, List.setIfInBounds_toArray, List.set_cons_zero, List.set_cons_succ, i64_w, i32_w]; rfl) ?_
     refine pur_ 11 (some 82) HT_.out rfl rfl (by kernel_rfl) (fun _ _ _ h => h) (by rfl) (fun w' => by go_simp; with_reducible rfl) (by simp only [Act.put, List.setIfInBounds_toArray, List.set_cons_zero, List.set_cons_succ, i64_w, i32_w]; rfl) ?_
     refine inv_at [3, 7, 12, 13] (fun a0_ b a w' => a = putSel a0_ b [(3, 74, .pointer (some ⟨ar.p, 0, none⟩)), (7, 78, .int .i64 0), (12, 83, .int .i64 (progS ar s1 kb j (d, o)).2), (13, 12, .int .i64 (progS ar s1 kb j (d, o)).2)] ∧ (b 12 = false → Below wz.heap.size wz w') ∧ (b 12 = true → Arr w' ar ok (progS ar s1 kb j (d, o)).1 ∧ Mods ar.M wz w')) HT_.out HW_.out (by kernel_rfl) (by kernel_rfl) ?_ ?_ ?_
     ·exact ⟨by simp only [putSel, Bool.false_eq_true, if_false], fun _ => VB.out, fun h_ => absurd h_ (by decide)⟩
     ·skip
      clear VB
      refine steps_cons ?_ ?_
      ·rintro b a w' ⟨ha, Q_VB, Q_VQ⟩ hb_ hon hoff
       refine ⟨_, rfl, fun K hK => ?_⟩
       have e73 : a.tmps[73]? = some (.pointer (some ⟨vp, 0, none⟩)) := by rw [ha]; exact (putSel_off rfl).trans rfl
       replace ha := Aside0.mk ha
       have VB := Aside0.mk (Q_VB (hoff 12 (by kernel_rfl)))
       have hc0_ : w'.cell? ⟨vp, 0, none⟩ = some (.pointer (some ⟨ar.p, 0, none⟩)) := (blk_cell (blk_below HVz.out VB.out) 0).trans rfl
       refine value_ (w1 := w') (v := .pointer (some ⟨ar.p, 0, none⟩)) (by rfl) rfl ?_ ?_
       ·go_simp
        (try simp only [i64_w])
        try rfl
       refine hK.out _ _ ⟨(ptup_ ha.out 0 hb_ rfl rfl rfl), Q_VB, off_ (hoff 12 (by kernel_rfl))⟩
      refine steps_cons ?_ ?_
      ·rintro b a w' ⟨ha, Q_VB, Q_VQ⟩ hb_ hon hoff
       refine ⟨_, rfl, fun K hK => ?_⟩
       have e77 : a.tmps[77]? = some (.pointer (some ⟨vp, 1, none⟩)) := by rw [ha]; exact (putSel_off rfl).trans rfl
       replace ha := Aside0.mk ha
       have VB := Aside0.mk (Q_VB (hoff 12 (by kernel_rfl)))
       have hc1_ : w'.cell? ⟨vp, 1, none⟩ = some (.int .i64 0) := (blk_cell (blk_below HVz.out VB.out) 1).trans rfl
       refine value_ (w1 := w') (v := .int .i64 0) (by rfl) rfl ?_ ?_
       ·go_simp
        (try simp only [i64_w])
        try rfl
       refine hK.out _ _ ⟨(ptup_ ha.out 1 hb_ rfl rfl rfl), Q_VB, off_ (hoff 12 (by kernel_rfl))⟩
      refine steps_cons ?_ ?_
      ·rintro b a w' ⟨ha, Q_VB, Q_VQ⟩ hb_ hon hoff
       refine ⟨_, rfl, fun K hK => ?_⟩
       have e74 : a.tmps[74]? = some (.pointer (some ⟨ar.p, 0, none⟩)) := pton_ ha 0 rfl rfl (hon 3 (by kernel_rfl)) rfl
       have e78 : a.tmps[78]? = some (.int .i64 0) := pton_ ha 1 rfl rfl (hon 7 (by kernel_rfl)) rfl
       have e79 : a.tmps[79]? = some (.int .i64 (kb : Int)) := by rw [ha]; exact (putSel_off rfl).trans rfl
       have e80 : a.tmps[80]? = some (.int .i64 (j : Int)) := by rw [ha]; exact (putSel_off rfl).trans rfl
       have e81 : a.tmps[81]? = some (.slice (some A) 256 cA) := by rw [ha]; exact (putSel_off rfl).trans rfl
       have e82 : a.tmps[82]? = some (.slice (some B) 64 cB) := by rw [ha]; exact (putSel_off rfl).trans rfl
       replace ha := Aside0.mk ha
       have VB := Aside0.mk (Q_VB hb_)
       refine goes_ Try.func42 (by kernel_rfl) rfl #[.pointer (some ⟨ar.p, 0, none⟩), .int .i64 0, .int .i64 (kb : Int), .int .i64 (j : Int), .slice (some A) 256 cA, .slice (some B) 64 cB] (by rfl) rfl rfl (by first | (simp only [List.map_toArray, List.map_cons, List.map_nil, Act.eval, Array.getD_eq_getD_getElem?, Option.getD_some, e74, e78, e79, e80, e81, e82]; done) | (simp only [List.map_toArray, List.map_cons, List.map_nil, Act.eval, Array.getD_eq_getD_getElem?, Option.getD_some, e74, e78, e79, e80, e81, e82]; rfl)) ?_
       refine (nprog_any ar ok s1 kb j A B cA cB d o w' HEz.out.fix HEz.out.ok_M (HEz.out.later VB.out.size).ok_n (HAz.out.below VB.out) hb hp hs0 hs1 (HRz.out.1.below VB.out) (HRz.out.2.below VB.out) HD.out.2.2.1 HD.out.2.2.2.1 HD.out.2.2.2.2.1 HD.out.2.2.2.2.2).mono ?_
       rintro e w1 ⟨rfl, q1, q2⟩
       refine ⟨_, rfl, ?_⟩
       refine hK.out _ _ ⟨(ptup_ ha.out 2 hb_ rfl rfl rfl), fun h0_ => absurd ((up_self b 12).symm.trans h0_) (by decide), fun _ => ⟨q1, (Mods.of_below VB.out).trans q2⟩⟩
      refine steps_cons ?_ ?_
      ·rintro b a w' ⟨ha, Q_VB, Q_VQ⟩ hb_ hon hoff
       refine ⟨_, rfl, fun K hK => ?_⟩
       have e83 : a.tmps[83]? = some (.int .i64 (progS ar s1 kb j (d, o)).2) := pton_ ha 2 rfl rfl (hon 12 (by kernel_rfl)) rfl
       replace ha := Aside0.mk ha
       have VQ := Aside0.mk (Q_VQ (hon 12 (by kernel_rfl)))
       refine value_ (w1 := w') (v := .int .i64 (progS ar s1 kb j (d, o)).2) (by rfl) rfl ?_ ?_
       ·go_simp
        (try simp only [i64_w])
        try rfl
       refine hK.out _ _ ⟨(ptup_ ha.out 3 hb_ rfl rfl rfl), fun h0_ => absurd ((hon 12 (by kernel_rfl)).symm.trans h0_) (by decide), Q_VQ⟩
      exact steps_nil
     ·rintro b a w' hall ⟨ha, Q_VB, Q_VQ⟩
      clear VB
      have hb3_ := hall 3 (by kernel_rfl)
      have hb7_ := hall 7 (by kernel_rfl)
      have hb12_ := hall 12 (by kernel_rfl)
      have hb13_ := hall 13 (by kernel_rfl)
      subst ha
      simp only [putSel, hb3_, hb7_, hb12_, hb13_, if_true, Act.put, List.setIfInBounds_toArray, List.set_cons_zero, List.set_cons_succ]
      clear Q_VB
      have VQ := Aside0.mk (Q_VQ hb12_)
      clear Q_VQ
      clear hall hb3_ hb7_ hb12_ hb13_
      have HQ3 := Lib.hid (show Arr w' ar ok (progS ar s1 kb j (d, o)).1 ∧ Mods ar.M w w' from ⟨VQ.out.1, HI.out.2.trans (DZ.out.trans VQ.out.2)⟩)
      clear VQ DZ HVz HAz HEz HRz HVW
      go_wp2_with fail
      go_ret
      rw [HF.out]
      exact ⟨rfl, HQ3.out.1, HQ3.out.2⟩
  ·go_wp2_with fail
   go_ret
   rw [HL.out, if_neg hz]
   exact ⟨rfl, HQ.out.1, HQ.out.2⟩
end Go.Proofs.Ytffalemndjampaa
end
section
set_option linter.unusedVariables false
set_option linter.unusedSimpArgs false
namespace Go.Proofs.Ytffalemndjampaa
open Go.RowKit Go.Proofs.YtffalemndjampaaW.PrintWords Go.Proofs.YtffalemndjampaaW.PrintLast
def verGo (ar : Ar) (v : Nat) : Nat → St → Tb → Int → St × Tb × Int
 | 0, s, T, e => (s, T, e)
 | n + 1, s, T, e => if e = 70 then (if (eraseS ar s ((T.takeV v).at v)).2 = 0 then saveS ar (eraseS ar s ((T.takeV v).at v)).1 (T.takeV v) else verGo ar v n (eraseS ar s ((T.takeV v).at v)).1 (T.takeV v) (eraseS ar s ((T.takeV v).at v)).2) else (s, T, e)
def verS (ar : Ar) (s : St) (T : Tb) (v : Nat) : St × Tb × Int := verGo ar v T.spare.length (eraseS ar s (T.at v)).1 T (eraseS ar s (T.at v)).2
theorem Tb.at_rng {T : Tb} (h : TbOk T) (hl : T.place.length = 11) (v : Nat) (hv : v < 11) : T.place.getD v 0 = (T.at v : Int) ∧ T.at v < 16 := by
 have hm : T.place.getD v 0 ∈ T.place := by
  rw [List.getD_eq_getElem?_getD, List.getElem?_eq_getElem (by omega)]
  exact List.getElem_mem _
 have h_ := h.rng (T.place.getD v 0) (by simp only [Tb.all, List.mem_append]; exact .inl hm)
 unfold Tb.at
 omega
theorem TbOk.up {T : Tb} (h : TbOk T) (hs : T.seq + 1 < 4294967296) : TbOk T.up := ⟨h.nodup, h.rng, by have := h.seq0; simp only [Tb.up]; omega, hs⟩
theorem TbR.len {w : World} {N : Nat → Prop} {C : Array Value} {T : Tb} (h : TbR w N C T) : T.place.length = 11 := by
 obtain ⟨_, _, _, _, _, _, _, _, h1, _⟩ := h
 exact h1.1
theorem VolR.len {w : World} {vp p : Nat} {N : Nat → Prop} {T : Tb} (h : VolR w vp p N T) : T.place.length = 11 := by
 obtain ⟨_, _, _, _, _, h1⟩ := h
 exact h1.len
def TsA.T4 : Bool × List (List Nat × List Nat) := (true, [([], []), ([0], [0]), ([1], [1]), ([2], [2]), ([], []), ([4], [4]), ([5], [5]), ([6], [6]), ([], []), ([8], [8]), ([9], [9]), ([10], [10]), ([11], [11]), ([], []), ([12, 13], [12, 13]), ([14], [14]), ([3, 7, 15], [3, 7, 15]), ([16, 16, 0, 1, 2, 3, 4, 5, 6, 7, 8, 9, 10, 11, 12, 13, 14, 15, 16], [16])])
def TsA.B4 : List Nat := [0, 1, 3, 7, 0, 16, 48, 112, 0, 256, 768, 1792, 3840, 0, 16128, 32512, 65535, 131071]
theorem TsA.tab4 : rtab .any (opsOf Try.f22 4) = TsA.T4 := by kernel_rfl
theorem TsA.bits4 : waitsOk TsA.T4.2 TsA.B4 = true := by kernel_rfl
def TsB.T10 : Bool × List (List Nat × List Nat) := (true, [([], []), ([0], [0]), ([1], [1]), ([2], [2]), ([], []), ([4], [4]), ([5], [5]), ([6], [6]), ([], []), ([8], [8]), ([9], [9]), ([10], [10]), ([11], [11]), ([], []), ([12, 13], [12, 13]), ([14], [14]), ([3, 7, 15], [3, 7, 15]), ([16, 16, 0, 1, 2, 3, 4, 5, 6, 7, 8, 9, 10, 11, 12, 13, 14, 15, 16], [16])])
def TsB.B10 : List Nat := [0, 1, 3, 7, 0, 16, 48, 112, 0, 256, 768, 1792, 3840, 0, 16128, 32512, 65535, 131071]
theorem TsB.tab10 : rtab .any (opsOf Try.f22 10) = TsB.T10 := by kernel_rfl
theorem TsB.bits10 : waitsOk TsB.T10.2 TsB.B10 = true := by kernel_rfl
set_option maxHeartbeats 16000000 in
set_option maxRecDepth 100000 in
theorem verase_any (ar : Ar) (ok N : Nat → Prop) (s : St) (vp kb : Nat) (T : Tb) (w : World) (hE : Env w ar ok N vp) (h : Arr w ar ok s) (hv : VolR w vp ar.p N T) (hT : TbOk T) (hq : T.seq + 1 < 4294967296) (hk : kb < 11) (h0 : 0 ≤ s.ops) (h1 : s.ops + 20 ≤ 1000000) :
  Calls Try.prog 22 #[.pointer (some ⟨vp, 0, none⟩), .int .i64 (kb : Int)] w (VolQ w ar ok N vp (verS ar s T kb)) := by
 have hsp3 : T.spare.length ≤ 3 := by obtain ⟨_, _, _, _, _, _, _, _, _, _, _, _, hn, _⟩ := hv; exact hn
 have hlen := hv.len
 obtain ⟨hat, hpb⟩ := Tb.at_rng hT hlen kb hk
 have HV0 := Lib.hid hv
 obtain ⟨PA, pc, SA, sc, hv1, hv2⟩ := hv
 have HIN := Lib.hid (vin_any vp ar.p kb PA pc SA sc T w hv1 hk)
 have hyk := hv2.place kb hk
 rw [hat] at hyk
 have HVS := Lib.hid (show verS ar s T kb = verGo ar kb T.spare.length (eraseS ar s (T.at kb)).1 T (eraseS ar s (T.at kb)).2 from rfl)
 obtain ⟨pb, hpbe⟩ : ∃ pb, T.at kb = pb := ⟨_, rfl⟩
 rw [hpbe] at hyk hpb HVS
 simp only [volC] at hv1
 obtain ⟨seq, hsq⟩ : ∃ seq, T.seq = seq := ⟨_, rfl⟩
 obtain ⟨sn, hsn⟩ : ∃ sn, T.spare.length = sn := ⟨_, rfl⟩
 obtain ⟨t0, ht0⟩ : ∃ t0, T.t0 = t0 := ⟨_, rfl⟩
 obtain ⟨t1, ht1⟩ : ∃ t1, T.t1 = t1 := ⟨_, rfl⟩
 rw [hsq, hsn, ht0, ht1] at hv1
 have HV := Lib.hid hv1
 have HYK := Lib.hid hyk
 have HA := Lib.hid h
 have HE := Lib.hid hE
 have HK := Lib.hid (And.intro hT hq)
 have HOP := Lib.hid (eraseS_ops ar s pb)
 clear hv1 hv2 h hE hT hyk hat hpbe hsq hsn ht0 ht1 hlen hq
 go_enter Try.func22, Try.ntmps22
 go_wp2_with fail
 refine HIN.out.mono ?_
 rintro e w1 ⟨rfl, hb1⟩
 have HVW := blk_below HV.out hb1
 have yk := pw_cell_below hb1 HYK.out
 have HA1 := Lib.hid (HA.out.below hb1)
 have HE1 := Lib.hid (HE.out.later hb1.size)
 have HV1 := Lib.hid (HV0.out.below hb1)
 have HM1 := Lib.hid (show Mods (fun k => ar.M k ∨ k = vp) w w1 from Mods.of_below hb1)
 have hs0 := h0
 have hs1 : s.ops ≤ 1000000 := by omega
 have kI : (kb : Int) < 11 := by omega
 clear hb1 HIN HA HV0 HV HYK
 go_wp2_with fail
 refine start_ (n := 18) (S := fun w' => True) (ds := []) _ (by kernel_rfl) rfl rfl trivial (fun hHeld => ?_)
 refine with_tabW TsA.tab4 TsA.bits4 (fun HT_ HW_ => ?_)
 have HVz := Lib.hid (show w1.drew.heap[vp]? = _ from HVW)
 have YKz := Lib.hid (show w1.drew.cell? (PA.add kb) = _ from yk)
 have HAz := Lib.hid (HA1.out.below (show Below w1.heap.size w1 w1.drew from bl_drew (Below.refl _ _)))
 have HEz := Lib.hid (show Env w1.drew ar ok N vp from HE1.out.later (Nat.le_refl _))
 have DZ := Lib.hid (show Mods ar.M w1 w1.drew from (Mods.refl _ w1).drewN 1)
 generalize w1.drew = wz at HVz YKz HAz HEz DZ hHeld ⊢
 have VB := Lib.hid (Below.refl wz.heap.size wz)
 refine pur_ 0 (some 16) HT_.out rfl rfl (by kernel_rfl) (fun _ _ _ h => h) (by rfl) (fun w' => by go_simp; with_reducible rfl) (by simp only [Act.put, List.setIfInBounds_toArray, List.set_cons_zero, List.set_cons_succ, i64_w, i32_w]; rfl) ?_
 refine pur_ 1 (some 17) HT_.out rfl rfl (by kernel_rfl) (fun _ _ _ h => h) (by rfl) (fun w' => by go_simp; with_reducible rfl) (by simp only [Act.put, List.setIfInBounds_toArray, List.set_cons_zero, List.set_cons_succ, i64_w, i32_w]; rfl) ?_
 refine pur_ 2 (some 18) HT_.out rfl rfl (by kernel_rfl) (fun _ _ _ h => h) (by rfl) (fun w' => by go_simp; with_reducible rfl) (by simp only [Act.put, List.setIfInBounds_toArray, List.set_cons_zero, List.set_cons_succ, i64_w, i32_w]; rfl) ?_
 refine pur_ 4 (some 20) HT_.out rfl rfl (by kernel_rfl) (fun _ _ _ h => h) (by rfl) (fun w' => by go_simp; with_reducible rfl) (by simp only [Act.put, List.setIfInBounds_toArray, List.set_cons_zero, List.set_cons_succ, i64_w, i32_w]; rfl) ?_
 refine pur_ 5 (some 21) HT_.out rfl rfl (by kernel_rfl) (fun _ _ _ h => h) (by rfl) (fun w' => by go_simp; with_reducible rfl) (by simp only [Act.put, List.setIfInBounds_toArray, List.set_cons_zero, List.set_cons_succ, i64_w, i32_w]; rfl) ?_
 refine pur_ 6 (some 22) HT_.out rfl rfl (by kernel_rfl) (fun _ _ _ h => h) (by rfl) (fun w' => by go_simp; with_reducible rfl) (by simp only [Act.put, List.setIfInBounds_toArray, List.set_cons_zero, List.set_cons_succ, i64_w, i32_w]; rfl) ?_
 refine pur_ 8 (some 24) HT_.out rfl rfl (by kernel_rfl) (fun _ _ _ h => h) (by rfl) (fun w' => by go_simp; with_reducible rfl) (by simp only [Act.put, List.setIfInBounds_toArray, List.set_cons_zero, List.set_cons_succ, i64_w, i32_w]; rfl) ?_
 refine pur_ 9 (some 25) HT_.out rfl rfl (by kernel_rfl) (fun _ _ _ h => h) (by rfl) (fun w' => by go_simp; with_reducible rfl) (by simp only [Act.put, List.setIfInBounds_toArray, List.set_cons_zero, List.set_cons_succ, i64_w, i32_w]; rfl) ?_
 refine pur_ 10 (some 26) HT_.out rfl rfl (by kernel_rfl) (fun _ _ _ h => h) (by rfl) (fun w' => by go_simp; with_reducible rfl) (by simp only [Act.put, List.setIfInBounds_toArray, List.set_cons_zero, List.set_cons_succ, i64_w, i32_w]; rfl) ?_
 refine pur_ 11 (some 27) HT_.out rfl rfl (by kernel_rfl) (fun _ _ _ h => h) (by rfl) (fun w' => by go_simp; with_reducible rfl) (by simp only [Act.put, List.setIfInBounds_toArray, List.set_cons_zero, List.set_cons_succ, i64_w, i32_w]; rfl) ?_
 refine pur_ 13 (some 29) HT_.out rfl rfl (by kernel_rfl) (fun _ _ _ h => h) (by rfl) (fun w' => by go_simp; with_reducible rfl) (by simp only [Act.put, List.setIfInBounds_toArray, List.set_cons_zero, List.set_cons_succ, i64_w, i32_w]; rfl) ?_
 refine inv_at [3, 7, 12, 14, 15, 16, 17] (fun a0_ b a w' => a = putSel a0_ b [(3, 19, .pointer (some ⟨ar.p, 0, none⟩)), (7, 23, .int .i64 0), (12, 28, .slice (some PA) 11 pc), (14, 30, .pointer (some (PA.add kb))), (15, 31, .int .i64 (pb : Int)), (16, 32, .int .i64 (eraseS ar s pb).2), (17, 6, .int .i64 (eraseS ar s pb).2)] ∧ (b 16 = false → Below wz.heap.size wz w') ∧ (b 16 = true → Arr w' ar ok (eraseS ar s pb).1 ∧ Mods ar.M wz w')) HT_.out HW_.out (by kernel_rfl) (by kernel_rfl) ?_ ?_ ?_
 ·exact ⟨by simp only [putSel, Bool.false_eq_true, if_false], fun _ => VB.out, fun h_ => absurd h_ (by decide)⟩
 ·skip
  clear VB
  refine steps_cons ?_ ?_
  ·rintro b a w' ⟨ha, Q_VB, Q_VQ⟩ hb_ hon hoff
   refine ⟨_, rfl, fun K hK => ?_⟩
   have e18 : a.tmps[18]? = some (.pointer (some ⟨vp, 0, none⟩)) := by rw [ha]; exact (putSel_off rfl).trans rfl
   replace ha := Aside0.mk ha
   have VB := Aside0.mk (Q_VB (hoff 16 (by kernel_rfl)))
   have hc0_ : w'.cell? ⟨vp, 0, none⟩ = some (.pointer (some ⟨ar.p, 0, none⟩)) := (blk_cell (blk_below HVz.out VB.out) 0).trans rfl
   refine value_ (w1 := w') (v := .pointer (some ⟨ar.p, 0, none⟩)) (by rfl) rfl ?_ ?_
   ·go_simp
    (try simp only [i64_w])
    try rfl
   refine hK.out _ _ ⟨(ptup_ ha.out 0 hb_ rfl rfl rfl), Q_VB, off_ (hoff 16 (by kernel_rfl))⟩
  refine steps_cons ?_ ?_
  ·rintro b a w' ⟨ha, Q_VB, Q_VQ⟩ hb_ hon hoff
   refine ⟨_, rfl, fun K hK => ?_⟩
   have e22 : a.tmps[22]? = some (.pointer (some ⟨vp, 1, none⟩)) := by rw [ha]; exact (putSel_off rfl).trans rfl
   replace ha := Aside0.mk ha
   have VB := Aside0.mk (Q_VB (hoff 16 (by kernel_rfl)))
   have hc1_ : w'.cell? ⟨vp, 1, none⟩ = some (.int .i64 0) := (blk_cell (blk_below HVz.out VB.out) 1).trans rfl
   refine value_ (w1 := w') (v := .int .i64 0) (by rfl) rfl ?_ ?_
   ·go_simp
    (try simp only [i64_w])
    try rfl
   refine hK.out _ _ ⟨(ptup_ ha.out 1 hb_ rfl rfl rfl), Q_VB, off_ (hoff 16 (by kernel_rfl))⟩
  refine steps_cons ?_ ?_
  ·rintro b a w' ⟨ha, Q_VB, Q_VQ⟩ hb_ hon hoff
   refine ⟨_, rfl, fun K hK => ?_⟩
   have e27 : a.tmps[27]? = some (.pointer (some ⟨vp, 7, none⟩)) := by rw [ha]; exact (putSel_off rfl).trans rfl
   replace ha := Aside0.mk ha
   have VB := Aside0.mk (Q_VB (hoff 16 (by kernel_rfl)))
   have hc7_ : w'.cell? ⟨vp, 7, none⟩ = some (.slice (some PA) 11 pc) := (blk_cell (blk_below HVz.out VB.out) 7).trans rfl
   refine value_ (w1 := w') (v := .slice (some PA) 11 pc) (by rfl) rfl ?_ ?_
   ·go_simp
    (try simp only [i64_w])
    try rfl
   refine hK.out _ _ ⟨(ptup_ ha.out 2 hb_ rfl rfl rfl), Q_VB, off_ (hoff 16 (by kernel_rfl))⟩
  refine steps_cons ?_ ?_
  ·rintro b a w' ⟨ha, Q_VB, Q_VQ⟩ hb_ hon hoff
   refine ⟨_, rfl, fun K hK => ?_⟩
   have e28 : a.tmps[28]? = some (.slice (some PA) 11 pc) := pton_ ha 2 rfl rfl (hon 12 (by kernel_rfl)) rfl
   have e29 : a.tmps[29]? = some (.int .i64 (kb : Int)) := by rw [ha]; exact (putSel_off rfl).trans rfl
   replace ha := Aside0.mk ha
   have VB := Aside0.mk (Q_VB (hoff 16 (by kernel_rfl)))
   refine value_ (w1 := w') (v := .pointer (some (PA.add kb))) (by rfl) rfl ?_ ?_
   ·go_simp
    (try simp only [i64_w])
    try rfl
   refine hK.out _ _ ⟨(ptup_ ha.out 3 hb_ rfl rfl rfl), Q_VB, off_ (hoff 16 (by kernel_rfl))⟩
  refine steps_cons ?_ ?_
  ·rintro b a w' ⟨ha, Q_VB, Q_VQ⟩ hb_ hon hoff
   refine ⟨_, rfl, fun K hK => ?_⟩
   have e30 : a.tmps[30]? = some (.pointer (some (PA.add kb))) := pton_ ha 3 rfl rfl (hon 14 (by kernel_rfl)) rfl
   replace ha := Aside0.mk ha
   have VB := Aside0.mk (Q_VB (hoff 16 (by kernel_rfl)))
   have hc_ : w'.cell? (PA.add kb) = some (.int .i64 (pb : Int)) := pw_cell_below VB.out YKz.out
   refine value_ (w1 := w') (v := .int .i64 (pb : Int)) (by rfl) rfl ?_ ?_
   ·go_simp
    (try simp only [i64_w])
    try rfl
   refine hK.out _ _ ⟨(ptup_ ha.out 4 hb_ rfl rfl rfl), Q_VB, off_ (hoff 16 (by kernel_rfl))⟩
  refine steps_cons ?_ ?_
  ·rintro b a w' ⟨ha, Q_VB, Q_VQ⟩ hb_ hon hoff
   refine ⟨_, rfl, fun K hK => ?_⟩
   have e19 : a.tmps[19]? = some (.pointer (some ⟨ar.p, 0, none⟩)) := pton_ ha 0 rfl rfl (hon 3 (by kernel_rfl)) rfl
   have e23 : a.tmps[23]? = some (.int .i64 0) := pton_ ha 1 rfl rfl (hon 7 (by kernel_rfl)) rfl
   have e31 : a.tmps[31]? = some (.int .i64 (pb : Int)) := pton_ ha 4 rfl rfl (hon 15 (by kernel_rfl)) rfl
   replace ha := Aside0.mk ha
   have VB := Aside0.mk (Q_VB hb_)
   refine goes_ Try.func36 (by kernel_rfl) rfl #[.pointer (some ⟨ar.p, 0, none⟩), .int .i64 0, .int .i64 (pb : Int)] (by rfl) rfl rfl (by first | (simp only [List.map_toArray, List.map_cons, List.map_nil, Act.eval, Array.getD_eq_getD_getElem?, Option.getD_some, e19, e23, e31]; done) | (simp only [List.map_toArray, List.map_cons, List.map_nil, Act.eval, Array.getD_eq_getD_getElem?, Option.getD_some, e19, e23, e31]; rfl)) ?_
   refine (nerase_any ar ok s pb w' HEz.out.fix HEz.out.ok_M (HEz.out.later VB.out.size).ok_n (HAz.out.below VB.out) hpb hs0 hs1).mono ?_
   rintro e w1 ⟨rfl, q1, q2⟩
   refine ⟨_, rfl, ?_⟩
   refine hK.out _ _ ⟨(ptup_ ha.out 5 hb_ rfl rfl rfl), fun h0_ => absurd ((up_self b 16).symm.trans h0_) (by decide), fun _ => ⟨q1, (Mods.of_below VB.out).trans q2⟩⟩
  refine steps_cons ?_ ?_
  ·rintro b a w' ⟨ha, Q_VB, Q_VQ⟩ hb_ hon hoff
   refine ⟨_, rfl, fun K hK => ?_⟩
   have e32 : a.tmps[32]? = some (.int .i64 (eraseS ar s pb).2) := pton_ ha 5 rfl rfl (hon 16 (by kernel_rfl)) rfl
   replace ha := Aside0.mk ha
   have VQ := Aside0.mk (Q_VQ (hon 16 (by kernel_rfl)))
   refine value_ (w1 := w') (v := .int .i64 (eraseS ar s pb).2) (by rfl) rfl ?_ ?_
   ·go_simp
    (try simp only [i64_w])
    try rfl
   refine hK.out _ _ ⟨(ptup_ ha.out 6 hb_ rfl rfl rfl), fun h0_ => absurd ((hon 16 (by kernel_rfl)).symm.trans h0_) (by decide), Q_VQ⟩
  exact steps_nil
 ·rintro b a w' hall ⟨ha, Q_VB, Q_VQ⟩
  clear VB
  have hb3_ := hall 3 (by kernel_rfl)
  have hb7_ := hall 7 (by kernel_rfl)
  have hb12_ := hall 12 (by kernel_rfl)
  have hb14_ := hall 14 (by kernel_rfl)
  have hb15_ := hall 15 (by kernel_rfl)
  have hb16_ := hall 16 (by kernel_rfl)
  have hb17_ := hall 17 (by kernel_rfl)
  subst ha
  simp only [putSel, hb3_, hb7_, hb12_, hb14_, hb15_, hb16_, hb17_, if_true, Act.put, List.setIfInBounds_toArray, List.set_cons_zero, List.set_cons_succ]
  clear Q_VB
  have VQ := Aside0.mk (Q_VQ hb16_)
  clear Q_VQ
  clear hall hb3_ hb7_ hb12_ hb14_ hb15_ hb16_ hb17_
  clear HVz YKz HAz HEz
  have HQ := Lib.hid (show Arr w' ar ok (eraseS ar s pb).1 ∧ VolR w' vp ar.p N T ∧ Mods (fun k => ar.M k ∨ k = vp) w w' from ⟨VQ.out.1, HV1.out.mods (DZ.out.trans VQ.out.2) HE.out.vM HE.out.n_M, HM1.out.trans ((DZ.out.trans VQ.out.2).mono (fun k hk => .inl hk))⟩)
  clear VQ DZ HVW yk HA1 HE1 HV1 HM1 hs0 hs1
  generalize w' = w2 at HQ ⊢
  obtain ⟨sA, hsA⟩ : ∃ sA, (eraseS ar s pb).1 = sA := ⟨_, rfl⟩
  obtain ⟨e1, he1⟩ : ∃ e1, (eraseS ar s pb).2 = e1 := ⟨_, rfl⟩
  rw [hsA] at HQ HOP HVS
  rw [he1] at HVS
  rw [he1]
  clear hsA he1
  go_wp2_with fail
  go_loopg [6] (T.spare.length) (fun kq v6 wr => ∃ (s' : St) (T' : Tb) (e' : Int), v6 = .int .i64 e' ∧ T'.spare.length = kq ∧ Hid (T'.seq = T.seq) ∧ s.ops ≤ s'.ops ∧ s'.ops + (kq : Int) + 15 ≤ 1000000 ∧ Hid (verS ar s T kb = verGo ar kb kq s' T' e') ∧ Hid (Arr wr ar ok s' ∧ VolR wr vp ar.p N T' ∧ TbOk T' ∧ Mods (fun k => ar.M k ∨ k = vp) w wr))
  case atStart => exact ⟨sA, T, e1, rfl, rfl, Lib.hid rfl, HOP.out.1, by have h_ := HOP.out.2; omega, HVS, Lib.hid ⟨HQ.out.1, HQ.out.2.1, HK.out.1, HQ.out.2.2⟩⟩
  case round =>
   obtain ⟨s1, T', e', rfl, hk', hsq', ho0, ho1, HG, HI⟩ := hrel
   clear HQ HOP HVS
   by_cases hz : e' = 70
   ·subst hz
    obtain ⟨PA', pc', SA', sc', hv1, hv2⟩ := HI.out.2.1
    have y6 : wr.cell? ⟨vp, 6, none⟩ = some (.int .u32 T'.seq) := (blk_cell hv1 6).trans rfl
    have y7 : wr.cell? ⟨vp, 7, none⟩ = some (.slice (some PA') 11 pc') := (blk_cell hv1 7).trans rfl
    have y8 : wr.cell? ⟨vp, 8, none⟩ = some (.slice SA' gk sc') := (blk_cell hv1 8).trans (by rw [← hk']; rfl)
    have y9 : wr.cell? ⟨vp, 9, none⟩ = some (.int .i64 T'.t0) := (blk_cell hv1 9).trans rfl
    have y10 : wr.cell? ⟨vp, 10, none⟩ = some (.int .i64 T'.t1) := (blk_cell hv1 10).trans rfl
    have HV1 := Lib.hid (And.intro hv1 hv2)
    have HE2 := Lib.hid (HE.out.later HI.out.2.2.2.size)
    clear hv1 hv2
    go_wp2_with fail
    refine (take_v #[.int .u32 T'.seq, .slice (some PA') 11 pc', .slice SA' gk sc', .int .i64 T'.t0, .int .i64 T'.t1] T' N kb hk wr (by have h_ := HV1.out.2; simp only [tbC] at h_; rw [hk'] at h_; exact h_)).mono ?_
    rintro e w2 ⟨hb2, ⟨hs0, rfl⟩ | ⟨hs0, C', was, rfl, hT3, -⟩⟩
    ·have hg0 : gk = 0 := by rw [← hk', hs0]; rfl
     have HS := Lib.hid (show verS ar s T kb = (s1, T', 70) by rw [HG.out, hg0, verGo])
     have HB2 := Lib.hid hb2
     clear hs0 hg0 hb2
     go_wp2_with fail
     go_ret
     rw [HS.out]
     have hba : ∀ o, Below wr.heap.size wr (w2.alloc o) := fun o => bl_alloc HB2.out o
     exact ⟨rfl, HI.out.1.below (hba _), HI.out.2.1.below (hba _), HI.out.2.2.2.trans (Mods.of_below (hba _))⟩
    ·obtain ⟨P3, p3, S3, q3, rfl⟩ := hT3.shape
     obtain ⟨z6, z7, z8, z9, z10, zf⟩ := vol_facts HV1.out.1 hb2
     rw [hk'] at z8
     have HB2 := Lib.hid (And.intro hb2 (And.intro hT3 hs0))
     have h_ := vol_set HE2.out HI.out.1 HV1.out.1 HI.out.2.2.2 hb2 hT3 (.cells #[.int .u32 (T'.takeV kb).seq, .slice (some P3) 11 p3, .slice S3 (T'.takeV kb).spare.length q3, .int .i64 (T'.takeV kb).t0, .int .i64 (T'.takeV kb).t1] 108)
     obtain ⟨w3, hw3⟩ : ∃ w3, volSet w2 vp (.cells #[.int .u32 (T'.takeV kb).seq, .slice (some P3) 11 p3, .slice S3 (T'.takeV kb).spare.length q3, .int .i64 (T'.takeV kb).t0, .int .i64 (T'.takeV kb).t1] 108) P3 p3 S3 q3 (T'.takeV kb) = w3 := ⟨_, rfl⟩
     rw [hw3] at h_
     have HX0 := Lib.hid h_
     have HW3 := Lib.hid hw3
     clear h_ hw3 hb2 hT3 hs0 y6 y7 y8 y9 y10
     simp only [tbC]
     go_wp2_with fail
     clear z6 z7 z8 z9 z10 zf
     obtain ⟨g, rfl⟩ : ∃ g, gk = g + 1 := by
      cases hsp : T'.spare with
      | nil => exact absurd hsp HB2.out.2.2
      | cons x r => exact ⟨r.length, by rw [← hk', hsp]; rfl⟩
     have hw3 := HW3.out
     simp only [volSet] at hw3
     rw [hw3]
     clear hw3 HW3
     have hT2 := HI.out.2.2.1.takeV HB2.out.2.2 kb (by rw [HI.out.2.1.len]; exact hk)
     obtain ⟨T2, hT2e⟩ : ∃ T2, T'.takeV kb = T2 := ⟨_, rfl⟩
     have HT2e := Lib.hid hT2e
     have HTQ := Lib.hid (show T2.seq = T'.seq ∧ T2.spare.length = g from ⟨by rw [← hT2e]; rfl, by rw [← hT2e]; show (T'.spare.drop 1).length = g; rw [List.length_drop]; omega⟩)
     have hx := HX0.out
     rw [hT2e] at hx hT2
     clear HX0 HB2 HV1 HE2 hT2e
     have HX := Lib.hid hx
     obtain ⟨hat, hpb⟩ := Tb.at_rng hT2 hx.2.1.len kb hk
     obtain ⟨P4, p4, S4, q4, hv4, ht4⟩ := hx.2.1
     have yk := ht4.place kb hk
     rw [hat] at yk
     obtain ⟨pb, hpbe⟩ : ∃ pb, T2.at kb = pb := ⟨_, rfl⟩
     have HPB := Lib.hid hpbe
     have HT2 := Lib.hid hT2
     have HE3 := Lib.hid (HE.out.later hx.2.2.size)
     rw [hpbe] at yk hpb
     simp only [volC] at hv4
     obtain ⟨seq, hsq⟩ : ∃ seq, T2.seq = seq := ⟨_, rfl⟩
     obtain ⟨sn, hsn⟩ : ∃ sn, T2.spare.length = sn := ⟨_, rfl⟩
     obtain ⟨t0, ht0⟩ : ∃ t0, T2.t0 = t0 := ⟨_, rfl⟩
     obtain ⟨t1, ht1⟩ : ∃ t1, T2.t1 = t1 := ⟨_, rfl⟩
     rw [hsq, hsn, ht0, ht1] at hv4
     have HVW := hv4
     have hs0 : 0 ≤ s1.ops := by omega
     have hs1 : s1.ops ≤ 1000000 := by omega
     have kI : (kb : Int) < 11 := by omega
     have HOP := Lib.hid (eraseS_ops ar s1 pb)
     clear hv4 ht4 hat hpbe hx hT2 hsq hsn ht0 ht1
     refine start_ (n := 18) (S := fun w' => True) (ds := []) _ (by kernel_rfl) rfl rfl trivial (fun hHeld => ?_)
     refine with_tabW TsB.tab10 TsB.bits10 (fun HT_ HW_ => ?_)
     have HVz := Lib.hid (show w3.drew.heap[vp]? = _ from HVW)
     have YKz := Lib.hid (show w3.drew.cell? (P4.add kb) = _ from yk)
     have HAz := Lib.hid (HX.out.1.below (show Below w3.heap.size w3 w3.drew from bl_drew (Below.refl _ _)))
     have HEz := Lib.hid (show Env w3.drew ar ok N vp from HE3.out.later (Nat.le_refl _))
     have DZ := Lib.hid (show Mods ar.M w3 w3.drew from (Mods.refl _ w3).drewN 1)
     generalize w3.drew = wz at HVz YKz HAz HEz DZ hHeld ⊢
     have VB := Lib.hid (Below.refl wz.heap.size wz)
     refine pur_ 0 (some 52) HT_.out rfl rfl (by kernel_rfl) (fun _ _ _ h => h) (by rfl) (fun w' => by go_simp; with_reducible rfl) (by simp only [Act.put, List.setIfInBounds_toArray, List.set_cons_zero, List.set_cons_succ, i64_w, i32_w]; rfl) ?_
     refine pur_ 1 (some 53) HT_.out rfl rfl (by kernel_rfl) (fun _ _ _ h => h) (by rfl) (fun w' => by go_simp; with_reducible rfl) (by simp only [Act.put, List.setIfInBounds_toArray, List.set_cons_zero, List.set_cons_succ, i64_w, i32_w]; rfl) ?_
     refine pur_ 2 (some 54) HT_.out rfl rfl (by kernel_rfl) (fun _ _ _ h => h) (by rfl) (fun w' => by go_simp; with_reducible rfl) (by simp only [Act.put, List.setIfInBounds_toArray, List.set_cons_zero, List.set_cons_succ, i64_w, i32_w]; rfl) ?_
     refine pur_ 4 (some 56) HT_.out rfl rfl (by kernel_rfl) (fun _ _ _ h => h) (by rfl) (fun w' => by go_simp; with_reducible rfl) (by simp only [Act.put, List.setIfInBounds_toArray, List.set_cons_zero, List.set_cons_succ, i64_w, i32_w]; rfl) ?_
     refine pur_ 5 (some 57) HT_.out rfl rfl (by kernel_rfl) (fun _ _ _ h => h) (by rfl) (fun w' => by go_simp; with_reducible rfl) (by simp only [Act.put, List.setIfInBounds_toArray, List.set_cons_zero, List.set_cons_succ, i64_w, i32_w]; rfl) ?_
     refine pur_ 6 (some 58) HT_.out rfl rfl (by kernel_rfl) (fun _ _ _ h => h) (by rfl) (fun w' => by go_simp; with_reducible rfl) (by simp only [Act.put, List.setIfInBounds_toArray, List.set_cons_zero, List.set_cons_succ, i64_w, i32_w]; rfl) ?_
     refine pur_ 8 (some 60) HT_.out rfl rfl (by kernel_rfl) (fun _ _ _ h => h) (by rfl) (fun w' => by go_simp; with_reducible rfl) (by simp only [Act.put, List.setIfInBounds_toArray, List.set_cons_zero, List.set_cons_succ, i64_w, i32_w]; rfl) ?_
     refine pur_ 9 (some 61) HT_.out rfl rfl (by kernel_rfl) (fun _ _ _ h => h) (by rfl) (fun w' => by go_simp; with_reducible rfl) (by simp only [Act.put, List.setIfInBounds_toArray, List.set_cons_zero, List.set_cons_succ, i64_w, i32_w]; rfl) ?_
     refine pur_ 10 (some 62) HT_.out rfl rfl (by kernel_rfl) (fun _ _ _ h => h) (by rfl) (fun w' => by go_simp; with_reducible rfl) (by simp only [Act.put, List.setIfInBounds_toArray, List.set_cons_zero, List.set_cons_succ, i64_w, i32_w]; rfl) ?_
     refine pur_ 11 (some 63) HT_.out rfl rfl (by kernel_rfl) (fun _ _ _ h => h) (by rfl) (fun w' => by go_simp; with_reducible rfl) (by simp only [Act.put, List.setIfInBounds_toArray, List.set_cons_zero, List.set_cons_succ, i64_w, i32_w]; rfl) ?_
     refine pur_ 13 (some 65) HT_.out rfl rfl (by kernel_rfl) (fun _ _ _ h => h) (by rfl) (fun w' => by go_simp; with_reducible rfl) (by simp only [Act.put, List.setIfInBounds_toArray, List.set_cons_zero, List.set_cons_succ, i64_w, i32_w]; rfl) ?_
     refine inv_at [3, 7, 12, 14, 15, 16, 17] (fun a0_ b a w' => a = putSel a0_ b [(3, 55, .pointer (some ⟨ar.p, 0, none⟩)), (7, 59, .int .i64 0), (12, 64, .slice (some P4) 11 p4), (14, 66, .pointer (some (P4.add kb))), (15, 67, .int .i64 (pb : Int)), (16, 68, .int .i64 (eraseS ar s1 pb).2), (17, 6, .int .i64 (eraseS ar s1 pb).2)] ∧ (b 16 = false → Below wz.heap.size wz w') ∧ (b 16 = true → Arr w' ar ok (eraseS ar s1 pb).1 ∧ Mods ar.M wz w')) HT_.out HW_.out (by kernel_rfl) (by kernel_rfl) ?_ ?_ ?_
     ·exact ⟨by simp only [putSel, Bool.false_eq_true, if_false], fun _ => VB.out, fun h_ => absurd h_ (by decide)⟩
     ·skip
      clear VB
      refine steps_cons ?_ ?_
      ·rintro b a w' ⟨ha, Q_VB, Q_VQ⟩ hb_ hon hoff
       refine ⟨_, rfl, fun K hK => ?_⟩
       have e54 : a.tmps[54]? = some (.pointer (some ⟨vp, 0, none⟩)) := by rw [ha]; exact (putSel_off rfl).trans rfl
       replace ha := Aside0.mk ha
       have VB := Aside0.mk (Q_VB (hoff 16 (by kernel_rfl)))
       have hc0_ : w'.cell? ⟨vp, 0, none⟩ = some (.pointer (some ⟨ar.p, 0, none⟩)) := (blk_cell (blk_below HVz.out VB.out) 0).trans rfl
       refine value_ (w1 := w') (v := .pointer (some ⟨ar.p, 0, none⟩)) (by rfl) rfl ?_ ?_
       ·go_simp
        (try simp only [i64_w])
        try rfl
       refine hK.out _ _ ⟨(ptup_ ha.out 0 hb_ rfl rfl rfl), Q_VB, off_ (hoff 16 (by kernel_rfl))⟩
      refine steps_cons ?_ ?_
      ·rintro b a w' ⟨ha, Q_VB, Q_VQ⟩ hb_ hon hoff
       refine ⟨_, rfl, fun K hK => ?_⟩
       have e58 : a.tmps[58]? = some (.pointer (some ⟨vp, 1, none⟩)) := by rw [ha]; exact (putSel_off rfl).trans rfl
       replace ha := Aside0.mk ha
       have VB := Aside0.mk (Q_VB (hoff 16 (by kernel_rfl)))
       have hc1_ : w'.cell? ⟨vp, 1, none⟩ = some (.int .i64 0) := (blk_cell (blk_below HVz.out VB.out) 1).trans rfl
       refine value_ (w1 := w') (v := .int .i64 0) (by rfl) rfl ?_ ?_
       ·go_simp
        (try simp only [i64_w])
        try rfl
       refine hK.out _ _ ⟨(ptup_ ha.out 1 hb_ rfl rfl rfl), Q_VB, off_ (hoff 16 (by kernel_rfl))⟩
      refine steps_cons ?_ ?_
      ·rintro b a w' ⟨ha, Q_VB, Q_VQ⟩ hb_ hon hoff
       refine ⟨_, rfl, fun K hK => ?_⟩
       have e63 : a.tmps[63]? = some (.pointer (some ⟨vp, 7, none⟩)) := by rw [ha]; exact (putSel_off rfl).trans rfl
       replace ha := Aside0.mk ha
       have VB := Aside0.mk (Q_VB (hoff 16 (by kernel_rfl)))
       have hc7_ : w'.cell? ⟨vp, 7, none⟩ = some (.slice (some P4) 11 p4) := (blk_cell (blk_below HVz.out VB.out) 7).trans rfl
       refine value_ (w1 := w') (v := .slice (some P4) 11 p4) (by rfl) rfl ?_ ?_
       ·go_simp
        (try simp only [i64_w])
        try rfl
       refine hK.out _ _ ⟨(ptup_ ha.out 2 hb_ rfl rfl rfl), Q_VB, off_ (hoff 16 (by kernel_rfl))⟩
      refine steps_cons ?_ ?_
      ·rintro b a w' ⟨ha, Q_VB, Q_VQ⟩ hb_ hon hoff
       refine ⟨_, rfl, fun K hK => ?_⟩
       have e64 : a.tmps[64]? = some (.slice (some P4) 11 p4) := pton_ ha 2 rfl rfl (hon 12 (by kernel_rfl)) rfl
       have e65 : a.tmps[65]? = some (.int .i64 (kb : Int)) := by rw [ha]; exact (putSel_off rfl).trans rfl
       replace ha := Aside0.mk ha
       have VB := Aside0.mk (Q_VB (hoff 16 (by kernel_rfl)))
       refine value_ (w1 := w') (v := .pointer (some (P4.add kb))) (by rfl) rfl ?_ ?_
       ·go_simp
        (try simp only [i64_w])
        try rfl
       refine hK.out _ _ ⟨(ptup_ ha.out 3 hb_ rfl rfl rfl), Q_VB, off_ (hoff 16 (by kernel_rfl))⟩
      refine steps_cons ?_ ?_
      ·rintro b a w' ⟨ha, Q_VB, Q_VQ⟩ hb_ hon hoff
       refine ⟨_, rfl, fun K hK => ?_⟩
       have e66 : a.tmps[66]? = some (.pointer (some (P4.add kb))) := pton_ ha 3 rfl rfl (hon 14 (by kernel_rfl)) rfl
       replace ha := Aside0.mk ha
       have VB := Aside0.mk (Q_VB (hoff 16 (by kernel_rfl)))
       have hc_ : w'.cell? (P4.add kb) = some (.int .i64 (pb : Int)) := pw_cell_below VB.out YKz.out
       refine value_ (w1 := w') (v := .int .i64 (pb : Int)) (by rfl) rfl ?_ ?_
       ·go_simp
        (try simp only [i64_w])
        try rfl
       refine hK.out _ _ ⟨(ptup_ ha.out 4 hb_ rfl rfl rfl), Q_VB, off_ (hoff 16 (by kernel_rfl))⟩
      refine steps_cons ?_ ?_
      ·rintro b a w' ⟨ha, Q_VB, Q_VQ⟩ hb_ hon hoff
       refine ⟨_, rfl, fun K hK => ?_⟩
       have e55 : a.tmps[55]? = some (.pointer (some ⟨ar.p, 0, none⟩)) := pton_ ha 0 rfl rfl (hon 3 (by kernel_rfl)) rfl
       have e59 : a.tmps[59]? = some (.int .i64 0) := pton_ ha 1 rfl rfl (hon 7 (by kernel_rfl)) rfl
       have e67 : a.tmps[67]? = some (.int .i64 (pb : Int)) := pton_ ha 4 rfl rfl (hon 15 (by kernel_rfl)) rfl
       replace ha := Aside0.mk ha
       have VB := Aside0.mk (Q_VB hb_)
       refine goes_ Try.func36 (by kernel_rfl) rfl #[.pointer (some ⟨ar.p, 0, none⟩), .int .i64 0, .int .i64 (pb : Int)] (by rfl) rfl rfl (by first | (simp only [List.map_toArray, List.map_cons, List.map_nil, Act.eval, Array.getD_eq_getD_getElem?, Option.getD_some, e55, e59, e67]; done) | (simp only [List.map_toArray, List.map_cons, List.map_nil, Act.eval, Array.getD_eq_getD_getElem?, Option.getD_some, e55, e59, e67]; rfl)) ?_
       refine (nerase_any ar ok s1 pb w' HEz.out.fix HEz.out.ok_M (HEz.out.later VB.out.size).ok_n (HAz.out.below VB.out) hpb hs0 hs1).mono ?_
       rintro e w1 ⟨rfl, q1, q2⟩
       refine ⟨_, rfl, ?_⟩
       refine hK.out _ _ ⟨(ptup_ ha.out 5 hb_ rfl rfl rfl), fun h0_ => absurd ((up_self b 16).symm.trans h0_) (by decide), fun _ => ⟨q1, (Mods.of_below VB.out).trans q2⟩⟩
      refine steps_cons ?_ ?_
      ·rintro b a w' ⟨ha, Q_VB, Q_VQ⟩ hb_ hon hoff
       refine ⟨_, rfl, fun K hK => ?_⟩
       have e68 : a.tmps[68]? = some (.int .i64 (eraseS ar s1 pb).2) := pton_ ha 5 rfl rfl (hon 16 (by kernel_rfl)) rfl
       replace ha := Aside0.mk ha
       have VQ := Aside0.mk (Q_VQ (hon 16 (by kernel_rfl)))
       refine value_ (w1 := w') (v := .int .i64 (eraseS ar s1 pb).2) (by rfl) rfl ?_ ?_
       ·go_simp
        (try simp only [i64_w])
        try rfl
       refine hK.out _ _ ⟨(ptup_ ha.out 6 hb_ rfl rfl rfl), fun h0_ => absurd ((hon 16 (by kernel_rfl)).symm.trans h0_) (by decide), Q_VQ⟩
      exact steps_nil
     ·rintro b a w' hall ⟨ha, Q_VB, Q_VQ⟩
      clear VB
      have hb3_ := hall 3 (by kernel_rfl)
      have hb7_ := hall 7 (by kernel_rfl)
      have hb12_ := hall 12 (by kernel_rfl)
      have hb14_ := hall 14 (by kernel_rfl)
      have hb15_ := hall 15 (by kernel_rfl)
      have hb16_ := hall 16 (by kernel_rfl)
      have hb17_ := hall 17 (by kernel_rfl)
      subst ha
      simp only [putSel, hb3_, hb7_, hb12_, hb14_, hb15_, hb16_, hb17_, if_true, Act.put, List.setIfInBounds_toArray, List.set_cons_zero, List.set_cons_succ]
      clear Q_VB
      have VQ := Aside0.mk (Q_VQ hb16_)
      clear Q_VQ
      clear hall hb3_ hb7_ hb12_ hb14_ hb15_ hb16_ hb17_
      clear HVz YKz HAz HEz
      have HQ := Lib.hid (show Arr w' ar ok (eraseS ar s1 pb).1 ∧ VolR w' vp ar.p N T2 ∧ Mods (fun k => ar.M k ∨ k = vp) w w' from ⟨VQ.out.1, HX.out.2.1.mods (DZ.out.trans VQ.out.2) HE.out.vM HE.out.n_M, HX.out.2.2.trans ((DZ.out.trans VQ.out.2).mono (fun k hk => .inl hk))⟩)
      clear VQ DZ HVW yk HX HE3 kI
      generalize w' = w4 at HQ ⊢
      obtain ⟨sA, hsA⟩ : ∃ sA, (eraseS ar s1 pb).1 = sA := ⟨_, rfl⟩
      obtain ⟨e1, he1⟩ : ∃ e1, (eraseS ar s1 pb).2 = e1 := ⟨_, rfl⟩
      have HES := Lib.hid (show eraseS ar s1 pb = (sA, e1) by rw [← hsA, ← he1])
      rw [hsA] at HQ HOP
      rw [he1]
      clear hsA he1
      by_cases hz1 : e1 = 0
      ·subst hz1
       have hf : verS ar s T kb = saveS ar sA T2 := by rw [HG.out, verGo, if_pos rfl, HT2e.out, HPB.out, HES.out, if_pos rfl]
       have hT2u : TbOk T2.up := HT2.out.up (by rw [HTQ.out.1, hsq'.out]; exact HK.out.2)
       have hsv := save_any ar ok N sA vp T2 w4 (HE.out.later HQ.out.2.2.size) HQ.out.1 HQ.out.2.1 hT2u (by have h_ := HOP.out.1; omega) (by have h_ := HOP.out.2; omega)
       obtain ⟨r, hr⟩ : ∃ r, saveS ar sA T2 = r := ⟨_, rfl⟩
       rw [hr] at hsv hf
       have HSV := Lib.hid hsv
       have HF := Lib.hid hf
       clear hsv hf hT2u hr
       go_wp2_with fail
       refine HSV.out.mono ?_
       rintro e w5 ⟨rfl, q1, q2, q3⟩
       have HR := Lib.hid (And.intro q1 (And.intro q2 (HQ.out.2.2.trans q3)))
       clear q1 q2 q3
       go_wp2_with fail
       go_ret
       rw [HF.out]
       exact ⟨rfl, HR.out.1, HR.out.2.1, HR.out.2.2⟩
      ·have hg_ := HG.out
       rw [verGo, if_pos rfl, HT2e.out, HPB.out, HES.out, if_neg hz1] at hg_
       have HG2 := Lib.hid hg_
       clear hg_
       go_wp2_with fail
       go_roundg g
       case measure => omega
       case rel =>
        refine ⟨sA, T2, e1, rfl, HTQ.out.2, Lib.hid (HTQ.out.1.trans hsq'.out), ?_, ?_, HG2, Lib.hid ⟨HQ.out.1, HQ.out.2.1, HT2.out, HQ.out.2.2⟩⟩
        ·have h_ := HOP.out.1; omega
        ·have h_ := HOP.out.2; omega
   ·have hf : verS ar s T kb = (s1, T', e') := by
     rw [HG.out]
     cases gk with
     | zero => rfl
     | succ n => rw [verGo, if_neg hz]
    go_wp2_with fail
    go_ret
    rw [hf]
    exact ⟨rfl, HI.out.1, HI.out.2.1, HI.out.2.2.2⟩
end Go.Proofs.Ytffalemndjampaa
end
