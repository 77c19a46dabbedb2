/- What the proof of TopSealed leans on: Tt Rop1 Ropn. -/
import Derived.Test.YtffalemndjampaaQau
import Derived.Test.YtffalemndjampaaQan
import Derived.Test.YtffalemndjampaaQat
import Derived.Test.YtffalemndjampaaQas
import Derived.StillTailTactics
section
set_option linter.unusedVariables false
set_option linter.unusedSimpArgs false
namespace Go.Proofs.Ytffalemndjampaa
open Go.RowKit Go.Proofs.YtffalemndjampaaW.PrintWords Go.Proofs.YtffalemndjampaaW.PrintLast
def Tb.back (T : Tb) (v : Nat) : Tb := { T.takeV v with place := (T.takeV v).place.set v (T.at v : Int) }
def vprGo (ar : Ar) (v p : Nat) (x : List Int × List Int) : Nat → St → Tb → St × Tb × Int
 | 0, s, T => (s, T, 70)
 | n + 1, s, T => if (salS ar s (T.at v) ((T.takeV v).at v) p x).2 = 0 then saveS ar (salS ar s (T.at v) ((T.takeV v).at v) p x).1 (T.takeV v) else if (salS ar s (T.at v) ((T.takeV v).at v) p x).2 = 70 then vprGo ar v p x n (salS ar s (T.at v) ((T.takeV v).at v) p x).1 (T.back v) else ((salS ar s (T.at v) ((T.takeV v).at v) p x).1, T, (salS ar s (T.at v) ((T.takeV v).at v) p x).2)
def vprS (ar : Ar) (s : St) (T : Tb) (v p : Nat) (x : List Int × List Int) : St × Tb × Int :=
 if (progS ar s (T.at v) p x).2 = 70 then vprGo ar v p x T.spare.length (progS ar s (T.at v) p x).1 T else ((progS ar s (T.at v) p x).1, T, (progS ar s (T.at v) p x).2)
theorem Tb.back_eq {T : Tb} {v : Nat} (h : TbOk T) (hl : T.place.length = 11) (hv : v < 11) : T.back v = T.rest := by
 have ha := (Tb.at_rng h hl v hv).1
 unfold Tb.back Tb.takeV
 simp only [List.set_set]
 have e : T.place.set v (T.at v : Int) = T.place := by
  rw [← ha, List.getD_eq_getElem?_getD, List.getElem?_eq_getElem (by omega)]
  simp
 show Tb.mk T.rest.seq (T.place.set v (T.at v : Int)) T.rest.spare T.rest.t0 T.rest.t1 = T.rest
 rw [e]; rfl
theorem TbOk.rest {T : Tb} (h : TbOk T) : TbOk T.rest := by
 obtain ⟨seq, pl, sp, t0, t1⟩ := T
 obtain ⟨h1, h2, h3, h4⟩ := h
 have hs : (Tb.all (Tb.rest ⟨seq, pl, sp, t0, t1⟩)).Sublist (Tb.all ⟨seq, pl, sp, t0, t1⟩) := List.Sublist.append_left (List.Sublist.append_right (List.drop_sublist 1 sp) _) _
 exact ⟨hs.nodup h1, fun x hx => h2 x (hs.subset hx), h3, h4⟩
def volPut (w : World) (vp : Nat) (P3 : Addr) (p3 : Nat) (S3 : Option Addr) (q3 : Nat) (T : Tb) : World :=
 ((((w.setCell ⟨vp, 6, none⟩ (.int .u32 T.seq)).setCell ⟨vp, 7, none⟩ (.slice (some P3) 11 p3)).setCell ⟨vp, 8, none⟩ (.slice S3 T.spare.length q3)).setCell ⟨vp, 9, none⟩ (.int .i64 T.t0)).setCell ⟨vp, 10, none⟩ (.int .i64 T.t1)
theorem vol_put {w W : World} {ar : Ar} {ok N : Nat → Prop} {vp : Nat} {s : St} {T T3 : Tb} {PA P3 : Addr} {pc p3 : Nat} {SA S3 : Option Addr} {sc q3 : Nat} (hE : Env W ar ok N vp) (hA : Arr W ar ok s) (hv : W.heap[vp]? = some (.cells (volC ar.p PA pc SA sc T) 110 (0, 0)))
  (hM : Mods (fun k => ar.M k ∨ k = vp) w W) (hT : TbR W N (tbC P3 p3 S3 q3 T3) T3) :
  Arr (volPut W vp P3 p3 S3 q3 T3) ar ok s ∧ VolR (volPut W vp P3 p3 S3 q3 T3) vp ar.p N T3 ∧ Mods (fun k => ar.M k ∨ k = vp) w (volPut W vp P3 p3 S3 q3 T3) := by
 have hm : Mods (fun k => k = vp) W (volPut W vp P3 p3 S3 q3 T3) := by
  unfold volPut
  exact volmods (w := W) (w' := W) (S := fun k => k = vp) (Mods.refl _ _) (.inl rfl) _ _ _ _ _
 refine ⟨hA.mods hm (fun k hk => by subst hk; exact hE.out), ⟨P3, p3, S3, q3, ?_, ?_⟩, hM.trans (hm.mono (fun k hk => .inr hk))⟩
 ·simp only [volC] at hv
  exact volput hv _ _ _ _ _
 ·exact hT.mods hm (fun k hk => hE.n_v k hk)
theorem own_mods {S : Nat → Prop} {w w' : World} {B n sz : Nat} {e : TypeId} {v : Value} {xs : List Value} (h : w.ownsRow B e sz v n xs) (hm : Mods S w w') (hs : ∀ k, v.ownBlock = some k → ¬ S k) : w'.ownsRow B e sz v n xs := by
 obtain ⟨h1, h2⟩ := h
 rcases h2 with h3 | ⟨g, cap, cur, e1, hg, r1, r2⟩
 ·exact ⟨h1, .inl h3⟩
 ·subst e1
  exact ⟨h1, .inr ⟨g, cap, cur, rfl, hg, hm.blk r1 (hs g rfl), r2⟩⟩
theorem Arr.okx {w : World} {ar : Ar} {ok : Nat → Prop} {s : St} (h : Arr w ar ok s) {x : Nat} (hx : w.heap.size ≤ x) : Arr w ar (fun k => ok k ∧ k ≠ x) s := by
 obtain ⟨h1, h2, h3, h4, h5, h6, h7⟩ := h
 refine ⟨h1, h2, h3, h4, h5, h6, fun i hi => ?_⟩
 obtain ⟨D, d1, d2, d3⟩ := h7 i hi
 refine ⟨D, d1, d2, fun p hp => ?_⟩
 have h_ := d3 p hp
 cases hpg : (s.bl i).pg p with
 | none => rw [hpg] at h_; exact h_
 | some y =>
  rw [hpg] at h_
  obtain ⟨A, c, B, c', a1, a2, a3, a4, a5, a6, a7, a8, a9⟩ := h_
  have l1 := reads_lt a5 (by decide) A rfl
  have l2 := reads_lt a6 (by decide) B rfl
  exact ⟨A, c, B, c', a1, a2, a3, a4, a5, a6, ⟨a7, by omega⟩, ⟨a8, by omega⟩, a9⟩
theorem Arr.okmono {w : World} {ar : Ar} {ok ok' : Nat → Prop} {s : St} (h : Arr w ar ok' s) (hi : ∀ k, ok' k → ok k) : Arr w ar ok s := by
 obtain ⟨h1, h2, h3, h4, h5, h6, h7⟩ := h
 refine ⟨h1, h2, h3, h4, h5, h6, fun i hi' => ?_⟩
 obtain ⟨D, d1, d2, d3⟩ := h7 i hi'
 refine ⟨D, d1, d2, fun p hp => ?_⟩
 have h_ := d3 p hp
 cases hpg : (s.bl i).pg p with
 | none => rw [hpg] at h_; exact h_
 | some y =>
  rw [hpg] at h_
  obtain ⟨A, c, B, c', a1, a2, a3, a4, a5, a6, a7, a8, a9⟩ := h_
  exact ⟨A, c, B, c', a1, a2, a3, a4, a5, a6, hi _ a7, hi _ a8, a9⟩
theorem Env.okx {w wr : World} {ar : Ar} {ok N : Nat → Prop} {vp x : Nat} (h : Env w ar ok N vp) (hx : x < w.heap.size) : Env w ar (fun k => ok k ∧ k ≠ x) N vp :=
 ⟨h.fix, fun k hk => h.ok_M k hk.1, fun k hk => ⟨h.ok_n k hk, by omega⟩, h.n_M, h.n_v, h.n_n, ⟨h.out.1, h.out.2.1, h.out.2.2.1, h.out.2.2.2.1, h.out.2.2.2.2.1, fun e => h.out.2.2.2.2.2 e.1⟩, h.e_lt, h.l_lt⟩
theorem Arr.outx {w : World} {ar : Ar} {ok N : Nat → Prop} {s : St} {vp : Nat} (h : Arr w ar ok s) (hE : Env w ar ok N vp) {x : Nat} (hx : w.heap.size ≤ x) : ar.Out (fun k => ok k ∧ k ≠ x) x := by
 have q1 := World.block_lt_of_cell? w _ h.2.1
 have q2 := World.block_lt_of_cell? w _ h.2.2.1
 simp only at q1 q2
 refine ⟨fun hm => ?_, ?_, ?_, fun y hy e => ?_, fun y hy hp e => ?_, fun e => e.2 rfl⟩
 ·have := h.M_lt hm; omega
 ·omega
 ·omega
 ·have := hE.e_lt y hy; omega
 ·have := hE.l_lt y hy hp; omega
theorem vol_facts' {w1 : World} {p vp : Nat} {T : Tb} {PA : Addr} {pc : Nat} {SA : Option Addr} {sc : Nat} (hv : w1.heap[vp]? = some (.cells (volC p PA pc SA sc T) 110 (0, 0))) :
  w1.cell? ⟨vp, 6, none⟩ = some (.int .u32 T.seq) ∧ w1.cell? ⟨vp, 7, none⟩ = some (.slice (some PA) 11 pc) ∧ w1.cell? ⟨vp, 8, none⟩ = some (.slice SA T.spare.length sc) ∧ w1.cell? ⟨vp, 9, none⟩ = some (.int .i64 T.t0) ∧ w1.cell? ⟨vp, 10, none⟩ = some (.int .i64 T.t1) ∧ (∀ k, w1.frozen? ⟨vp, k, none⟩ = false) :=
 ⟨blk_cell hv 6, blk_cell hv 7, blk_cell hv 8, blk_cell hv 9, blk_cell hv 10, fun k => blk_frozen hv k⟩
theorem tab_facts {w1 : World} {g : Nat} {T : Tb} {PA : Addr} {pc : Nat} {SA : Option Addr} {sc : Nat} (hv : w1.heap[g]? = some (.cells (tbC PA pc SA sc T) 108 (0, 0))) :
  w1.cell? ⟨g, 0, none⟩ = some (.int .u32 T.seq) ∧ w1.cell? ⟨g, 1, none⟩ = some (.slice (some PA) 11 pc) ∧ w1.cell? ⟨g, 2, none⟩ = some (.slice SA T.spare.length sc) ∧ w1.cell? ⟨g, 3, none⟩ = some (.int .i64 T.t0) ∧ w1.cell? ⟨g, 4, none⟩ = some (.int .i64 T.t1) :=
 ⟨blk_cell hv 0, blk_cell hv 1, blk_cell hv 2, blk_cell hv 3, blk_cell hv 4⟩
def TtA.T4 : Bool × List (List Nat × List Nat) := (true, [([], []), ([0], [0]), ([1], [1]), ([2], [2]), ([], []), ([4], [4]), ([5], [5]), ([6], [6]), ([], []), ([8], [8]), ([9], [9]), ([10], [10]), ([11], [11]), ([], []), ([12, 13], [12, 13]), ([14], [14]), ([], []), ([], []), ([], []), ([3, 7, 15, 16, 17, 18], [3, 7, 15, 16, 17, 18]), ([19, 19, 0, 1, 2, 3, 4, 5, 6, 7, 8, 9, 10, 11, 12, 13, 14, 15, 16, 17, 18, 19], [19])])
def TtA.B4 : List Nat := [0, 1, 3, 7, 0, 16, 48, 112, 0, 256, 768, 1792, 3840, 0, 16128, 32512, 0, 0, 0, 524287, 1048575]
theorem TtA.tab4 : rtab .any (opsOf Try.f23 4) = TtA.T4 := by kernel_rfl
theorem TtA.bits4 : waitsOk TtA.T4.2 TtA.B4 = true := by kernel_rfl
set_option maxHeartbeats 16000000 in
set_option maxRecDepth 100000 in
theorem vprog_any (ar : Ar) (ok N : Nat → Prop) (s : St) (vp kb p : Nat) (T : Tb) (A B : Addr) (cA cB : Nat) (d o : List Int) (w : World) (hE : Env w ar ok N vp) (h : Arr w ar ok s) (hv : VolR w vp ar.p N T) (hT : TbOk T) (hq : T.seq + 1 < 4294967296) (hk : kb < 11) (hp : p < 6) (h0 : 0 ≤ s.ops) (h1 : s.ops + 100 ≤ 1000000)
  (hd : ReadsInt w .u8 (some A) 256 d) (ho : ReadsInt w .u8 (some B) 64 o) (hA : ¬ ar.M A.block) (hB : ¬ ar.M B.block) (hAv : A.block ≠ vp) (hBv : B.block ≠ vp) (byd : Byt d) (byo : Byt o) :
  Calls Try.prog 23 #[.pointer (some ⟨vp, 0, none⟩), .int .i64 (kb : Int), .int .i64 (p : Int), .slice (some A) 256 cA, .slice (some B) 64 cB] w (VolQ w ar ok N vp (vprS ar s T kb p (d, o))) := by
 have hsp3 : T.spare.length ≤ 3 := by obtain ⟨_, _, _, _, _, _, _, _, _, _, _, _, hn, _⟩ := hv; exact hn
 have hlen := hv.len
 obtain ⟨hat, hpb⟩ := Tb.at_rng hT hlen kb hk
 have HV0 := Lib.hid hv
 obtain ⟨PA, pc, SA, sc, hv1, hv2⟩ := hv
 have HIN := Lib.hid (vin_any vp ar.p kb PA pc SA sc T w hv1 hk)
 have hyk := hv2.place kb hk
 rw [hat] at hyk
 have HD := Lib.hid (And.intro hd (And.intro ho (And.intro hA (And.intro hB (And.intro byd byo)))))
 have HDV := Lib.hid (And.intro hAv hBv)
 have HVS := Lib.hid (show vprS ar s T kb p (d, o) = if (progS ar s (T.at kb) p (d, o)).2 = 70 then vprGo ar kb p (d, o) T.spare.length (progS ar s (T.at kb) p (d, o)).1 T else ((progS ar s (T.at kb) p (d, o)).1, T, (progS ar s (T.at kb) p (d, o)).2) from rfl)
 obtain ⟨pb, hpbe⟩ : ∃ pb, T.at kb = pb := ⟨_, rfl⟩
 rw [hpbe] at hyk hpb HVS
 simp only [volC] at hv1
 obtain ⟨seq, hsq⟩ : ∃ seq, T.seq = seq := ⟨_, rfl⟩
 obtain ⟨sn, hsn⟩ : ∃ sn, T.spare.length = sn := ⟨_, rfl⟩
 obtain ⟨t0, ht0⟩ : ∃ t0, T.t0 = t0 := ⟨_, rfl⟩
 obtain ⟨t1, ht1⟩ : ∃ t1, T.t1 = t1 := ⟨_, rfl⟩
 rw [hsq, hsn, ht0, ht1] at hv1
 have HV := Lib.hid hv1
 have HYK := Lib.hid hyk
 have HA := Lib.hid h
 have HE := Lib.hid hE
 have HK := Lib.hid (And.intro hT hq)
 have HOP := Lib.hid (progS_ops ar s pb p (d, o))
 clear hv1 hv2 h hE hT hyk hat hpbe hsq hsn ht0 ht1 hlen hq hd ho hA hB hAv hBv byd byo
 go_enter Try.func23, Try.ntmps23
 go_wp2_with fail
 refine HIN.out.mono ?_
 rintro e w1 ⟨rfl, hb1⟩
 have HVW := blk_below HV.out hb1
 have yk := pw_cell_below hb1 HYK.out
 have HA1 := Lib.hid (HA.out.below hb1)
 have HE1 := Lib.hid (HE.out.later hb1.size)
 have HV1 := Lib.hid (HV0.out.below hb1)
 have HM1 := Lib.hid (show Mods (fun k => ar.M k ∨ k = vp) w w1 from Mods.of_below hb1)
 have HRW : ReadsInt w1 .u8 (some A) 256 d ∧ ReadsInt w1 .u8 (some B) 64 o := ⟨HD.out.1.below hb1, HD.out.2.1.below hb1⟩
 have hs0 := h0
 have hs1 : s.ops ≤ 1000000 := by omega
 have kI : (kb : Int) < 11 := by omega
 clear hb1 HIN HA HV0 HV HYK
 go_wp2_with fail
 refine start_ (n := 21) (S := fun w' => True) (ds := []) _ (by kernel_rfl) rfl rfl trivial (fun hHeld => ?_)
 refine with_tabW TtA.tab4 TtA.bits4 (fun HT_ HW_ => ?_)
 have HVz := Lib.hid (show w1.drew.heap[vp]? = _ from HVW)
 have YKz := Lib.hid (show w1.drew.cell? (PA.add kb) = _ from yk)
 have HAz := Lib.hid (HA1.out.below (show Below w1.heap.size w1 w1.drew from bl_drew (Below.refl _ _)))
 have HEz := Lib.hid (show Env w1.drew ar ok N vp from HE1.out.later (Nat.le_refl _))
 have HRz := Lib.hid (show ReadsInt w1.drew .u8 (some A) 256 d ∧ ReadsInt w1.drew .u8 (some B) 64 o from ⟨HRW.1.below (bl_drew (Below.refl _ _)), HRW.2.below (bl_drew (Below.refl _ _))⟩)
 have DZ := Lib.hid (show Mods ar.M w1 w1.drew from (Mods.refl _ w1).drewN 1)
 generalize w1.drew = wz at HVz YKz HAz HEz HRz DZ hHeld ⊢
 have VB := Lib.hid (Below.refl wz.heap.size wz)
 refine pur_ 0 (some 24) HT_.out rfl rfl (by kernel_rfl) (fun _ _ _ h => h) (by rfl) (fun w' => by go_simp; with_reducible rfl) (by simp only [Act.put, List.setIfInBounds_toArray, List.set_cons_zero, List.set_cons_succ, i64_w, i32_w]; rfl) ?_
 refine pur_ 1 (some 25) HT_.out rfl rfl (by kernel_rfl) (fun _ _ _ h => h) (by rfl) (fun w' => by go_simp; with_reducible rfl) (by simp only [Act.put, List.setIfInBounds_toArray, List.set_cons_zero, List.set_cons_succ, i64_w, i32_w]; rfl) ?_
 refine pur_ 2 (some 26) HT_.out rfl rfl (by kernel_rfl) (fun _ _ _ h => h) (by rfl) (fun w' => by go_simp; with_reducible rfl) (by simp only [Act.put, List.setIfInBounds_toArray, List.set_cons_zero, List.set_cons_succ, i64_w, i32_w]; rfl) ?_
 refine pur_ 4 (some 28) HT_.out rfl rfl (by kernel_rfl) (fun _ _ _ h => h) (by rfl) (fun w' => by go_simp; with_reducible rfl) (by simp only [Act.put, List.setIfInBounds_toArray, List.set_cons_zero, List.set_cons_succ, i64_w, i32_w]; rfl) ?_
 refine pur_ 5 (some 29) HT_.out rfl rfl (by kernel_rfl) (fun _ _ _ h => h) (by rfl) (fun w' => by go_simp; with_reducible rfl) (by simp only [Act.put, List.setIfInBounds_toArray, List.set_cons_zero, List.set_cons_succ, i64_w, i32_w]; rfl) ?_
 refine pur_ 6 (some 30) HT_.out rfl rfl (by kernel_rfl) (fun _ _ _ h => h) (by rfl) (fun w' => by go_simp; with_reducible rfl) (by simp only [Act.put, List.setIfInBounds_toArray, List.set_cons_zero, List.set_cons_succ, i64_w, i32_w]; rfl) ?_
 refine pur_ 8 (some 32) HT_.out rfl rfl (by kernel_rfl) (fun _ _ _ h => h) (by rfl) (fun w' => by go_simp; with_reducible rfl) (by simp only [Act.put, List.setIfInBounds_toArray, List.set_cons_zero, List.set_cons_succ, i64_w, i32_w]; rfl) ?_
 refine pur_ 9 (some 33) HT_.out rfl rfl (by kernel_rfl) (fun _ _ _ h => h) (by rfl) (fun w' => by go_simp; with_reducible rfl) (by simp only [Act.put, List.setIfInBounds_toArray, List.set_cons_zero, List.set_cons_succ, i64_w, i32_w]; rfl) ?_
 refine pur_ 10 (some 34) HT_.out rfl rfl (by kernel_rfl) (fun _ _ _ h => h) (by rfl) (fun w' => by go_simp; with_reducible rfl) (by simp only [Act.put, List.setIfInBounds_toArray, List.set_cons_zero, List.set_cons_succ, i64_w, i32_w]; rfl) ?_
 refine pur_ 11 (some 35) HT_.out rfl rfl (by kernel_rfl) (fun _ _ _ h => h) (by rfl) (fun w' => by go_simp; with_reducible rfl) (by simp only [Act.put, List.setIfInBounds_toArray, List.set_cons_zero, List.set_cons_succ, i64_w, i32_w]; rfl) ?_
 refine pur_ 13 (some 37) HT_.out rfl rfl (by kernel_rfl) (fun _ _ _ h => h) (by rfl) (fun w' => by go_simp; with_reducible rfl) (by simp only [Act.put, List.setIfInBounds_toArray, List.set_cons_zero, List.set_cons_succ, i64_w, i32_w]; rfl) ?_
 refine pur_ 16 (some 40) HT_.out rfl rfl (by kernel_rfl) (fun _ _ _ h => h) (by rfl) (fun w' => by go_simp; with_reducible rfl) (by simp only [Act.put, List.setIfInBounds_toArray, List.set_cons_zero, List.set_cons_succ, i64_w, i32_w]; rfl) ?_
 refine pur_ 17 (some 41) HT_.out rfl rfl (by kernel_rfl) (fun _ _ _ h => h) (by rfl) (fun w' => by go_simp; with_reducible rfl) (by simp only [Act.put, List.setIfInBounds_toArray, List.set_cons_zero, List.set_cons_succ, i64_w, i32_w]; rfl) ?_
 refine pur_ 18 (some 42) HT_.out rfl rfl (by kernel_rfl) (fun _ _ _ h => h) (by rfl) (fun w' => by go_simp; with_reducible rfl) (by simp only [Act.put, List.setIfInBounds_toArray, List.set_cons_zero, List.set_cons_succ, i64_w, i32_w]; rfl) ?_
 refine inv_at [3, 7, 12, 14, 15, 19, 20] (fun a0_ b a w' => a = putSel a0_ b [(3, 27, .pointer (some ⟨ar.p, 0, none⟩)), (7, 31, .int .i64 0), (12, 36, .slice (some PA) 11 pc), (14, 38, .pointer (some (PA.add kb))), (15, 39, .int .i64 (pb : Int)), (19, 43, .int .i64 (progS ar s pb p (d, o)).2), (20, 12, .int .i64 (progS ar s pb p (d, o)).2)] ∧ (b 19 = false → Below wz.heap.size wz w') ∧ (b 19 = true → Arr w' ar ok (progS ar s pb p (d, o)).1 ∧ Mods ar.M wz w')) HT_.out HW_.out (by kernel_rfl) (by kernel_rfl) ?_ ?_ ?_
 ·exact ⟨by simp only [putSel, Bool.false_eq_true, if_false], fun _ => VB.out, fun h_ => absurd h_ (by decide)⟩
 ·skip
  clear VB
  refine steps_cons ?_ ?_
  ·rintro b a w' ⟨ha, Q_VB, Q_VQ⟩ hb_ hon hoff
   refine ⟨_, rfl, fun K hK => ?_⟩
   have e26 : a.tmps[26]? = some (.pointer (some ⟨vp, 0, none⟩)) := by rw [ha]; exact (putSel_off rfl).trans rfl
   replace ha := Aside0.mk ha
   have VB := Aside0.mk (Q_VB (hoff 19 (by kernel_rfl)))
   have hc0_ : w'.cell? ⟨vp, 0, none⟩ = some (.pointer (some ⟨ar.p, 0, none⟩)) := (blk_cell (blk_below HVz.out VB.out) 0).trans rfl
   refine value_ (w1 := w') (v := .pointer (some ⟨ar.p, 0, none⟩)) (by rfl) rfl ?_ ?_
   ·go_simp
    (try simp only [i64_w])
    try rfl
   refine hK.out _ _ ⟨(ptup_ ha.out 0 hb_ rfl rfl rfl), Q_VB, off_ (hoff 19 (by kernel_rfl))⟩
  refine steps_cons ?_ ?_
  ·rintro b a w' ⟨ha, Q_VB, Q_VQ⟩ hb_ hon hoff
   refine ⟨_, rfl, fun K hK => ?_⟩
   have e30 : a.tmps[30]? = some (.pointer (some ⟨vp, 1, none⟩)) := by rw [ha]; exact (putSel_off rfl).trans rfl
   replace ha := Aside0.mk ha
   have VB := Aside0.mk (Q_VB (hoff 19 (by kernel_rfl)))
   have hc1_ : w'.cell? ⟨vp, 1, none⟩ = some (.int .i64 0) := (blk_cell (blk_below HVz.out VB.out) 1).trans rfl
   refine value_ (w1 := w') (v := .int .i64 0) (by rfl) rfl ?_ ?_
   ·go_simp
    (try simp only [i64_w])
    try rfl
   refine hK.out _ _ ⟨(ptup_ ha.out 1 hb_ rfl rfl rfl), Q_VB, off_ (hoff 19 (by kernel_rfl))⟩
  refine steps_cons ?_ ?_
  ·rintro b a w' ⟨ha, Q_VB, Q_VQ⟩ hb_ hon hoff
   refine ⟨_, rfl, fun K hK => ?_⟩
   have e35 : a.tmps[35]? = some (.pointer (some ⟨vp, 7, none⟩)) := by rw [ha]; exact (putSel_off rfl).trans rfl
   replace ha := Aside0.mk ha
   have VB := Aside0.mk (Q_VB (hoff 19 (by kernel_rfl)))
   have hc7_ : w'.cell? ⟨vp, 7, none⟩ = some (.slice (some PA) 11 pc) := (blk_cell (blk_below HVz.out VB.out) 7).trans rfl
   refine value_ (w1 := w') (v := .slice (some PA) 11 pc) (by rfl) rfl ?_ ?_
   ·go_simp
    (try simp only [i64_w])
    try rfl
   refine hK.out _ _ ⟨(ptup_ ha.out 2 hb_ rfl rfl rfl), Q_VB, off_ (hoff 19 (by kernel_rfl))⟩
  refine steps_cons ?_ ?_
  ·rintro b a w' ⟨ha, Q_VB, Q_VQ⟩ hb_ hon hoff
   refine ⟨_, rfl, fun K hK => ?_⟩
   have e36 : a.tmps[36]? = some (.slice (some PA) 11 pc) := pton_ ha 2 rfl rfl (hon 12 (by kernel_rfl)) rfl
   have e37 : a.tmps[37]? = some (.int .i64 (kb : Int)) := by rw [ha]; exact (putSel_off rfl).trans rfl
   replace ha := Aside0.mk ha
   have VB := Aside0.mk (Q_VB (hoff 19 (by kernel_rfl)))
   refine value_ (w1 := w') (v := .pointer (some (PA.add kb))) (by rfl) rfl ?_ ?_
   ·go_simp
    (try simp only [i64_w])
    try rfl
   refine hK.out _ _ ⟨(ptup_ ha.out 3 hb_ rfl rfl rfl), Q_VB, off_ (hoff 19 (by kernel_rfl))⟩
  refine steps_cons ?_ ?_
  ·rintro b a w' ⟨ha, Q_VB, Q_VQ⟩ hb_ hon hoff
   refine ⟨_, rfl, fun K hK => ?_⟩
   have e38 : a.tmps[38]? = some (.pointer (some (PA.add kb))) := pton_ ha 3 rfl rfl (hon 14 (by kernel_rfl)) rfl
   replace ha := Aside0.mk ha
   have VB := Aside0.mk (Q_VB (hoff 19 (by kernel_rfl)))
   have hc_ : w'.cell? (PA.add kb) = some (.int .i64 (pb : Int)) := pw_cell_below VB.out YKz.out
   refine value_ (w1 := w') (v := .int .i64 (pb : Int)) (by rfl) rfl ?_ ?_
   ·go_simp
    (try simp only [i64_w])
    try rfl
   refine hK.out _ _ ⟨(ptup_ ha.out 4 hb_ rfl rfl rfl), Q_VB, off_ (hoff 19 (by kernel_rfl))⟩
  refine steps_cons ?_ ?_
  ·rintro b a w' ⟨ha, Q_VB, Q_VQ⟩ hb_ hon hoff
   refine ⟨_, rfl, fun K hK => ?_⟩
   have e27 : a.tmps[27]? = some (.pointer (some ⟨ar.p, 0, none⟩)) := pton_ ha 0 rfl rfl (hon 3 (by kernel_rfl)) rfl
   have e31 : a.tmps[31]? = some (.int .i64 0) := pton_ ha 1 rfl rfl (hon 7 (by kernel_rfl)) rfl
   have e39 : a.tmps[39]? = some (.int .i64 (pb : Int)) := pton_ ha 4 rfl rfl (hon 15 (by kernel_rfl)) rfl
   have e40 : a.tmps[40]? = some (.int .i64 (p : Int)) := by rw [ha]; exact (putSel_off rfl).trans rfl
   have e41 : a.tmps[41]? = some (.slice (some A) 256 cA) := by rw [ha]; exact (putSel_off rfl).trans rfl
   have e42 : a.tmps[42]? = some (.slice (some B) 64 cB) := by rw [ha]; exact (putSel_off rfl).trans rfl
   replace ha := Aside0.mk ha
   have VB := Aside0.mk (Q_VB hb_)
   refine goes_ Try.func42 (by kernel_rfl) rfl #[.pointer (some ⟨ar.p, 0, none⟩), .int .i64 0, .int .i64 (pb : Int), .int .i64 (p : Int), .slice (some A) 256 cA, .slice (some B) 64 cB] (by rfl) rfl rfl (by first | (simp only [List.map_toArray, List.map_cons, List.map_nil, Act.eval, Array.getD_eq_getD_getElem?, Option.getD_some, e27, e31, e39, e40, e41, e42]; done) | (simp only [List.map_toArray, List.map_cons, List.map_nil, Act.eval, Array.getD_eq_getD_getElem?, Option.getD_some, e27, e31, e39, e40, e41, e42]; rfl)) ?_
   refine (nprog_any ar ok s pb p A B cA cB d o w' HEz.out.fix HEz.out.ok_M (HEz.out.later VB.out.size).ok_n (HAz.out.below VB.out) hpb hp hs0 hs1 (HRz.out.1.below VB.out) (HRz.out.2.below VB.out) HD.out.2.2.1 HD.out.2.2.2.1 HD.out.2.2.2.2.1 HD.out.2.2.2.2.2).mono ?_
   rintro e w1 ⟨rfl, q1, q2⟩
   refine ⟨_, rfl, ?_⟩
   refine hK.out _ _ ⟨(ptup_ ha.out 5 hb_ rfl rfl rfl), fun h0_ => absurd ((up_self b 19).symm.trans h0_) (by decide), fun _ => ⟨q1, (Mods.of_below VB.out).trans q2⟩⟩
  refine steps_cons ?_ ?_
  ·rintro b a w' ⟨ha, Q_VB, Q_VQ⟩ hb_ hon hoff
   refine ⟨_, rfl, fun K hK => ?_⟩
   have e43 : a.tmps[43]? = some (.int .i64 (progS ar s pb p (d, o)).2) := pton_ ha 5 rfl rfl (hon 19 (by kernel_rfl)) rfl
   replace ha := Aside0.mk ha
   have VQ := Aside0.mk (Q_VQ (hon 19 (by kernel_rfl)))
   refine value_ (w1 := w') (v := .int .i64 (progS ar s pb p (d, o)).2) (by rfl) rfl ?_ ?_
   ·go_simp
    (try simp only [i64_w])
    try rfl
   refine hK.out _ _ ⟨(ptup_ ha.out 6 hb_ rfl rfl rfl), fun h0_ => absurd ((hon 19 (by kernel_rfl)).symm.trans h0_) (by decide), Q_VQ⟩
  exact steps_nil
 ·rintro b a w' hall ⟨ha, Q_VB, Q_VQ⟩
  clear VB
  have hb3_ := hall 3 (by kernel_rfl)
  have hb7_ := hall 7 (by kernel_rfl)
  have hb12_ := hall 12 (by kernel_rfl)
  have hb14_ := hall 14 (by kernel_rfl)
  have hb15_ := hall 15 (by kernel_rfl)
  have hb19_ := hall 19 (by kernel_rfl)
  have hb20_ := hall 20 (by kernel_rfl)
  subst ha
  simp only [putSel, hb3_, hb7_, hb12_, hb14_, hb15_, hb19_, hb20_, if_true, Act.put, List.setIfInBounds_toArray, List.set_cons_zero, List.set_cons_succ]
  clear Q_VB
  have VQ := Aside0.mk (Q_VQ hb19_)
  clear Q_VQ
  clear hall hb3_ hb7_ hb12_ hb14_ hb15_ hb19_ hb20_
  clear HVz YKz HAz HEz HRz
  have HQ := Lib.hid (show Arr w' ar ok (progS ar s pb p (d, o)).1 ∧ VolR w' vp ar.p N T ∧ Mods (fun k => ar.M k ∨ k = vp) w w' from ⟨VQ.out.1, HV1.out.mods (DZ.out.trans VQ.out.2) HE.out.vM HE.out.n_M, HM1.out.trans ((DZ.out.trans VQ.out.2).mono (fun k hk => .inl hk))⟩)
  clear VQ DZ HVW yk HA1 HE1 HV1 HM1 HRW hs0 hs1
  generalize w' = w2 at HQ ⊢
  obtain ⟨sA, hsA⟩ : ∃ sA, (progS ar s pb p (d, o)).1 = sA := ⟨_, rfl⟩
  obtain ⟨e1, he1⟩ : ∃ e1, (progS ar s pb p (d, o)).2 = e1 := ⟨_, rfl⟩
  rw [hsA] at HQ HOP HVS
  rw [he1] at HVS
  rw [he1]
  clear hsA he1
  by_cases hz0 : e1 = 70
  ·subst hz0
   have hvs := HVS.out
   rw [if_pos rfl] at hvs
   have HVS := Lib.hid hvs
   clear hvs
   go_wp2_with fail
   go_loopg [] (T.spare.length) (fun kq wr => ∃ (s' : St) (T' : Tb), T'.spare.length = kq ∧ Hid (T'.seq = T.seq) ∧ s.ops ≤ s'.ops ∧ s'.ops + 12 * (kq : Int) + 15 ≤ 1000000 ∧ Hid (vprS ar s T kb p (d, o) = vprGo ar kb p (d, o) kq s' T') ∧ Hid (Arr wr ar ok s' ∧ VolR wr vp ar.p N T' ∧ TbOk T' ∧ Mods (fun k => ar.M k ∨ k = vp) w wr))
   case atStart => exact ⟨sA, T, rfl, Lib.hid rfl, HOP.out.1, by have h_ := HOP.out.2; omega, HVS, Lib.hid ⟨HQ.out.1, HQ.out.2.1, HK.out.1, HQ.out.2.2⟩⟩
   case round =>
    obtain ⟨s1, T', hk', hsq', ho0, ho1, HG, HI⟩ := hrel
    clear HQ HOP HVS
    obtain ⟨PA', pc', SA', sc', hv1, hv2⟩ := HI.out.2.1
    obtain ⟨hat', hpo⟩ := Tb.at_rng HI.out.2.2.1 HI.out.2.1.len kb hk
    have yk := hv2.place kb hk
    rw [hat'] at yk
    obtain ⟨po, hpoe⟩ : ∃ po, T'.at kb = po := ⟨_, rfl⟩
    have HPO := Lib.hid hpoe
    rw [hpoe] at yk hpo
    have y6 : wr.cell? ⟨vp, 6, none⟩ = some (.int .u32 T'.seq) := (blk_cell hv1 6).trans rfl
    have y7 : wr.cell? ⟨vp, 7, none⟩ = some (.slice (some PA') 11 pc') := (blk_cell hv1 7).trans rfl
    have y8 : wr.cell? ⟨vp, 8, none⟩ = some (.slice SA' gk sc') := (blk_cell hv1 8).trans (by rw [← hk']; rfl)
    have y9 : wr.cell? ⟨vp, 9, none⟩ = some (.int .i64 T'.t0) := (blk_cell hv1 9).trans rfl
    have y10 : wr.cell? ⟨vp, 10, none⟩ = some (.int .i64 T'.t1) := (blk_cell hv1 10).trans rfl
    have HV1 := Lib.hid (And.intro hv1 hv2)
    have HE2 := Lib.hid (HE.out.later HI.out.2.2.2.size)
    clear hv1 hv2 hat' hpoe
    go_wp2_with fail
    refine (take_v #[.int .u32 T'.seq, .slice (some PA') 11 pc', .slice SA' gk sc', .int .i64 T'.t0, .int .i64 T'.t1] T' N kb hk wr (by have h_ := HV1.out.2; simp only [tbC] at h_; rw [hk'] at h_; exact h_)).mono ?_
    rintro e w2 ⟨hb2, ⟨hs0, rfl⟩ | ⟨hs0, C', was, rfl, hT3, hOP⟩⟩
    ·have hg0 : gk = 0 := by rw [← hk', hs0]; rfl
     have HS := Lib.hid (show vprS ar s T kb p (d, o) = (s1, T', 70) by rw [HG.out, hg0, vprGo])
     have HB2 := Lib.hid hb2
     clear hs0 hg0 hb2
     go_wp2_with fail
     go_ret
     rw [HS.out]
     have hba : ∀ o, Below wr.heap.size wr (w2.alloc o) := fun o => bl_alloc HB2.out o
     exact ⟨rfl, HI.out.1.below (hba _), HI.out.2.1.below (hba _), HI.out.2.2.2.trans (Mods.of_below (hba _))⟩
    ·obtain ⟨P3, p3, S3, q3, rfl⟩ := hT3.shape
     obtain ⟨x, y, hc1, hown, hne⟩ := hOP
     obtain ⟨rfl, rfl⟩ : P3 = ⟨x, 0, none⟩ ∧ p3 = y := by
      have h_ : some (Value.slice (some P3) 11 p3) = some (Value.slice (some ⟨x, 0, none⟩) 11 y) := hc1
      simp only [Option.some.injEq, Value.slice.injEq] at h_
      exact ⟨h_.1, h_.2.2⟩
     have hT2 := HI.out.2.2.1.takeV hs0 kb (by rw [HI.out.2.1.len]; exact hk)
     obtain ⟨hat2, hpn⟩ := Tb.at_rng hT2 hT3.len kb hk
     obtain ⟨pn, hpne⟩ : ∃ pn, (T'.takeV kb).at kb = pn := ⟨_, rfl⟩
     rw [hpne] at hat2 hpn
     obtain ⟨pc1, pc2⟩ := own_at hown (kb : Int) (by omega) (by omega)
     rw [Int.toNat_natCast, rd_getD, hat2] at pc1
     have ya : ∀ o, (w2.alloc o).cell? ⟨x, kb, none⟩ = some (.int .i64 (pn : Int)) := fun o => pw_cell_below (bl_alloc (Below.refl _ _) o) pc1
     have kI : (kb : Int) < 11 := by omega
     have HB2 := Lib.hid (And.intro hb2 (And.intro hT3 (And.intro hs0 (And.intro hown hne))))
     have HPN := Lib.hid hpne
     have HT2 := Lib.hid hT2
     clear hb2 hT3 hs0 hown hne hc1 hpne hT2 hat2 pc1 pc2 yk y6 y7 y8 y9 y10
     simp only [tbC]
     go_wp2_with fail
     clear ya
     obtain ⟨g, rfl⟩ : ∃ g, gk = g + 1 := by
      cases hsp : T'.spare with
      | nil => exact absurd hsp HB2.out.2.2.1
      | cons x r => exact ⟨r.length, by rw [← hk', hsp]; rfl⟩
     obtain ⟨T2, hT2e⟩ : ∃ T2, T'.takeV kb = T2 := ⟨_, rfl⟩
     have HTQ := Lib.hid (show T2.seq = T'.seq ∧ T2.spare.length = g ∧ T'.back kb = { T2 with place := T2.place.set kb (po : Int) } from ⟨by rw [← hT2e]; rfl, by rw [← hT2e]; show (T'.spare.drop 1).length = g; rw [List.length_drop]; omega, by unfold Tb.back; rw [hT2e, HPO.out]⟩)
     have hb2 := HB2.out.1
     have hT3 := HB2.out.2.1
     have hown := HB2.out.2.2.2.1
     have hnn := HB2.out.2.2.2.2
     rw [hT2e] at hT3 hown HT2 HPN ⊢
     have hba : Below w2.heap.size w2 (w2.alloc (.cells (tbC ⟨x, 0, none⟩ p3 S3 q3 T2) 108)) := bl_alloc (Below.refl _ _) _
     have hg4 := heap_alloc_new w2 (.cells (tbC ⟨x, 0, none⟩ p3 S3 q3 T2) 108)
     have hx0 : wr.heap.size ≤ x ∧ x < w2.heap.size := by have h_ := hown.lt x rfl; exact ⟨h_.1, h_.2⟩
     obtain ⟨w3, hw3⟩ : ∃ w3, w2.alloc (.cells (tbC ⟨x, 0, none⟩ p3 S3 q3 T2) 108) = w3 := ⟨_, rfl⟩
     obtain ⟨g14, hg14⟩ : ∃ g14, w2.heap.size = g14 := ⟨_, rfl⟩
     rw [hw3] at hba hg4
     rw [hg14] at hg4
     have hw3' := hw3
     simp only [tbC] at hw3'
     rw [hw3']
     try rw [hg14]
     have hb3 : Below wr.heap.size wr w3 := bl_seq hb2 hba
     have HG4 := Lib.hid hg4
     have HX := Lib.hid (show wr.heap.size ≤ x ∧ x < w3.heap.size ∧ x ≠ g14 ∧ wr.heap.size ≤ g14 ∧ x ≠ vp ∧ g14 ≠ vp ∧ ¬ ar.M x ∧ ¬ ar.M g14 from by
      have h1_ := hba.size
      have h2_ := hb2.size
      have h3_ := blk_lt HV1.out.1
      refine ⟨hx0.1, by omega, by omega, by omega, by omega, by omega, fun hm => ?_, fun hm => ?_⟩
      ·have := HI.out.1.M_lt hm; omega
      ·have := HI.out.1.M_lt hm; omega)
     have HO := Lib.hid (And.intro (pw_own_below hown hba) (And.intro (hT3.below hba) hnn))
     have HA3 := Lib.hid ((HI.out.1.okx hx0.1).below hb3)
     have HE3 := Lib.hid (show Env w3 ar (fun k => ok k ∧ k ≠ x) N vp from Env.okx (wr := wr) (HE2.out.later hb3.size) HX.out.2.1)
     have HOX := Lib.hid (HI.out.1.outx HE2.out hx0.1)
     have HV3 := Lib.hid (And.intro (blk_below HV1.out.1 hb3) (HV1.out.2.below hb3))
     have HM3 := Lib.hid (show Mods (fun k => ar.M k ∨ k = vp) w w3 from HI.out.2.2.2.trans (Mods.of_below hb3))
     have HR3 := Lib.hid (show ReadsInt w3 .u8 (some A) 256 d ∧ ReadsInt w3 .u8 (some B) 64 o from ⟨HM3.out.reads HD.out.1 (fun z hz => by obtain rfl := Option.some.inj hz; exact fun e => e.elim HD.out.2.2.1 HDV.out.1), HM3.out.reads HD.out.2.1 (fun z hz => by obtain rfl := Option.some.inj hz; exact fun e => e.elim HD.out.2.2.2.1 HDV.out.2)⟩)
     have hsv := salvage_any ar (fun k => ok k ∧ k ≠ x) N s1 vp po pn p T' A B cA cB d o w3 HE3.out HA3.out ⟨PA', pc', SA', sc', HV3.out.1, HV3.out.2⟩ hpo hpn hp (by omega) (by omega) HR3.out.1 HR3.out.2 HD.out.2.2.1 HD.out.2.2.2.1 HD.out.2.2.2.2.1 HD.out.2.2.2.2.2
     have HSO := Lib.hid (salS_ops ar s1 po pn p (d, o))
     obtain ⟨r, hr⟩ : ∃ r, salS ar s1 po pn p (d, o) = r := ⟨_, rfl⟩
     rw [hr] at hsv HSO
     obtain ⟨sB, e2⟩ := r
     have HSV := Lib.hid hsv
     have HR := Lib.hid (show salS ar s1 (T'.at kb) (T2.at kb) p (d, o) = (sB, e2) by rw [HPO.out, HPN.out]; exact hr)
     have HT2e := Lib.hid hT2e
     clear hsv hr hb2 hT3 hown hnn hba hg4 hx0 hw3 hw3' hg14 hb3 HB2 HA3 HR3 hT2e
     refine HSV.out.mono ?_
     rintro e w4 ⟨rfl, q1, q2⟩
     have HA4 := Lib.hid q1
     have hv4 := q2.blk HV3.out.1 HE.out.vM
     have HV4 := Lib.hid hv4
     have HG5 := Lib.hid (q2.blk HG4.out HX.out.2.2.2.2.2.2.2)
     have HO4 := Lib.hid (And.intro (own_mods HO.out.1 q2 (fun k hk_ => by obtain rfl := Option.some.inj hk_; exact HX.out.2.2.2.2.2.2.1)) (And.intro (HO.out.2.1.mods q2 (fun k hk_ hm => by have := HI.out.1.M_lt hm; omega)) HO.out.2.2))
     have HM4 := Lib.hid (show Mods (fun k => ar.M k ∨ k = vp) w w4 from HM3.out.trans (q2.mono (fun k hk => .inl hk)))
     have HT4 := Lib.hid (HV3.out.2.mods q2 HE.out.n_M)
     have HE4 := Lib.hid (HE3.out.later q2.size)
     clear q1 q2 HSV HV3 HG4 HO HM3 HE3
     by_cases hz2 : e2 = 0
     ·subst hz2
      obtain ⟨z6, z7, z8, z9, z10, zf⟩ := vol_facts' HV4.out
      obtain ⟨v0, v1, v2, v3, v4⟩ := tab_facts HG5.out
      rw [hk'] at z8
      go_wp2_with fail
      clear z6 z7 z8 z9 z10 zf v0 v1 v2 v3 v4
      have hp_ := vol_put (N := N) (HE.out.later HM4.out.size) (HA4.out.okmono (fun k hk => hk.1)) HV4.out HM4.out (HO4.out.2.1.mono (fun k hk => HE2.out.n_n k hk))
      obtain ⟨w5, hw5⟩ : ∃ w5, volPut w4 vp ⟨x, 0, none⟩ p3 S3 q3 T2 = w5 := ⟨_, rfl⟩
      rw [hw5] at hp_
      simp only [volPut] at hw5
      rw [hw5]
      have HP := Lib.hid hp_
      have hT2u : TbOk T2.up := HT2.out.up (by rw [HTQ.out.1, hsq'.out]; exact HK.out.2)
      have hsv := save_any ar ok N sB vp T2 w5 (HE.out.later hp_.2.2.size) hp_.1 hp_.2.1 hT2u (by have h_ : s1.ops ≤ sB.ops := HSO.out.1; omega) (by have h_ : sB.ops ≤ s1.ops + 2 * (p : Int) + 2 := HSO.out.2; omega)
      have hf : vprS ar s T kb p (d, o) = saveS ar sB T2 := by rw [HG.out, vprGo, HT2e.out, HR.out, if_pos rfl]
      obtain ⟨r, hr⟩ : ∃ r, saveS ar sB T2 = r := ⟨_, rfl⟩
      rw [hr] at hsv hf
      have HSV := Lib.hid hsv
      have HF := Lib.hid hf
      clear hsv hf hr hT2u hp_ hw5
      refine HSV.out.mono ?_
      rintro e w6 ⟨rfl, q1, q2, q3⟩
      have HR6 := Lib.hid (And.intro q1 (And.intro q2 (HP.out.2.2.trans q3)))
      clear q1 q2 q3
      go_wp2_with fail
      go_ret
      rw [HF.out]
      exact ⟨rfl, HR6.out.1, HR6.out.2.1, HR6.out.2.2⟩
     ·by_cases hz7 : e2 = 70
      ·subst hz7
       obtain ⟨z6, z7, z8, z9, z10, zf⟩ := vol_facts' HV4.out
       obtain ⟨v0, v1, v2, v3, v4⟩ := tab_facts HG5.out
       rw [hk'] at z8
       obtain ⟨pc1, pc2⟩ := own_at HO4.out.1 (kb : Int) (by omega) (by omega)
       rw [Int.toNat_natCast] at pc1 pc2
       have hmx : Mods (fun k => k = x) w4 (w4.setCell ⟨x, kb, none⟩ (.int .i64 (po : Int))) := Mods.at_ (S := fun k => k = x) (Mods.refl _ w4) (.inl rfl) kb _
       have hv5 := hmx.blk HV4.out (fun e => HX.out.2.2.2.2.1 e.symm)
       have hg5 := hmx.blk HG5.out (fun e => HX.out.2.2.1 e.symm)
       obtain ⟨y6, y7, y8, y9, y10, yf⟩ := vol_facts' hv5
       obtain ⟨u0, u1, u2, u3, u4⟩ := tab_facts hg5
       rw [hk'] at y8
       have HMX := Lib.hid hmx
       have HV5 := Lib.hid hv5
       clear hmx hv5 hg5
       go_wp2_with fail
       clear z6 z7 z8 z9 z10 zf v0 v1 v2 v3 v4 y6 y7 y8 y9 y10 yf u0 u1 u2 u3 u4 pc1 pc2
       have hown5 := (own_store HO4.out.1 (kb : Int) (po : Int)).1
       rw [Int.toNat_natCast] at hown5
       have ht5 : TbR (w4.setCell ⟨x, kb, none⟩ (.int .i64 (po : Int))) N (tbC ⟨x, 0, none⟩ p3 S3 q3 (T'.back kb)) (T'.back kb) := by
        obtain ⟨PA2, pc2, SA2, sc2, he, a1, a2, a3, a4, a5, a6, a7⟩ := HO4.out.2.1
        simp only [tbC, Array.mk.injEq, List.cons.injEq, Value.slice.injEq, Option.some.injEq] at he
        obtain ⟨-, ⟨rfl, -, rfl⟩, ⟨rfl, -, rfl⟩, -⟩ := he
        rw [HTQ.out.2.2]
        exact ⟨⟨x, 0, none⟩, p3, S3, q3, rfl, a1, a2, a3, own_reads' hown5, HMX.out.reads a5 (fun z hz => HO4.out.2.2 z (T'.takeV kb).spare.length q3 (by rw [← hz]; rfl)), HE2.out.n_n x HX.out.1, fun z hz hp => HE2.out.n_n _ (a7 z hz (by first | exact hp | (rw [HTQ.out.2.2] at *; exact hp) | (have h_ := HTQ.out; simp_all)))⟩
       have hp_ := vol_put (N := N) ((HE.out.later HM4.out.size).later HMX.out.size) ((HA4.out.mods HMX.out (fun k hk => by subst hk; exact HOX.out)).okmono (fun k hk => hk.1)) HV5.out (HM4.out.at_ (.inr (Nat.le_trans HI.out.2.2.2.size HX.out.1)) kb _) ht5
       have hbe := HTQ.out.2.2
       have hg_ := HG.out
       rw [vprGo, HT2e.out, HR.out, if_neg (show ¬ ((sB, (70 : Int)).2 = 0) from show ¬ ((70 : Int) = 0) by decide), if_pos rfl] at hg_
       have HP := Lib.hid hp_
       clear hp_ ht5 hown5
       go_roundg g
       case measure => omega
       case rel =>
        have hop := HP.out
        rw [hbe] at hop
        have hrest := Tb.back_eq HI.out.2.2.1 HI.out.2.1.len hk
        refine ⟨sB, T'.back kb, ?_, Lib.hid ?_, ?_, ?_, Lib.hid hg_, Lib.hid ?_⟩
        ·rw [hbe]; exact HTQ.out.2.1
        ·rw [hbe]; exact HTQ.out.1.trans hsq'.out
        ·have h_ : s1.ops ≤ sB.ops := HSO.out.1; omega
        ·have h_ : sB.ops ≤ s1.ops + 2 * (p : Int) + 2 := HSO.out.2; omega
        ·refine ⟨?_, ?_, by rw [hrest]; exact HI.out.2.2.1.rest, ?_⟩
         ·exact hop.1
         ·rw [hbe]; exact hop.2.1
         ·exact hop.2.2
      ·have hf : vprS ar s T kb p (d, o) = (sB, T', e2) := by rw [HG.out, vprGo, HT2e.out, HR.out, if_neg hz2, if_neg hz7]
       go_wp2_with fail
       go_ret
       rw [hf]
       exact ⟨rfl, HA4.out.okmono (fun k hk => hk.1), ⟨PA', pc', SA', sc', HV4.out, HT4.out⟩, HM4.out⟩
  ·have hf : vprS ar s T kb p (d, o) = (sA, T, e1) := by rw [HVS.out, if_neg hz0]
   go_wp2_with fail
   go_ret
   rw [hf]
   exact ⟨rfl, HQ.out.1, HQ.out.2.1, HQ.out.2.2⟩
end Go.Proofs.Ytffalemndjampaa
end
section
set_option linter.unusedVariables false
set_option linter.unusedSimpArgs false
namespace Go.Proofs.Ytffalemndjampaa
open Go.RowKit Go.Proofs.YtffalemndjampaaW.PrintWords Go.Proofs.YtffalemndjampaaW.PrintLast
theorem aU8_yes (p : Nat) (A : Option Addr) (m c : Nat) (k : Nat) (xs : List Int) (w : World) (h : RdV w p A m c k) (hr : ReadsInt w .u8 A m xs) (hb : Byt xs) (hc : m ≤ c) (hkn : k + 1 ≤ m) (hne : ∀ a, A = some a → a.block ≠ p) :
  Calls Try.prog 49 #[.pointer (some ⟨p, 0, none⟩)] w fun e w' => e = .returned (.int .u8 (at_ xs k 1)) ∧ RdV w' p A m c ((k + 1 : Nat) : Int) ∧ Mods (fun i => i = p) w w' := mU8_yes p A m c k xs w h hr hb hc hkn hne
theorem aU16_yes (p : Nat) (A : Option Addr) (m c : Nat) (k : Nat) (xs : List Int) (w : World) (h : RdV w p A m c k) (hr : ReadsInt w .u8 A m xs) (hb : Byt xs) (hc : m ≤ c) (hkn : k + 2 ≤ m) (hne : ∀ a, A = some a → a.block ≠ p) :
  Calls Try.prog 48 #[.pointer (some ⟨p, 0, none⟩)] w fun e w' => e = .returned (.int .u16 (at_ xs k 2)) ∧ RdV w' p A m c ((k + 2 : Nat) : Int) ∧ Mods (fun i => i = p) w w' := mU16_yes p A m c k xs w h hr hb hc hkn hne
theorem aU32_yes (p : Nat) (A : Option Addr) (m c : Nat) (k : Nat) (xs : List Int) (w : World) (h : RdV w p A m c k) (hr : ReadsInt w .u8 A m xs) (hb : Byt xs) (hc : m ≤ c) (hkn : k + 4 ≤ m) (hne : ∀ a, A = some a → a.block ≠ p) :
  Calls Try.prog 13 #[.pointer (some ⟨p, 0, none⟩)] w fun e w' => e = .returned (.int .u32 (at_ xs k 4)) ∧ RdV w' p A m c ((k + 4 : Nat) : Int) ∧ Mods (fun i => i = p) w w' := mU32_yes p A m c k xs w h hr hb hc hkn hne
def OpG (w : World) (p qh qk : Nat) (A : Option Addr) (m c : Nat) (k : Nat) (h : Hd) (W : World) : Prop :=
 RdV W p A m c (k : Int) ∧ Mods (fun i => i = p ∨ i = qh ∨ i = qk) w W ∧ W.heap[qh]? = some (.cells (hdC h) 65 (0, 0)) ∧ W.heap[qk]? = some (.cells #[.bool false] 4 (0, 0))
theorem OpG.step {w : World} {p qh qk : Nat} {A : Option Addr} {m c k k' : Nat} {h : Hd} {W W' : World} (g : OpG w p qh qk A m c k h W) (dn : qh ≠ p) (dr : qk ≠ p) (h1 : RdV W' p A m c (k' : Int)) (h2 : Mods (fun i => i = p) W W') : OpG w p qh qk A m c k' h W' :=
 ⟨h1, g.2.1.trans (h2.mono (fun i e => .inl e)), h2.blk g.2.2.1 dn, h2.blk g.2.2.2 dr⟩
theorem OpG.put {w : World} {p qh qk : Nat} {A : Option Addr} {m c k : Nat} {h h' : Hd} {W : World} (g : OpG w p qh qk A m c k h W) (dn : qh ≠ p) (dq : qk ≠ qh) (o : Nat) (v : Value) (e : (hdC h).setIfInBounds o v = hdC h') : OpG w p qh qk A m c k h' (W.setCell ⟨qh, o, none⟩ v) :=
 ⟨blk_far g.1 (p := ⟨qh, o, none⟩) (Ne.symm dn) v, g.2.1.at_ (.inl (.inr (.inl rfl))) o v, blk_put g.2.2.1 o v e, blk_far g.2.2.2 (p := ⟨qh, o, none⟩) dq v⟩
theorem OpG.below {w : World} {p qh qk : Nat} {A : Option Addr} {m c k : Nat} {h : Hd} {W W' : World} (g : OpG w p qh qk A m c k h W) (hd : Below W.heap.size W W') : OpG w p qh qk A m c k h W' :=
 ⟨blk_below g.1 hd, g.2.1.trans (Mods.of_below hd), blk_below g.2.2.1 hd, blk_below g.2.2.2 hd⟩
theorem Mods.reads0 {S : Nat → Prop} {w w1 : World} (h : Mods S w w1) {k : IntKind} {A : Option Addr} {n : Nat} {xs : List Int} (hr : ReadsInt w k A n xs) (hs : ∀ a, 0 < n → A = some a → ¬ S a.block) : ReadsInt w1 k A n xs := by
 rcases Nat.eq_zero_or_pos n with h0 | h0
 ·exact ⟨hr.1, hr.2.1, fun h => by omega⟩
 ·exact h.reads hr (fun a ha => hs a h0 ha)
def OpS (w : World) (p qh qk : Nat) (h : Hd) (b : Bool) (e : Ending) (w' : World) : Prop :=
 Mods (fun i => i = p ∨ i = qh ∨ i = qk) w w' ∧ e = .returned (.tuple #[]) ∧ w'.heap[qh]? = some (.cells (hdC h) 65 (0, 0)) ∧ w'.heap[qk]? = some (.cells #[.bool b] 4 (0, 0))
theorem OpG.end_ {w : World} {p qh qk : Nat} {A : Option Addr} {m c k : Nat} {h : Hd} {W : World} (g : OpG w p qh qk A m c k h W) (dq : qk ≠ qh) (b : Bool) : OpS w p qh qk h b (.returned (.tuple #[])) (W.setCell ⟨qk, 0, none⟩ (.bool b)) :=
 ⟨g.2.1.at_ (.inl (.inr (.inr rfl))) 0 _, rfl, blk_far g.2.2.1 (p := ⟨qk, 0, none⟩) (Ne.symm dq) _, blk_put g.2.2.2 0 _ (by simp)⟩
theorem OpS.drew {w : World} {p qh qk : Nat} {h : Hd} {b : Bool} {e : Ending} {W : World} (g : OpS w p qh qk h b e W) : OpS w p qh qk h b e W.drew :=
 ⟨⟨g.1.os, g.1.tape, g.1.output, g.1.size, g.1.block⟩, g.2.1, g.2.2.1, g.2.2.2⟩
def RopR.T8 : Bool × List (List Nat × List Nat) := (true, [([], []), ([0], [0]), ([1], [1]), ([2], [2]), ([3, 2], [2, 3]), ([2, 4], [2, 4]), ([5, 2], [5]), ([6], [6]), ([7, 6], [6, 7]), ([6, 8], [6, 8]), ([9, 6], [9]), ([10], [10]), ([10], [10]), ([12, 10], [10, 12]), ([10], [10]), ([10], [10]), ([15, 10], [10, 15]), ([13, 14, 16, 10], [10, 13, 14, 16]), ([17, 10, 10], [10, 17]), ([11, 18, 10], [10, 11, 18]), ([10, 19], [10, 19]), ([20, 18, 0, 1, 2, 3, 4, 5, 6, 7, 8, 9, 10, 11, 12, 13, 14, 15, 16, 17, 18, 19, 20], [20])])
def RopR.B8 : List Nat := [0, 1, 3, 7, 15, 31, 63, 127, 255, 511, 1023, 2047, 2047, 6143, 2047, 2047, 34815, 129023, 260095, 524287, 1048575, 2097151]
theorem RopR.tab8 : rtab .any (opsOf Try.f47 8) = RopR.T8 := by kernel_rfl
theorem RopR.bits8 : waitsOk RopR.T8.2 RopR.B8 = true := by kernel_rfl
set_option maxHeartbeats 8000000 in
set_option maxRecDepth 100000 in
theorem op1_any (p qh qo qd qk : Nat) (A B : Option Addr) (c n d : Nat) (xs ys : List Int) (w : World) (h : RdV w p A 64 c ((0 : Nat) : Int)) (hr : ReadsInt w .u8 A 64 xs) (hb : Byt xs) (hc : 64 ≤ c) (hs : ReadsInt w .u8 B n ys) (by_ : Byt ys) (hd : n ≤ d)
  (hne : ∀ a, A = some a → a.block ≠ p ∧ a.block ≠ qh ∧ a.block ≠ qk) (hne2 : 0 < n → ∀ a, B = some a → a.block ≠ p ∧ a.block ≠ qh ∧ a.block ≠ qk)
  (ho : w.heap[qo]? = some (.cells #[.slice A 64 c] 27 (0, 0))) (hdd : w.heap[qd]? = some (.cells #[.slice B n d] 27 (0, 0)))
  (hn : w.heap[qh]? = some (.cells (hdC hd0) 65 (0, 0))) (hq : w.heap[qk]? = some (.cells #[.bool false] 4 (0, 0))) (dn : qh ≠ p) (dr : qk ≠ p) (dq : qk ≠ qh) (do_ : qo ≠ p ∧ qo ≠ qh ∧ qo ≠ qk) (dd : qd ≠ p ∧ qd ≠ qh ∧ qd ≠ qk) :
  Calls Try.prog 47 #[.pointer (some ⟨p, 0, none⟩), .pointer (some ⟨qh, 0, none⟩), .pointer (some ⟨qo, 0, none⟩), .pointer (some ⟨qd, 0, none⟩), .pointer (some ⟨qk, 0, none⟩)] w (OpS w p qh qk (openH xs) (rightO ys xs)) := by
 have HL := Lib.hid hr.1
 have HX := Lib.hid (And.intro hr (And.intro hb (And.intro (show ∀ a, A = some a → ¬ (a.block = p ∨ a.block = qh ∨ a.block = qk) from fun a ha e => by have h_ := hne a ha; omega) (show ∀ a, A = some a → a.block ≠ p from fun a ha => (hne a ha).1))))
 have HY := Lib.hid (And.intro hs (And.intro by_ (show ∀ a, 0 < n → B = some a → ¬ (a.block = p ∨ a.block = qh ∨ a.block = qk) from fun a h0 ha e => by have h_ := hne2 h0 a ha; omega)))
 have HB := Lib.hid (And.intro ho (And.intro hdd (And.intro (show ¬ (qo = p ∨ qo = qh ∨ qo = qk) by omega) (show ¬ (qd = p ∨ qd = qh ∨ qd = qk) by omega))))
 have G := Lib.hid (show OpG w p qh qk A 64 c 0 hd0 w from ⟨h, Mods.refl _ w, hn, hq⟩)
 clear h hr hb hne hne2 hn hq hs by_ ho hdd do_ dd
 go_enter Try.func47, Try.ntmps47
 go_wp2_with fail
 refine (aU16_yes p A 64 c 0 xs _ G.out.1 (G.out.2.1.reads HX.out.1 HX.out.2.2.1) HX.out.2.1 hc (by omega) HX.out.2.2.2).mono ?_
 rintro e w1 ⟨rfl, h1, h2⟩
 have G_ := G.out.step dn dr h1 h2
 clear G h1 h2
 have G := Lib.hid G_
 clear G_
 go_wp2_with fail
 refine (aU8_yes p A 64 c 2 xs _ G.out.1 (G.out.2.1.reads HX.out.1 HX.out.2.2.1) HX.out.2.1 hc (by omega) HX.out.2.2.2).mono ?_
 rintro e w2 ⟨rfl, h1, h2⟩
 have G_ := G.out.step dn dr h1 h2
 clear G h1 h2
 have G := Lib.hid G_
 clear G_
 have z0 := (blk_cell G.out.2.2.1 0).trans rfl
 have f0 := blk_frozen G.out.2.2.1 0
 go_wp2_with fail
 have G_ := G.out.put dn dq 0 (.int .u8 (at_ xs 2 1)) (h' := ⟨at_ xs 2 1, 0, 0, 0, 0, 0, 0⟩) (by simp [hdC, hd0])
 clear G
 have G := Lib.hid G_
 clear G_
 clear z0 f0
 refine (aU8_yes p A 64 c 3 xs _ G.out.1 (G.out.2.1.reads HX.out.1 HX.out.2.2.1) HX.out.2.1 hc (by omega) HX.out.2.2.2).mono ?_
 rintro e w3 ⟨rfl, h1, h2⟩
 have G_ := G.out.step dn dr h1 h2
 clear G h1 h2
 have G := Lib.hid G_
 clear G_
 go_wp2_with fail
 refine (aU32_yes p A 64 c 4 xs _ G.out.1 (G.out.2.1.reads HX.out.1 HX.out.2.2.1) HX.out.2.1 hc (by omega) HX.out.2.2.2).mono ?_
 rintro e w4 ⟨rfl, h1, h2⟩
 have G_ := G.out.step dn dr h1 h2
 clear G h1 h2
 have G := Lib.hid G_
 clear G_
 go_wp2_with fail
 refine (aU32_yes p A 64 c 8 xs _ G.out.1 (G.out.2.1.reads HX.out.1 HX.out.2.2.1) HX.out.2.1 hc (by omega) HX.out.2.2.2).mono ?_
 rintro e w5 ⟨rfl, h1, h2⟩
 have G_ := G.out.step dn dr h1 h2
 clear G h1 h2
 have G := Lib.hid G_
 clear G_
 have z1 := (blk_cell G.out.2.2.1 1).trans rfl
 have f1 := blk_frozen G.out.2.2.1 1
 have z2 := (blk_cell G.out.2.2.1 2).trans rfl
 have f2 := blk_frozen G.out.2.2.1 2
 go_wp2_with fail
 have G_ := G.out.put dn dq 1 (.int .u32 (at_ xs 4 4)) (h' := ⟨at_ xs 2 1, at_ xs 4 4, 0, 0, 0, 0, 0⟩) (by simp [hdC, hd0])
 clear G
 have G := Lib.hid G_
 clear G_
 clear z1 f1
 have G_ := G.out.put dn dq 2 (.int .u32 (at_ xs 8 4)) (h' := ⟨at_ xs 2 1, at_ xs 4 4, at_ xs 8 4, 0, 0, 0, 0⟩) (by simp [hdC, hd0])
 clear G
 have G := Lib.hid G_
 clear G_
 clear z2 f2
 refine (aU16_yes p A 64 c 12 xs _ G.out.1 (G.out.2.1.reads HX.out.1 HX.out.2.2.1) HX.out.2.1 hc (by omega) HX.out.2.2.2).mono ?_
 rintro e w6 ⟨rfl, h1, h2⟩
 have G_ := G.out.step dn dr h1 h2
 clear G h1 h2
 have G := Lib.hid G_
 clear G_
 go_wp2_with fail
 refine (aU16_yes p A 64 c 14 xs _ G.out.1 (G.out.2.1.reads HX.out.1 HX.out.2.2.1) HX.out.2.1 hc (by omega) HX.out.2.2.2).mono ?_
 rintro e w7 ⟨rfl, h1, h2⟩
 have G_ := G.out.step dn dr h1 h2
 clear G h1 h2
 have G := Lib.hid G_
 clear G_
 have z3 := (blk_cell G.out.2.2.1 3).trans rfl
 have f3 := blk_frozen G.out.2.2.1 3
 have z4 := (blk_cell G.out.2.2.1 4).trans rfl
 have f4 := blk_frozen G.out.2.2.1 4
 go_wp2_with fail
 have G_ := G.out.put dn dq 3 (.int .u16 (at_ xs 12 2)) (h' := ⟨at_ xs 2 1, at_ xs 4 4, at_ xs 8 4, at_ xs 12 2, 0, 0, 0⟩) (by simp [hdC, hd0])
 clear G
 have G := Lib.hid G_
 clear G_
 clear z3 f3
 have G_ := G.out.put dn dq 4 (.int .u16 (at_ xs 14 2)) (h' := ⟨at_ xs 2 1, at_ xs 4 4, at_ xs 8 4, at_ xs 12 2, at_ xs 14 2, 0, 0⟩) (by simp [hdC, hd0])
 clear G
 have G := Lib.hid G_
 clear G_
 clear z4 f4
 refine (aU32_yes p A 64 c 16 xs _ G.out.1 (G.out.2.1.reads HX.out.1 HX.out.2.2.1) HX.out.2.1 hc (by omega) HX.out.2.2.2).mono ?_
 rintro e w8 ⟨rfl, h1, h2⟩
 have G_ := G.out.step dn dr h1 h2
 clear G h1 h2
 have G := Lib.hid G_
 clear G_
 go_wp2_with fail
 refine (aU32_yes p A 64 c 20 xs _ G.out.1 (G.out.2.1.reads HX.out.1 HX.out.2.2.1) HX.out.2.1 hc (by omega) HX.out.2.2.2).mono ?_
 rintro e w9 ⟨rfl, h1, h2⟩
 have G_ := G.out.step dn dr h1 h2
 clear G h1 h2
 have G := Lib.hid G_
 clear G_
 have z5 := (blk_cell G.out.2.2.1 5).trans rfl
 have f5 := blk_frozen G.out.2.2.1 5
 have z6 := (blk_cell G.out.2.2.1 6).trans rfl
 have f6 := blk_frozen G.out.2.2.1 6
 go_wp2_with fail
 have G_ := G.out.put dn dq 5 (.int .u32 (at_ xs 16 4)) (h' := ⟨at_ xs 2 1, at_ xs 4 4, at_ xs 8 4, at_ xs 12 2, at_ xs 14 2, at_ xs 16 4, 0⟩) (by simp [hdC, hd0])
 clear G
 have G := Lib.hid G_
 clear G_
 clear z5 f5
 have G_ := G.out.put dn dq 6 (.int .u32 (at_ xs 20 4)) (h' := ⟨at_ xs 2 1, at_ xs 4 4, at_ xs 8 4, at_ xs 12 2, at_ xs 14 2, at_ xs 16 4, at_ xs 20 4⟩) (by simp [hdC, hd0])
 clear G
 have G := Lib.hid G_
 clear G_
 clear z6 f6
 refine (aU32_yes p A 64 c 24 xs _ G.out.1 (G.out.2.1.reads HX.out.1 HX.out.2.2.1) HX.out.2.1 hc (by omega) HX.out.2.2.2).mono ?_
 rintro e w10 ⟨rfl, h1, h2⟩
 have G_ := G.out.step dn dr h1 h2
 clear G h1 h2
 have G := Lib.hid G_
 clear G_
 go_wp2_with fail
 refine (aU32_yes p A 64 c 28 xs _ G.out.1 (G.out.2.1.reads HX.out.1 HX.out.2.2.1) HX.out.2.1 hc (by omega) HX.out.2.2.2).mono ?_
 rintro e w11 ⟨rfl, h1, h2⟩
 have G_ := G.out.step dn dr h1 h2
 clear G h1 h2
 have G := Lib.hid G_
 clear G_
 have fr := blk_frozen G.out.2.2.2 0
 have zr := (blk_cell G.out.2.2.2 0).trans rfl
 go_wp2_with fail
 have HRT_ : rightO ys xs = (at_ xs 0 2 == 22356 && (at_ xs 3 1 == 0 && (at_ xs 28 4 == 0 && at_ xs 24 4 == crcOf (xs.take 24 ++ ys ++ xs.drop 32)))) := rfl
 generalize at_ xs 0 2 = mg at HRT_ ⊢
 generalize at_ xs 3 1 = zz at HRT_ ⊢
 generalize at_ xs 28 4 = rr at HRT_ ⊢
 generalize at_ xs 24 4 = oo at HRT_ ⊢
 by_cases hmg : mg = 22356
 ·subst hmg
  by_cases hzz : zz = 0
  ·subst hzz
   by_cases hrr : rr = 0
   ·subst hrr
    obtain ⟨a0, rfl, -⟩ := HX.out.1.2.2 (by omega)
    have hss : crcOf (ll [⟨(some a0), c, xs.take 24⟩, ⟨B, d, ys⟩, ⟨(some (a0.add 32)), c - 32, xs.drop 32⟩]).flatten = crcOf (xs.take 24 ++ ys ++ xs.drop 32) := by simp [ll]
    generalize crcOf (xs.take 24 ++ ys ++ xs.drop 32) = ss at HRT_ hss
    have HSS := Lib.hid hss
    have HE : Hid (rightO ys xs = (oo == ss)) := Lib.hid (by rw [HRT_]; simp)
    have RR := Lib.hid (show (∀ W, OpG w p qh qk (some a0) 64 c 32 (openH xs) W → ReadsInt W .u8 (some a0) 24 (xs.take 24)) ∧ (∀ W, OpG w p qh qk (some a0) 64 c 32 (openH xs) W → ReadsInt W .u8 B n ys) ∧ (∀ W, OpG w p qh qk (some a0) 64 c 32 (openH xs) W → ReadsInt W .u8 (some (a0.add 32)) 32 (xs.drop 32)) ∧ Byt (xs.take 24) ∧ Byt (xs.drop 32) from
     ⟨fun W g => (g.2.1.reads HX.out.1 HX.out.2.2.1).take_ 24 (by omega), fun W g => g.2.1.reads0 HY.out.1 HY.out.2.2, fun W g => by
      have h_ := (g.2.1.reads HX.out.1 HX.out.2.2.1).drop_ 32 (by omega) hc
      rw [if_neg (by omega)] at h_
      exact h_, fun x hx => HX.out.2.1 x (List.take_subset _ _ hx), fun x hx => HX.out.2.1 x (List.drop_subset _ _ hx)⟩)
    have GG := Lib.hid (show OpG w p qh qk (some a0) 64 c 32 (openH xs) w11 from G.out)
    clear HRT_ hss G fr zr HX HL
    refine start_ (n := 22) (S := fun w' => True) (ds := []) _ (by kernel_rfl) rfl rfl trivial (fun hHeld => ?_)
    refine with_tabW RopR.tab8 RopR.bits8 (fun HT_ HW_ => ?_)
    have GG := Lib.hid (GG.out.below (bl_drew (Below.refl _ _)))
    generalize w11.drew = w12 at GG hHeld ⊢
    refine pur_ 0 (some 39) HT_.out rfl rfl (by kernel_rfl) (fun _ _ _ h => h) (by rfl) (fun w' => by go_simp; with_reducible rfl) (by simp only [Act.put, List.setIfInBounds_toArray, List.set_cons_zero, List.set_cons_succ, i64_w, i32_w]; rfl) ?_
    refine pur_ 1 (some 40) HT_.out rfl rfl (by kernel_rfl) (fun _ _ _ h => h) (by rfl) (fun w' => by go_simp; with_reducible rfl) (by simp only [Act.put, List.setIfInBounds_toArray, List.set_cons_zero, List.set_cons_succ, i64_w, i32_w]; rfl) ?_
    refine pur_ 2 (some 41) HT_.out rfl rfl (by kernel_rfl) (fun _ _ _ h => h) (by rfl) (fun w' => by go_simp; with_reducible rfl) (by simp only [Act.put, List.setIfInBounds_toArray, List.set_cons_zero, List.set_cons_succ, i64_w, i32_w]; rfl) ?_
    refine pur_ 3 (some 42) HT_.out rfl rfl (by kernel_rfl) (fun _ _ _ h => h) (by rfl) (fun w' => by go_simp; with_reducible rfl) (by simp only [Act.put, List.setIfInBounds_toArray, List.set_cons_zero, List.set_cons_succ, i64_w, i32_w]; rfl) ?_
    refine pur_ 4 (some 43) HT_.out rfl rfl (by kernel_rfl) (fun _ _ _ h => h) (by rfl) (fun w' => by go_simp; with_reducible rfl) (by simp only [Act.put, List.setIfInBounds_toArray, List.set_cons_zero, List.set_cons_succ, i64_w, i32_w]; rfl) ?_
    refine pur_ 5 (some 44) HT_.out rfl rfl (by kernel_rfl) (fun _ _ _ h => h) (by rfl) (fun w' => by go_simp; with_reducible rfl) (by simp only [Act.put, List.setIfInBounds_toArray, List.set_cons_zero, List.set_cons_succ, i64_w, i32_w]; rfl) ?_
    refine pur_ 6 (some 45) HT_.out rfl rfl (by kernel_rfl) (fun _ _ _ h => h) (by rfl) (fun w' => by go_simp; with_reducible rfl) (by simp only [Act.put, List.setIfInBounds_toArray, List.set_cons_zero, List.set_cons_succ, i64_w, i32_w]; rfl) ?_
    refine pur_ 7 (some 46) HT_.out rfl rfl (by kernel_rfl) (fun _ _ _ h => h) (by rfl) (fun w' => by go_simp; with_reducible rfl) (by simp only [Act.put, List.setIfInBounds_toArray, List.set_cons_zero, List.set_cons_succ, i64_w, i32_w]; rfl) ?_
    refine pur_ 8 (some 47) HT_.out rfl rfl (by kernel_rfl) (fun _ _ _ h => h) (by rfl) (fun w' => by go_simp; with_reducible rfl) (by simp only [Act.put, List.setIfInBounds_toArray, List.set_cons_zero, List.set_cons_succ, i64_w, i32_w]; rfl) ?_
    refine pur_ 9 (some 48) HT_.out rfl rfl (by kernel_rfl) (fun _ _ _ h => h) (by rfl) (fun w' => by go_simp; with_reducible rfl) (by simp only [Act.put, List.setIfInBounds_toArray, List.set_cons_zero, List.set_cons_succ, i64_w, i32_w]; rfl) ?_
    refine pur_ 10 (some 49) HT_.out rfl rfl (by kernel_rfl) (fun _ _ _ h => h) (by rfl) (fun w' => by go_simp; with_reducible rfl) (by simp only [Act.put, List.setIfInBounds_toArray, List.set_cons_zero, List.set_cons_succ, i64_w, i32_w]; rfl) ?_
    refine pur_ 11 (some 50) HT_.out rfl rfl (by kernel_rfl) (fun _ _ _ h => h) (by rfl) (fun w' => by go_simp; with_reducible rfl) (by simp only [Act.put, List.setIfInBounds_toArray, List.set_cons_zero, List.set_cons_succ, i64_w, i32_w]; rfl) ?_
    refine inv_at [12, 13, 14, 15, 16, 17, 18, 19, 20, 21] (fun a0_ b a w' => ∃ (b17 : Nat) (m17_ : Value), a = putSel a0_ b [(12, 51, .slice (some a0) 64 c), (13, 52, .slice (some a0) 24 c), (14, 53, .slice B n d), (15, 54, .slice (some a0) 64 c), (16, 55, .slice (some (a0.add 32)) 32 (c - 32)), (17, 56, m17_), (18, 57, .int .u32 ss), (19, 58, .bool (oo == ss)), (20, 59, .bool (oo == ss))] ∧ (b 21 = false → OpG w p qh qk (some a0) 64 c 32 (openH xs) w') ∧ (b 17 = true → b 18 = false → w'.heap[b17]? = some (.cells #[.slice (some a0) 24 c, .slice B n d, .slice (some (a0.add 32)) 32 (c - 32)] 27 (0, 0))) ∧ (b 21 = true → OpS w p qh qk (openH xs) (oo == ss) (.returned (.tuple #[])) w') ∧ (b 17 = true → (m17_ : Value) = .slice (some ⟨b17, 0, none⟩) 3 3)) HT_.out HW_.out (by kernel_rfl) (by kernel_rfl) ?_ ?_ ?_
    ·exact ⟨0, .bool false, by simp only [putSel, Bool.false_eq_true, if_false], fun _ => GG.out, fun h_ => absurd h_ (by decide), fun h_ => absurd h_ (by decide), fun h_ => absurd h_ (by decide)⟩
    ·skip
     clear GG
     refine steps_cons ?_ ?_
     ·rintro b a w' ⟨b17, m17_, ha, Q_GG, Q_H17, Q_FS, Q_X17_⟩ hb_ hon hoff
      refine ⟨_, rfl, fun K hK => ?_⟩
      have e2 : a.tmps[2]? = some (.pointer (some ⟨qo, 0, none⟩)) := by rw [ha]; exact (putSel_off rfl).trans rfl
      have e49 : a.tmps[49]? = some (.bool true) := by rw [ha]; exact (putSel_off rfl).trans rfl
      replace ha := Aside0.mk ha
      have GG := Aside0.mk (Q_GG (hoff 21 (by kernel_rfl)))
      have hc_ : w'.cell? ⟨qo, 0, none⟩ = some (.slice (some a0) 64 c) := (blk_cell (GG.out.2.1.blk HB.out.1 HB.out.2.2.1) 0).trans rfl
      refine value_ (w1 := w') (v := .slice (some a0) 64 c) (wanted_on rfl rfl rfl (e49.trans (by first | rfl | (simp [*]; done)))) rfl ?_ ?_
      ·go_simp
       (try simp only [i64_w])
       try rfl
      refine hK.out _ _ ⟨b17, m17_, (ptup_ ha.out 0 hb_ rfl rfl rfl), Q_GG, fun h0_ _ => off_ (hoff 17 (by kernel_rfl)) h0_, off_ (hoff 21 (by kernel_rfl)), off_ (hoff 17 (by kernel_rfl))⟩
     refine steps_cons ?_ ?_
     ·rintro b a w' ⟨b17, m17_, ha, Q_GG, Q_H17, Q_FS, Q_X17_⟩ hb_ hon hoff
      refine ⟨_, rfl, fun K hK => ?_⟩
      have e51 : a.tmps[51]? = some (.slice (some a0) 64 c) := pton_ ha 0 rfl rfl (hon 12 (by kernel_rfl)) rfl
      have e49 : a.tmps[49]? = some (.bool true) := by rw [ha]; exact (putSel_off rfl).trans rfl
      replace ha := Aside0.mk ha
      have GG := Aside0.mk (Q_GG (hoff 21 (by kernel_rfl)))
      refine value_ (w1 := w') (v := .slice (some a0) 24 c) (wanted_on rfl rfl rfl (e49.trans (by first | rfl | (simp [*]; done)))) rfl ?_ ?_
      ·go_simp
       intro h_
       exact absurd h_ (by omega)
      refine hK.out _ _ ⟨b17, m17_, (ptup_ ha.out 1 hb_ rfl rfl rfl), fun _ => GG.out, fun h0_ _ => off_ (hoff 17 (by kernel_rfl)) h0_, off_ (hoff 21 (by kernel_rfl)), off_ (hoff 17 (by kernel_rfl))⟩
     refine steps_cons ?_ ?_
     ·rintro b a w' ⟨b17, m17_, ha, Q_GG, Q_H17, Q_FS, Q_X17_⟩ hb_ hon hoff
      refine ⟨_, rfl, fun K hK => ?_⟩
      have e3 : a.tmps[3]? = some (.pointer (some ⟨qd, 0, none⟩)) := by rw [ha]; exact (putSel_off rfl).trans rfl
      have e49 : a.tmps[49]? = some (.bool true) := by rw [ha]; exact (putSel_off rfl).trans rfl
      replace ha := Aside0.mk ha
      have GG := Aside0.mk (Q_GG (hoff 21 (by kernel_rfl)))
      have hc_ : w'.cell? ⟨qd, 0, none⟩ = some (.slice B n d) := (blk_cell (GG.out.2.1.blk HB.out.2.1 HB.out.2.2.2) 0).trans rfl
      refine value_ (w1 := w') (v := .slice B n d) (wanted_on rfl rfl rfl (e49.trans (by first | rfl | (simp [*]; done)))) rfl ?_ ?_
      ·go_simp
       (try simp only [i64_w])
       try rfl
      refine hK.out _ _ ⟨b17, m17_, (ptup_ ha.out 2 hb_ rfl rfl rfl), Q_GG, fun h0_ _ => off_ (hoff 17 (by kernel_rfl)) h0_, off_ (hoff 21 (by kernel_rfl)), off_ (hoff 17 (by kernel_rfl))⟩
     refine steps_cons ?_ ?_
     ·rintro b a w' ⟨b17, m17_, ha, Q_GG, Q_H17, Q_FS, Q_X17_⟩ hb_ hon hoff
      refine ⟨_, rfl, fun K hK => ?_⟩
      have e2 : a.tmps[2]? = some (.pointer (some ⟨qo, 0, none⟩)) := by rw [ha]; exact (putSel_off rfl).trans rfl
      have e49 : a.tmps[49]? = some (.bool true) := by rw [ha]; exact (putSel_off rfl).trans rfl
      replace ha := Aside0.mk ha
      have GG := Aside0.mk (Q_GG (hoff 21 (by kernel_rfl)))
      have hc_ : w'.cell? ⟨qo, 0, none⟩ = some (.slice (some a0) 64 c) := (blk_cell (GG.out.2.1.blk HB.out.1 HB.out.2.2.1) 0).trans rfl
      refine value_ (w1 := w') (v := .slice (some a0) 64 c) (wanted_on rfl rfl rfl (e49.trans (by first | rfl | (simp [*]; done)))) rfl ?_ ?_
      ·go_simp
       (try simp only [i64_w])
       try rfl
      refine hK.out _ _ ⟨b17, m17_, (ptup_ ha.out 3 hb_ rfl rfl rfl), Q_GG, fun h0_ _ => off_ (hoff 17 (by kernel_rfl)) h0_, off_ (hoff 21 (by kernel_rfl)), off_ (hoff 17 (by kernel_rfl))⟩
     refine steps_cons ?_ ?_
     ·rintro b a w' ⟨b17, m17_, ha, Q_GG, Q_H17, Q_FS, Q_X17_⟩ hb_ hon hoff
      refine ⟨_, rfl, fun K hK => ?_⟩
      have e54 : a.tmps[54]? = some (.slice (some a0) 64 c) := pton_ ha 3 rfl rfl (hon 15 (by kernel_rfl)) rfl
      have e49 : a.tmps[49]? = some (.bool true) := by rw [ha]; exact (putSel_off rfl).trans rfl
      replace ha := Aside0.mk ha
      have GG := Aside0.mk (Q_GG (hoff 21 (by kernel_rfl)))
      refine value_ (w1 := w') (v := .slice (some (a0.add 32)) 32 (c - 32)) (wanted_on rfl rfl rfl (e49.trans (by first | rfl | (simp [*]; done)))) rfl ?_ ?_
      ·go_simp
       intro h_
       exact absurd h_ (by omega)
      refine hK.out _ _ ⟨b17, m17_, (ptup_ ha.out 4 hb_ rfl rfl rfl), fun _ => GG.out, fun h0_ _ => off_ (hoff 17 (by kernel_rfl)) h0_, off_ (hoff 21 (by kernel_rfl)), off_ (hoff 17 (by kernel_rfl))⟩
     refine steps_cons ?_ ?_
     ·rintro b a w' ⟨b17, m17_, ha, Q_GG, Q_H17, Q_FS, Q_X17_⟩ hb_ hon hoff
      refine ⟨_, rfl, fun K hK => ?_⟩
      have e52 : a.tmps[52]? = some (.slice (some a0) 24 c) := pton_ ha 1 rfl rfl (hon 13 (by kernel_rfl)) rfl
      have e53 : a.tmps[53]? = some (.slice B n d) := pton_ ha 2 rfl rfl (hon 14 (by kernel_rfl)) rfl
      have e55 : a.tmps[55]? = some (.slice (some (a0.add 32)) 32 (c - 32)) := pton_ ha 4 rfl rfl (hon 16 (by kernel_rfl)) rfl
      have e49 : a.tmps[49]? = some (.bool true) := by rw [ha]; exact (putSel_off rfl).trans rfl
      replace ha := Aside0.mk ha
      have GG := Aside0.mk (Q_GG (hoff 21 (by kernel_rfl)))
      refine value_ (w1 := w'.alloc (.cells #[.slice (some a0) 24 c, .slice B n d, .slice (some (a0.add 32)) 32 (c - 32)] 27)) (v := .slice (some ⟨w'.heap.size, 0, none⟩) 3 3) (wanted_on rfl rfl rfl (e49.trans (by first | rfl | (simp [*]; done)))) rfl ?_ ?_
      ·go_simp
       try rfl
      refine hK.out _ _ ⟨w'.heap.size, (.slice (some ⟨w'.heap.size, 0, none⟩) 3 3), (ptup_ ha.out 5 hb_ rfl rfl rfl), fun _ => GG.out.below (bl_alloc (Below.refl _ _) _), fun _ _ => heap_alloc_new _ _, off_ (hoff 21 (by kernel_rfl)), fun _ => rfl⟩
     refine steps_cons ?_ ?_
     ·rintro b a w' ⟨b17, m17_, ha, Q_GG, Q_H17, Q_FS, Q_X17_⟩ hb_ hon hoff
      refine ⟨_, rfl, fun K hK => ?_⟩
      have e56 : a.tmps[56]? = some (m17_) := pton_ ha 5 rfl rfl (hon 17 (by kernel_rfl)) rfl
      rw [Q_X17_ (hon 17 (by kernel_rfl))] at e56
      have e49 : a.tmps[49]? = some (.bool true) := by rw [ha]; exact (putSel_off rfl).trans rfl
      replace ha := Aside0.mk ha
      have GG := Aside0.mk (Q_GG (hoff 21 (by kernel_rfl)))
      have H17 := Aside0.mk (Q_H17 (hon 17 (by kernel_rfl)) hb_)
      refine goes_ Try.func8 (by kernel_rfl) rfl #[.slice (some ⟨b17, 0, none⟩) 3 3] (wanted_on rfl rfl rfl (e49.trans (by first | rfl | (simp [*]; done)))) rfl rfl (by first | (simp only [List.map_toArray, List.map_cons, List.map_nil, Act.eval, Array.getD_eq_getD_getElem?, Option.getD_some, e56, e49]; done) | (simp only [List.map_toArray, List.map_cons, List.map_nil, Act.eval, Array.getD_eq_getD_getElem?, Option.getD_some, e56, e49]; rfl)) ?_
      have hs_ := Sum_any [⟨(some a0), c, xs.take 24⟩, ⟨B, d, ys⟩, ⟨(some (a0.add 32)), c - 32, xs.drop 32⟩] (some ⟨b17, 0, none⟩) 3 3 w' rfl (rows3 H17.out (RR.out.1 w' GG.out) (RR.out.2.1 w' GG.out) (RR.out.2.2.1 w' GG.out) (by omega) hd (by omega) RR.out.2.2.2.1 HY.out.2.1 RR.out.2.2.2.2)
      rw [HSS.out] at hs_
      refine hs_.mono ?_
      rintro e w1 ⟨rfl, g1⟩
      refine ⟨_, rfl, ?_⟩
      refine hK.out _ _ ⟨b17, m17_, (ptup_ ha.out 6 hb_ rfl rfl rfl), fun _ => GG.out.below g1.below, fun _ h1_ => absurd ((up_self b 18).symm.trans h1_) (by decide), off_ (hoff 21 (by kernel_rfl)), Q_X17_⟩
     refine steps_cons ?_ ?_
     ·rintro b a w' ⟨b17, m17_, ha, Q_GG, Q_H17, Q_FS, Q_X17_⟩ hb_ hon hoff
      refine ⟨_, rfl, fun K hK => ?_⟩
      have e50 : a.tmps[50]? = some (.int .u32 oo) := by rw [ha]; exact (putSel_off rfl).trans rfl
      have e57 : a.tmps[57]? = some (.int .u32 ss) := pton_ ha 6 rfl rfl (hon 18 (by kernel_rfl)) rfl
      have e49 : a.tmps[49]? = some (.bool true) := by rw [ha]; exact (putSel_off rfl).trans rfl
      replace ha := Aside0.mk ha
      have GG := Aside0.mk (Q_GG (hoff 21 (by kernel_rfl)))
      refine value_ (w1 := w') (v := .bool (oo == ss)) (wanted_on rfl rfl rfl (e49.trans (by first | rfl | (simp [*]; done)))) rfl ?_ ?_
      ·go_simp
       (try simp only [i64_w])
       try rfl
      refine hK.out _ _ ⟨b17, m17_, (ptup_ ha.out 7 hb_ rfl rfl rfl), Q_GG, fun _ h1_ => absurd ((hon 18 (by kernel_rfl)).symm.trans h1_) (by decide), off_ (hoff 21 (by kernel_rfl)), Q_X17_⟩
     refine steps_cons ?_ ?_
     ·rintro b a w' ⟨b17, m17_, ha, Q_GG, Q_H17, Q_FS, Q_X17_⟩ hb_ hon hoff
      refine ⟨_, rfl, fun K hK => ?_⟩
      have e49 : a.tmps[49]? = some (.bool true) := by rw [ha]; exact (putSel_off rfl).trans rfl
      have e58 : a.tmps[58]? = some (.bool (oo == ss)) := pton_ ha 7 rfl rfl (hon 19 (by kernel_rfl)) rfl
      replace ha := Aside0.mk ha
      have GG := Aside0.mk (Q_GG (hoff 21 (by kernel_rfl)))
      refine value_ (w1 := w') (v := .bool (oo == ss)) (by rfl) rfl ?_ ?_
      ·go_simp
       (try simp only [i64_w])
       try rfl
      refine hK.out _ _ ⟨b17, m17_, (ptup_ ha.out 8 hb_ rfl rfl rfl), Q_GG, fun _ h1_ => absurd ((hon 18 (by kernel_rfl)).symm.trans h1_) (by decide), off_ (hoff 21 (by kernel_rfl)), Q_X17_⟩
     refine steps_cons ?_ ?_
     ·rintro b a w' ⟨b17, m17_, ha, Q_GG, Q_H17, Q_FS, Q_X17_⟩ hb_ hon hoff
      refine ⟨_, rfl, fun K hK => ?_⟩
      have e4 : a.tmps[4]? = some (.pointer (some ⟨qk, 0, none⟩)) := by rw [ha]; exact (putSel_off rfl).trans rfl
      have e59 : a.tmps[59]? = some (.bool (oo == ss)) := pton_ ha 8 rfl rfl (hon 20 (by kernel_rfl)) rfl
      replace ha := Aside0.mk ha
      have GG := Aside0.mk (Q_GG hb_)
      have fr := blk_frozen GG.out.2.2.2 0
      have zr : w'.cell? ⟨qk, 0, none⟩ = some (.bool false) := (blk_cell GG.out.2.2.2 0).trans rfl
      refine skip_ (w1 := w'.setCell ⟨qk, 0, none⟩ (.bool (oo == ss))) (by rfl) rfl ?_ ?_
      ·go_simp
       try rfl
      refine hK.out _ _ ⟨b17, m17_, (by rw [ha.out]; exact putSel_none (v := undef) rfl), fun h0_ => absurd ((up_self b 21).symm.trans h0_) (by decide), fun _ h1_ => absurd ((hon 18 (by kernel_rfl)).symm.trans h1_) (by decide), fun _ => GG.out.end_ dq (oo == ss), Q_X17_⟩
     exact steps_nil
    ·rintro b a w' hall ⟨b17, m17_, ha, Q_GG, Q_H17, Q_FS, Q_X17_⟩
     clear GG
     have hb12_ := hall 12 (by kernel_rfl)
     have hb13_ := hall 13 (by kernel_rfl)
     have hb14_ := hall 14 (by kernel_rfl)
     have hb15_ := hall 15 (by kernel_rfl)
     have hb16_ := hall 16 (by kernel_rfl)
     have hb17_ := hall 17 (by kernel_rfl)
     have hb18_ := hall 18 (by kernel_rfl)
     have hb19_ := hall 19 (by kernel_rfl)
     have hb20_ := hall 20 (by kernel_rfl)
     have hb21_ := hall 21 (by kernel_rfl)
     subst ha
     obtain rfl := Q_X17_ hb17_
     simp only [putSel, hb12_, hb13_, hb14_, hb15_, hb16_, hb17_, hb18_, hb19_, hb20_, hb21_, if_true, Act.put, List.setIfInBounds_toArray, List.set_cons_zero, List.set_cons_succ]
     clear Q_GG
     clear Q_H17
     have FS := Aside0.mk (Q_FS hb21_)
     clear Q_FS
     clear hall hb12_ hb13_ hb14_ hb15_ hb16_ hb17_ hb18_ hb19_ hb20_ hb21_
     have FS_ := Lib.hid FS.out
     go_end0
     rw [HE.out]
     exact FS_.out
   ·have HE : Hid (rightO ys xs = false) := Lib.hid (by rw [HRT_]; simp [hrr])
    have brr : (rr == 0) = false := by simpa using hrr
    clear HRT_
    go_region
    go_end0
    rw [HE.out]
    exact (G.out.end_ dq false).drew
  ·have HE : Hid (rightO ys xs = false) := Lib.hid (by rw [HRT_]; simp [hzz])
   have bzz : (zz == 0) = false := by simpa using hzz
   clear HRT_
   go_region
   go_end0
   rw [HE.out]
   exact (G.out.end_ dq false).drew
 ·have HE : Hid (rightO ys xs = false) := Lib.hid (by rw [HRT_]; simp [hmg])
  have bmg : (mg == 22356) = false := by simpa using hmg
  clear HRT_
  go_region
  go_end0
  rw [HE.out]
  exact (G.out.end_ dq false).drew
end Go.Proofs.Ytffalemndjampaa
end
section
set_option linter.unusedVariables false
set_option linter.unusedSimpArgs false
namespace Go.Proofs.Ytffalemndjampaa
open Go.RowKit Go.Proofs.YtffalemndjampaaW.PrintWords Go.Proofs.YtffalemndjampaaW.PrintLast
theorem makeFunc_ (fn : Fn) (first cap : Array Value) (w : World) : (Instr.makeFunc fn first cap).run Try.prog w = .ok (.func fn first cap) w := rfl
theorem bel7 {w w5 : World} {g : Nat} (h : Below w.heap.size w w5) (hg : w.heap.size ≤ g) (v0 v1 v2 v3 v4 v5 v6 : Value) : Below w.heap.size w (((((((w5.setCell ⟨g, 0, none⟩ v0).setCell ⟨g, 1, none⟩ v1).setCell ⟨g, 2, none⟩ v2).setCell ⟨g, 3, none⟩ v3).setCell ⟨g, 4, none⟩ v4).setCell ⟨g, 5, none⟩ v5).setCell ⟨g, 6, none⟩ v6) := by
 have h0 := bl_set h (p := ⟨g, 0, none⟩) hg v0
 have h1 := bl_set h0 (p := ⟨g, 1, none⟩) hg v1
 have h2 := bl_set h1 (p := ⟨g, 2, none⟩) hg v2
 have h3 := bl_set h2 (p := ⟨g, 3, none⟩) hg v3
 have h4 := bl_set h3 (p := ⟨g, 4, none⟩) hg v4
 have h5 := bl_set h4 (p := ⟨g, 5, none⟩) hg v5
 have h6 := bl_set h5 (p := ⟨g, 6, none⟩) hg v6
 exact h6
theorem put7 {w : World} {g : Nat} {t : TypeId} {a0 a1 a2 a3 a4 a5 a6 : Value} (h : w.heap[g]? = some (.cells #[a0, a1, a2, a3, a4, a5, a6] t (0, 0))) (v0 v1 v2 v3 v4 v5 v6 : Value) : (((((((w.setCell ⟨g, 0, none⟩ v0).setCell ⟨g, 1, none⟩ v1).setCell ⟨g, 2, none⟩ v2).setCell ⟨g, 3, none⟩ v3).setCell ⟨g, 4, none⟩ v4).setCell ⟨g, 5, none⟩ v5).setCell ⟨g, 6, none⟩ v6).heap[g]? = some (.cells #[v0, v1, v2, v3, v4, v5, v6] t (0, 0)) := by
 have h0 := blk_put h 0 v0 (cs' := #[v0, a1, a2, a3, a4, a5, a6]) (by simp)
 have h1 := blk_put h0 1 v1 (cs' := #[v0, v1, a2, a3, a4, a5, a6]) (by simp)
 have h2 := blk_put h1 2 v2 (cs' := #[v0, v1, v2, a3, a4, a5, a6]) (by simp)
 have h3 := blk_put h2 3 v3 (cs' := #[v0, v1, v2, v3, a4, a5, a6]) (by simp)
 have h4 := blk_put h3 4 v4 (cs' := #[v0, v1, v2, v3, v4, a5, a6]) (by simp)
 have h5 := blk_put h4 5 v5 (cs' := #[v0, v1, v2, v3, v4, v5, a6]) (by simp)
 have h6 := blk_put h5 6 v6 (cs' := #[v0, v1, v2, v3, v4, v5, v6]) (by simp)
 exact h6
theorem alloc5 (w : World) (c1 c2 c3 c4 c5 : Array Value) (t1 t2 t3 t4 t5 : TypeId) (W : World) (hW : W = ((((w.alloc (.cells c1 t1)).alloc (.cells c2 t2)).alloc (.cells c3 t3)).alloc (.cells c4 t4)).alloc (.cells c5 t5)) : W.heap[w.heap.size]? = some (.cells c1 t1 (0, 0)) ∧ W.heap[w.heap.size + 1]? = some (.cells c2 t2 (0, 0)) ∧ W.heap[w.heap.size + 1 + 1]? = some (.cells c3 t3 (0, 0)) ∧ W.heap[w.heap.size + 1 + 1 + 1]? = some (.cells c4 t4 (0, 0)) ∧ W.heap[w.heap.size + 1 + 1 + 1 + 1]? = some (.cells c5 t5 (0, 0)) ∧ Below w.heap.size w W ∧ W.heap.size = w.heap.size + 5 := by
 subst hW
 have h2 := heap_alloc_new (w.alloc (.cells c1 t1)) (.cells c2 t2)
 have h3 := heap_alloc_new ((w.alloc (.cells c1 t1)).alloc (.cells c2 t2)) (.cells c3 t3)
 have h4 := heap_alloc_new (((w.alloc (.cells c1 t1)).alloc (.cells c2 t2)).alloc (.cells c3 t3)) (.cells c4 t4)
 have h5 := heap_alloc_new ((((w.alloc (.cells c1 t1)).alloc (.cells c2 t2)).alloc (.cells c3 t3)).alloc (.cells c4 t4)) (.cells c5 t5)
 simp only [World.size_alloc] at h2 h3 h4 h5
 exact ⟨blk_alloc (blk_alloc (blk_alloc (blk_alloc (heap_alloc_new w _) _) _) _) _, blk_alloc (blk_alloc (blk_alloc h2 _) _) _, blk_alloc (blk_alloc h3 _) _, blk_alloc h4 _, h5, bl_alloc (bl_alloc (bl_alloc (bl_alloc (bl_alloc (Below.refl _ _) _) _) _) _) _, by simp⟩
theorem alloc3 (w : World) (c1 c2 c3 : Array Value) (t1 t2 t3 : TypeId) (W : World) (hW : W = ((w.alloc (.cells c1 t1)).alloc (.cells c2 t2)).alloc (.cells c3 t3)) : W.heap[w.heap.size]? = some (.cells c1 t1 (0, 0)) ∧ W.heap[w.heap.size + 1]? = some (.cells c2 t2 (0, 0)) ∧ W.heap[w.heap.size + 1 + 1]? = some (.cells c3 t3 (0, 0)) ∧ Below w.heap.size w W := by
 subst hW
 have h2 := heap_alloc_new (w.alloc (.cells c1 t1)) (.cells c2 t2)
 have h3 := heap_alloc_new ((w.alloc (.cells c1 t1)).alloc (.cells c2 t2)) (.cells c3 t3)
 simp only [World.size_alloc] at h2 h3
 exact ⟨blk_alloc (blk_alloc (heap_alloc_new w _) _) _, blk_alloc h2 _, h3, bl_alloc (bl_alloc (bl_alloc (Below.refl _ _) _) _) _⟩
def openR (ys xs : List Int) : Hd := if openB ys xs then openH xs else hd0
theorem openR_no {ys xs : List Int} (h : openB ys xs = false) : openR ys xs = hd0 := by rw [openR, h]; rfl
theorem openR_yes {ys xs : List Int} (h : openB ys xs = true) : openR ys xs = openH xs := by rw [openR, h]; rfl
set_option maxHeartbeats 4000000 in
set_option maxRecDepth 100000 in
theorem open_any (A B : Option Addr) (c n d m : Nat) (xs ys : List Int) (w : World) (hr : ReadsInt w .u8 A m xs) (hb : Byt xs) (hc : m ≤ c) (hs : ReadsInt w .u8 B n ys) (by_ : Byt ys) (hd : n ≤ d) :
  Calls Try.prog 27 #[.slice B n d, .slice A m c] w fun e w' => Below w.heap.size w w' ∧ e = .returned (.tuple #[.agg (hdC (openR ys xs)), .bool (openB ys xs)]) := by
 have HR := Lib.hid hr
 have HB := Lib.hid hb
 have HS := Lib.hid hs
 have HY := Lib.hid by_
 have HL := Lib.hid hr.1
 have hm := hr.2.1
 have hmf := makeFunc_
 clear hr hb hs by_
 by_cases h64 : m = 64
 ·subst h64
  have b64 : (((64 : Nat) : Int) != 64) = false := by simp
  go_enter Try.func27, Try.ntmps27
  go_wp2_with fail
  have ha := alloc5 w #[.slice B n d] #[.slice A 64 c] #[.int .u8 0, .int .u32 0, .int .u32 0, .int .u16 0, .int .u16 0, .int .u32 0, .int .u32 0] #[.int .u8 0, .int .u32 0, .int .u32 0, .int .u16 0, .int .u16 0, .int .u32 0, .int .u32 0] #[.bool false] 27 27 65 65 4 _ rfl
  obtain ⟨W, hW⟩ : ∃ W, (((((w.alloc (.cells #[.slice B n d] 27)).alloc (.cells #[.slice A 64 c] 27)).alloc (.cells #[.int .u8 0, .int .u32 0, .int .u32 0, .int .u16 0, .int .u16 0, .int .u32 0, .int .u32 0] 65)).alloc (.cells #[.int .u8 0, .int .u32 0, .int .u32 0, .int .u16 0, .int .u16 0, .int .u32 0, .int .u32 0] 65)).alloc (.cells #[.bool false] 4)) = W := ⟨_, rfl⟩
  rw [hW] at ha ⊢
  have HW := Lib.hid ha
  clear hW ha
  refine (read_mods A 64 c 47 #[.pointer (some ⟨w.heap.size + 1 + 1 + 1, 0, none⟩), .pointer (some ⟨w.heap.size + 1, 0, none⟩), .pointer (some ⟨w.heap.size, 0, none⟩), .pointer (some ⟨w.heap.size + 1 + 1 + 1 + 1, 0, none⟩)] W (fun i => i = w.heap.size + 1 + 1 + 1 ∨ i = w.heap.size + 1 + 1 + 1 + 1)
   (fun w' => w'.heap[w.heap.size + 1 + 1 + 1]? = some (.cells (hdC (openH xs)) 65 (0, 0)) ∧ w'.heap[w.heap.size + 1 + 1 + 1 + 1]? = some (.cells #[.bool (rightO ys xs)] 4 (0, 0))) (fun _ => False)
   Try.f47 Try.func47 (by kernel_rfl) (by kernel_rfl) (by have h_ := HW.out.2.2.2.2.2.2; rintro i (rfl | rfl) <;> omega) (fun wa wb h k => by have h_ := HW.out.2.2.2.2.2.2; exact ⟨k.blk h.1 (by omega) (by simp), k.blk h.2 (by omega) (by simp)⟩) (fun _ _ h _ => h.elim) ?_).mono ?_
  ·intro w2 he hrd hbl hsz
   have h_ := HW.out.2.2.2.2.2.2
   refine (op1_any (W.heap.size + 1) (w.heap.size + 1 + 1 + 1) (w.heap.size + 1) (w.heap.size) (w.heap.size + 1 + 1 + 1 + 1) A B c n d xs ys w2 hrd ((HR.out.below HW.out.2.2.2.2.2.1).below hbl) HB.out hc ((HS.out.below HW.out.2.2.2.2.2.1).below hbl) HY.out hd
    (fun a ha => by have := reads_lt HR.out (by omega) a ha; omega) (fun h0 a ha => by have := reads_lt HS.out h0 a ha; omega)
    (blk_below HW.out.2.1 hbl) (blk_below HW.out.1 hbl) (blk_below HW.out.2.2.2.1 hbl) (blk_below HW.out.2.2.2.2.1 hbl) (by omega) (by omega) (by omega) (by omega) (by omega)).mono ?_
   rintro e w' ⟨hM, he2, hq2, hq3⟩
   exact ⟨hM, .inl ⟨he2, hq2, hq3⟩⟩
  ·rintro e w5 ⟨hM, ⟨rfl, hP1, hP2⟩ | ⟨rfl, hF⟩⟩
   case inr => exact hF.elim
   have hR5 := hM.blk HW.out.2.2.1 (by rintro (e | e) <;> omega)
   have T5 : Hid (Below w.heap.size w w5) := Lib.hid (HW.out.2.2.2.2.2.1.trans (hM.below (B := w.heap.size) (by have h_ := HW.out.2.2.2.2.2.2; omega) (by rintro i (rfl | rfl) <;> omega)))
   have HP := Lib.hid (And.intro hR5 (And.intro hP1 hP2))
   clear hM hP1 hP2 hR5
   have zr : w5.cell? ⟨w.heap.size + 1 + 1 + 1 + 1, 0, none⟩ = some (.bool (rightO ys xs)) := (blk_cell HP.out.2.2 0).trans rfl
   have z0 : w5.cell? ⟨w.heap.size + 1 + 1 + 1, 0, none⟩ = some (.int .u8 (openH xs).k) := (blk_cell HP.out.2.1 0).trans rfl
   have z1 : w5.cell? ⟨w.heap.size + 1 + 1 + 1, 1, none⟩ = some (.int .u32 (openH xs).e) := (blk_cell HP.out.2.1 1).trans rfl
   have z2 : w5.cell? ⟨w.heap.size + 1 + 1 + 1, 2, none⟩ = some (.int .u32 (openH xs).b) := (blk_cell HP.out.2.1 2).trans rfl
   have z3 : w5.cell? ⟨w.heap.size + 1 + 1 + 1, 3, none⟩ = some (.int .u16 (openH xs).i) := (blk_cell HP.out.2.1 3).trans rfl
   have z4 : w5.cell? ⟨w.heap.size + 1 + 1 + 1, 4, none⟩ = some (.int .u16 (openH xs).c) := (blk_cell HP.out.2.1 4).trans rfl
   have z5 : w5.cell? ⟨w.heap.size + 1 + 1 + 1, 5, none⟩ = some (.int .u32 (openH xs).l) := (blk_cell HP.out.2.1 5).trans rfl
   have z6 : w5.cell? ⟨w.heap.size + 1 + 1 + 1, 6, none⟩ = some (.int .u32 (openH xs).m) := (blk_cell HP.out.2.1 6).trans rfl
   have y0 := (blk_cell HP.out.1 0).trans rfl
   have q0 := blk_frozen HP.out.1 0
   have y1 := (blk_cell HP.out.1 1).trans rfl
   have q1 := blk_frozen HP.out.1 1
   have y2 := (blk_cell HP.out.1 2).trans rfl
   have q2 := blk_frozen HP.out.1 2
   have y3 := (blk_cell HP.out.1 3).trans rfl
   have q3 := blk_frozen HP.out.1 3
   have y4 := (blk_cell HP.out.1 4).trans rfl
   have q4 := blk_frozen HP.out.1 4
   have y5 := (blk_cell HP.out.1 5).trans rfl
   have q5 := blk_frozen HP.out.1 5
   have y6 := (blk_cell HP.out.1 6).trans rfl
   have q6 := blk_frozen HP.out.1 6
   have hob : openB ys xs = (rightO ys xs && (decide (1 ≤ (openH xs).k) && decide ((openH xs).k ≤ 6))) := by rw [openB, HL.out]; rfl
   have hk0 := (openH_ok HB.out).k0
   cases hrb : rightO ys xs
   ·have HO : Hid (openB ys xs = false) := Lib.hid (by rw [hob, hrb]; rfl)
    rw [hrb] at zr
    clear hob
    go_wp2_with fail
    have hf := put7 (show w5.heap[w.heap.size + 1 + 1]? = some (.cells #[.int .u8 0, .int .u32 0, .int .u32 0, .int .u16 0, .int .u16 0, .int .u32 0, .int .u32 0] 65 (0, 0)) from HP.out.1) (.int .u8 0) (.int .u32 0) (.int .u32 0) (.int .u16 0) (.int .u16 0) (.int .u32 0) (.int .u32 0)
    have T9 := bel7 T5.out (show w.heap.size ≤ w.heap.size + 1 + 1 by omega) (.int .u8 0) (.int .u32 0) (.int .u32 0) (.int .u16 0) (.int .u16 0) (.int .u32 0) (.int .u32 0)
    obtain ⟨w9, hw9⟩ : ∃ w9, (((((((w5.setCell ⟨w.heap.size + 1 + 1, 0, none⟩ (.int .u8 0)).setCell ⟨w.heap.size + 1 + 1, 1, none⟩ (.int .u32 0)).setCell ⟨w.heap.size + 1 + 1, 2, none⟩ (.int .u32 0)).setCell ⟨w.heap.size + 1 + 1, 3, none⟩ (.int .u16 0)).setCell ⟨w.heap.size + 1 + 1, 4, none⟩ (.int .u16 0)).setCell ⟨w.heap.size + 1 + 1, 5, none⟩ (.int .u32 0)).setCell ⟨w.heap.size + 1 + 1, 6, none⟩ (.int .u32 0)) = w9 := ⟨_, rfl⟩
    rw [hw9] at hf T9 ⊢
    have c0 : w9.cell? ⟨w.heap.size + 1 + 1, 0, none⟩ = some (.int .u8 0) := (blk_cell hf 0).trans rfl
    have c1 : w9.cell? ⟨w.heap.size + 1 + 1, 1, none⟩ = some (.int .u32 0) := (blk_cell hf 1).trans rfl
    have c2 : w9.cell? ⟨w.heap.size + 1 + 1, 2, none⟩ = some (.int .u32 0) := (blk_cell hf 2).trans rfl
    have c3 : w9.cell? ⟨w.heap.size + 1 + 1, 3, none⟩ = some (.int .u16 0) := (blk_cell hf 3).trans rfl
    have c4 : w9.cell? ⟨w.heap.size + 1 + 1, 4, none⟩ = some (.int .u16 0) := (blk_cell hf 4).trans rfl
    have c5 : w9.cell? ⟨w.heap.size + 1 + 1, 5, none⟩ = some (.int .u32 0) := (blk_cell hf 5).trans rfl
    have c6 : w9.cell? ⟨w.heap.size + 1 + 1, 6, none⟩ = some (.int .u32 0) := (blk_cell hf 6).trans rfl
    clear hw9 hf
    refine bodyPost_ret (v := .tuple #[.agg #[.int .u8 0, .int .u32 0, .int .u32 0, .int .u16 0, .int .u16 0, .int .u32 0, .int .u32 0], .bool false]) (by simp [results, Try.results27, go_sem, c0, c1, c2, c3, c4, c5, c6]) rfl ⟨T9, ?_⟩
    rw [HO.out, openR_no HO.out]
    rfl
   ·rw [hrb] at zr hob
    obtain ⟨kd, hkd⟩ : ∃ kd, (openH xs).k = kd := ⟨_, rfl⟩
    have HK := Lib.hid hkd
    rw [hkd] at hob z0 hk0
    clear hkd
    by_cases h1 : kd < 1
    ·have HO : Hid (openB ys xs = false) := Lib.hid (by rw [hob]; simp; omega)
     clear hob
     go_wp2_with fail
     have hf := put7 (show w5.heap[w.heap.size + 1 + 1]? = some (.cells #[.int .u8 0, .int .u32 0, .int .u32 0, .int .u16 0, .int .u16 0, .int .u32 0, .int .u32 0] 65 (0, 0)) from HP.out.1) (.int .u8 0) (.int .u32 0) (.int .u32 0) (.int .u16 0) (.int .u16 0) (.int .u32 0) (.int .u32 0)
     have T9 := bel7 T5.out (show w.heap.size ≤ w.heap.size + 1 + 1 by omega) (.int .u8 0) (.int .u32 0) (.int .u32 0) (.int .u16 0) (.int .u16 0) (.int .u32 0) (.int .u32 0)
     obtain ⟨w9, hw9⟩ : ∃ w9, (((((((w5.setCell ⟨w.heap.size + 1 + 1, 0, none⟩ (.int .u8 0)).setCell ⟨w.heap.size + 1 + 1, 1, none⟩ (.int .u32 0)).setCell ⟨w.heap.size + 1 + 1, 2, none⟩ (.int .u32 0)).setCell ⟨w.heap.size + 1 + 1, 3, none⟩ (.int .u16 0)).setCell ⟨w.heap.size + 1 + 1, 4, none⟩ (.int .u16 0)).setCell ⟨w.heap.size + 1 + 1, 5, none⟩ (.int .u32 0)).setCell ⟨w.heap.size + 1 + 1, 6, none⟩ (.int .u32 0)) = w9 := ⟨_, rfl⟩
     rw [hw9] at hf T9 ⊢
     have c0 : w9.cell? ⟨w.heap.size + 1 + 1, 0, none⟩ = some (.int .u8 0) := (blk_cell hf 0).trans rfl
     have c1 : w9.cell? ⟨w.heap.size + 1 + 1, 1, none⟩ = some (.int .u32 0) := (blk_cell hf 1).trans rfl
     have c2 : w9.cell? ⟨w.heap.size + 1 + 1, 2, none⟩ = some (.int .u32 0) := (blk_cell hf 2).trans rfl
     have c3 : w9.cell? ⟨w.heap.size + 1 + 1, 3, none⟩ = some (.int .u16 0) := (blk_cell hf 3).trans rfl
     have c4 : w9.cell? ⟨w.heap.size + 1 + 1, 4, none⟩ = some (.int .u16 0) := (blk_cell hf 4).trans rfl
     have c5 : w9.cell? ⟨w.heap.size + 1 + 1, 5, none⟩ = some (.int .u32 0) := (blk_cell hf 5).trans rfl
     have c6 : w9.cell? ⟨w.heap.size + 1 + 1, 6, none⟩ = some (.int .u32 0) := (blk_cell hf 6).trans rfl
     clear hw9 hf
     refine bodyPost_ret (v := .tuple #[.agg #[.int .u8 0, .int .u32 0, .int .u32 0, .int .u16 0, .int .u16 0, .int .u32 0, .int .u32 0], .bool false]) (by simp [results, Try.results27, go_sem, c0, c1, c2, c3, c4, c5, c6]) rfl ⟨T9, ?_⟩
     rw [HO.out, openR_no HO.out]
     rfl
    ·by_cases h6 : 6 < kd
     ·have HO : Hid (openB ys xs = false) := Lib.hid (by rw [hob]; simp; omega)
      clear hob
      go_wp2_with fail
      have hf := put7 (show w5.heap[w.heap.size + 1 + 1]? = some (.cells #[.int .u8 0, .int .u32 0, .int .u32 0, .int .u16 0, .int .u16 0, .int .u32 0, .int .u32 0] 65 (0, 0)) from HP.out.1) (.int .u8 0) (.int .u32 0) (.int .u32 0) (.int .u16 0) (.int .u16 0) (.int .u32 0) (.int .u32 0)
      have T9 := bel7 T5.out (show w.heap.size ≤ w.heap.size + 1 + 1 by omega) (.int .u8 0) (.int .u32 0) (.int .u32 0) (.int .u16 0) (.int .u16 0) (.int .u32 0) (.int .u32 0)
      obtain ⟨w9, hw9⟩ : ∃ w9, (((((((w5.setCell ⟨w.heap.size + 1 + 1, 0, none⟩ (.int .u8 0)).setCell ⟨w.heap.size + 1 + 1, 1, none⟩ (.int .u32 0)).setCell ⟨w.heap.size + 1 + 1, 2, none⟩ (.int .u32 0)).setCell ⟨w.heap.size + 1 + 1, 3, none⟩ (.int .u16 0)).setCell ⟨w.heap.size + 1 + 1, 4, none⟩ (.int .u16 0)).setCell ⟨w.heap.size + 1 + 1, 5, none⟩ (.int .u32 0)).setCell ⟨w.heap.size + 1 + 1, 6, none⟩ (.int .u32 0)) = w9 := ⟨_, rfl⟩
      rw [hw9] at hf T9 ⊢
      have c0 : w9.cell? ⟨w.heap.size + 1 + 1, 0, none⟩ = some (.int .u8 0) := (blk_cell hf 0).trans rfl
      have c1 : w9.cell? ⟨w.heap.size + 1 + 1, 1, none⟩ = some (.int .u32 0) := (blk_cell hf 1).trans rfl
      have c2 : w9.cell? ⟨w.heap.size + 1 + 1, 2, none⟩ = some (.int .u32 0) := (blk_cell hf 2).trans rfl
      have c3 : w9.cell? ⟨w.heap.size + 1 + 1, 3, none⟩ = some (.int .u16 0) := (blk_cell hf 3).trans rfl
      have c4 : w9.cell? ⟨w.heap.size + 1 + 1, 4, none⟩ = some (.int .u16 0) := (blk_cell hf 4).trans rfl
      have c5 : w9.cell? ⟨w.heap.size + 1 + 1, 5, none⟩ = some (.int .u32 0) := (blk_cell hf 5).trans rfl
      have c6 : w9.cell? ⟨w.heap.size + 1 + 1, 6, none⟩ = some (.int .u32 0) := (blk_cell hf 6).trans rfl
      clear hw9 hf
      refine bodyPost_ret (v := .tuple #[.agg #[.int .u8 0, .int .u32 0, .int .u32 0, .int .u16 0, .int .u16 0, .int .u32 0, .int .u32 0], .bool false]) (by simp [results, Try.results27, go_sem, c0, c1, c2, c3, c4, c5, c6]) rfl ⟨T9, ?_⟩
      rw [HO.out, openR_no HO.out]
      rfl
     ·have HO : Hid (openB ys xs = true) := Lib.hid (by rw [hob]; simp; omega)
      clear hob
      go_wp2_with fail
      have hf := put7 (show w5.heap[w.heap.size + 1 + 1]? = some (.cells #[.int .u8 0, .int .u32 0, .int .u32 0, .int .u16 0, .int .u16 0, .int .u32 0, .int .u32 0] 65 (0, 0)) from HP.out.1) (.int .u8 kd) (.int .u32 (openH xs).e) (.int .u32 (openH xs).b) (.int .u16 (openH xs).i) (.int .u16 (openH xs).c) (.int .u32 (openH xs).l) (.int .u32 (openH xs).m)
      have T9 := bel7 T5.out (show w.heap.size ≤ w.heap.size + 1 + 1 by omega) (.int .u8 kd) (.int .u32 (openH xs).e) (.int .u32 (openH xs).b) (.int .u16 (openH xs).i) (.int .u16 (openH xs).c) (.int .u32 (openH xs).l) (.int .u32 (openH xs).m)
      obtain ⟨w9, hw9⟩ : ∃ w9, (((((((w5.setCell ⟨w.heap.size + 1 + 1, 0, none⟩ (.int .u8 kd)).setCell ⟨w.heap.size + 1 + 1, 1, none⟩ (.int .u32 (openH xs).e)).setCell ⟨w.heap.size + 1 + 1, 2, none⟩ (.int .u32 (openH xs).b)).setCell ⟨w.heap.size + 1 + 1, 3, none⟩ (.int .u16 (openH xs).i)).setCell ⟨w.heap.size + 1 + 1, 4, none⟩ (.int .u16 (openH xs).c)).setCell ⟨w.heap.size + 1 + 1, 5, none⟩ (.int .u32 (openH xs).l)).setCell ⟨w.heap.size + 1 + 1, 6, none⟩ (.int .u32 (openH xs).m)) = w9 := ⟨_, rfl⟩
      rw [hw9] at hf T9 ⊢
      have c0 : w9.cell? ⟨w.heap.size + 1 + 1, 0, none⟩ = some (.int .u8 kd) := (blk_cell hf 0).trans rfl
      have c1 : w9.cell? ⟨w.heap.size + 1 + 1, 1, none⟩ = some (.int .u32 (openH xs).e) := (blk_cell hf 1).trans rfl
      have c2 : w9.cell? ⟨w.heap.size + 1 + 1, 2, none⟩ = some (.int .u32 (openH xs).b) := (blk_cell hf 2).trans rfl
      have c3 : w9.cell? ⟨w.heap.size + 1 + 1, 3, none⟩ = some (.int .u16 (openH xs).i) := (blk_cell hf 3).trans rfl
      have c4 : w9.cell? ⟨w.heap.size + 1 + 1, 4, none⟩ = some (.int .u16 (openH xs).c) := (blk_cell hf 4).trans rfl
      have c5 : w9.cell? ⟨w.heap.size + 1 + 1, 5, none⟩ = some (.int .u32 (openH xs).l) := (blk_cell hf 5).trans rfl
      have c6 : w9.cell? ⟨w.heap.size + 1 + 1, 6, none⟩ = some (.int .u32 (openH xs).m) := (blk_cell hf 6).trans rfl
      clear hw9 hf
      refine bodyPost_ret (v := .tuple #[.agg #[.int .u8 kd, .int .u32 (openH xs).e, .int .u32 (openH xs).b, .int .u16 (openH xs).i, .int .u16 (openH xs).c, .int .u32 (openH xs).l, .int .u32 (openH xs).m], .bool true]) (by simp [results, Try.results27, go_sem, c0, c1, c2, c3, c4, c5, c6]) rfl ⟨T9, ?_⟩
      rw [HO.out, openR_yes HO.out]
      rw [← HK.out]
 ·have b64 : ((m : Int) != 64) = true := by simp; omega
  have hob : openB ys xs = false := by rw [openB, HL.out, decide_eq_false h64]; rfl
  have HO := Lib.hid hob
  clear hob
  go_enter Try.func27, Try.ntmps27
  go_wp2_with fail
  have ha := alloc3 w #[.slice B n d] #[.slice A m c] #[.int .u8 0, .int .u32 0, .int .u32 0, .int .u16 0, .int .u16 0, .int .u32 0, .int .u32 0] 27 27 65 _ rfl
  obtain ⟨w9, hw9⟩ : ∃ w9, (((w.alloc (.cells #[.slice B n d] 27)).alloc (.cells #[.slice A m c] 27)).alloc (.cells #[.int .u8 0, .int .u32 0, .int .u32 0, .int .u16 0, .int .u16 0, .int .u32 0, .int .u32 0] 65)) = w9 := ⟨_, rfl⟩
  rw [hw9] at ha ⊢
  have hf := ha.2.2.1
  have T9 := ha.2.2.2
  have c0 : w9.cell? ⟨w.heap.size + 1 + 1, 0, none⟩ = some (.int .u8 0) := (blk_cell hf 0).trans rfl
  have c1 : w9.cell? ⟨w.heap.size + 1 + 1, 1, none⟩ = some (.int .u32 0) := (blk_cell hf 1).trans rfl
  have c2 : w9.cell? ⟨w.heap.size + 1 + 1, 2, none⟩ = some (.int .u32 0) := (blk_cell hf 2).trans rfl
  have c3 : w9.cell? ⟨w.heap.size + 1 + 1, 3, none⟩ = some (.int .u16 0) := (blk_cell hf 3).trans rfl
  have c4 : w9.cell? ⟨w.heap.size + 1 + 1, 4, none⟩ = some (.int .u16 0) := (blk_cell hf 4).trans rfl
  have c5 : w9.cell? ⟨w.heap.size + 1 + 1, 5, none⟩ = some (.int .u32 0) := (blk_cell hf 5).trans rfl
  have c6 : w9.cell? ⟨w.heap.size + 1 + 1, 6, none⟩ = some (.int .u32 0) := (blk_cell hf 6).trans rfl
  clear hw9 hf ha
  refine bodyPost_ret (v := .tuple #[.agg #[.int .u8 0, .int .u32 0, .int .u32 0, .int .u16 0, .int .u16 0, .int .u32 0, .int .u32 0], .bool false]) (by simp [results, Try.results27, go_sem, c0, c1, c2, c3, c4, c5, c6]) rfl ⟨T9, ?_⟩
  rw [HO.out, openR_no HO.out]
  rfl
end Go.Proofs.Ytffalemndjampaa
end
