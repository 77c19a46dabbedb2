/- What the proof of TopSealed leans on: Fields. -/
import Derived.Test.YtffalemndjampaaQar
set_option linter.unusedVariables false
set_option linter.unusedSimpArgs false
namespace Go.Proofs.Ytffalemndjampaa
open Go.RowKit Go.Proofs.YtffalemndjampaaW.PrintWords Go.Proofs.YtffalemndjampaaW.PrintLast
def FldR.T2 : Bool × List (List Nat × List Nat) := (true, [([], []), ([], []), ([0, 1], [0, 1]), ([], []), ([3], [3]), ([4], [4]), ([2, 5, 2], [2, 5]), ([], []), ([7], [7]), ([], []), ([9], [9]), ([8, 10], [8, 10]), ([6, 11, 6], [6, 11]), ([], []), ([13], [13]), ([], []), ([15], [15]), ([14, 16], [14, 16]), ([12, 17, 12], [12, 17]), ([], []), ([19], [19]), ([], []), ([21], [21]), ([20, 22], [20, 22]), ([18, 23, 18], [18, 23]), ([24, 24], [24]), ([25, 25, 0, 1, 2, 3, 4, 5, 6, 7, 8, 9, 10, 11, 12, 13, 14, 15, 16, 17, 18, 19, 20, 21, 22, 23, 24, 25], [25])])
def FldR.B2 : List Nat := [0, 0, 3, 0, 8, 24, 63, 0, 128, 0, 512, 1920, 4095, 0, 8192, 0, 32768, 122880, 262143, 0, 524288, 0, 2097152, 7864320, 16777215, 33554431, 67108863]
theorem FldR.tab2 : rtab .any (opsOf Try.f44 2) = FldR.T2 := by kernel_rfl
theorem FldR.bits2 : waitsOk FldR.T2.2 FldR.B2 = true := by kernel_rfl
abbrev hdC (h : Hd) : Array Value := #[.int .u8 h.k, .int .u32 h.e, .int .u32 h.b, .int .u16 h.i, .int .u16 h.c, .int .u32 h.l, .int .u32 h.m]
theorem own_base {w : World} {B B' : Nat} {e : TypeId} {s n : Nat} {v : Value} {xs : List Value} (h : w.ownsRow B e s v n xs) (hb : B' ≤ B) : w.ownsRow B' e s v n xs := by
 obtain ⟨h1, h2⟩ := h
 refine ⟨h1, ?_⟩
 rcases h2 with h2 | ⟨g, cap, cur, e, hg, r⟩
 ·exact .inl h2
 ·exact .inr ⟨g, cap, cur, e, Nat.le_trans hb hg, r⟩
theorem WrV.hold0 {w w' : World} {base p b : Nat} {L : List Int} {cs : Array Value} {t : TypeId} (hv : WrV w base p (.slice none 0 0) L) (hk : KeepBut w w' p (Value.slice none 0 0).ownBlock) (h : w.heap[b]? = some (.cells cs t (0, 0))) (ht : t ≠ 29) : w'.heap[b]? = some (.cells cs t (0, 0)) := by
 refine hk.blk h ?_ (by simp [Value.ownBlock])
 rintro rfl
 rw [hv.blk] at h
 injection h with h
 injection h with h1 h2 h3
 exact ht h2.symm
theorem WrV.apartA {w : World} {base p b : Nat} {v : Value} {L : List Int} {cs : Array Value} {t : TypeId} (hv : WrV w base p v L) (h : w.heap[b]? = some (.cells cs t (0, 0))) (ht : t ≠ 29) (hne : some b ≠ v.ownBlock) (o n : Nat) : 0 < n → ∀ a, some (⟨b, o, none⟩ : Addr) = some a → a.block ≠ p ∧ some a.block ≠ v.ownBlock := by
 intro _ a ha
 obtain rfl := Option.some.inj ha
 refine ⟨?_, hne⟩
 rintro rfl
 rw [hv.blk] at h
 injection h with h
 injection h with h1 h2 h3
 exact ht h2.symm
theorem ap_grown {w : World} {b : Nat} {v : Value} {o : Obj} (g : v.ownBlock = (Value.slice none 0 0).ownBlock ∨ ∃ k, v.ownBlock = some k ∧ w.heap.size ≤ k) (h : w.heap[b]? = some o) : some b ≠ v.ownBlock := by
 have hl := blk_lt h
 rcases g with g | ⟨q, g, hq⟩
 ·rw [g]; simp [Value.ownBlock]
 ·rw [g]
  intro e
  injection e with e
  omega
theorem ap_new {w : World} {base p : Nat} {v : Value} {L : List Int} (h : WrV w base p v L) : some w.heap.size ≠ v.ownBlock := fun e => Nat.lt_irrefl _ (h.own.lt _ e.symm).2
set_option maxHeartbeats 4000000 in
set_option maxRecDepth 100000 in
theorem fields_any (h : Hd) (w : World) (ho : h.ok) :
  Calls Try.prog 44 #[.agg (hdC h)] w fun e w' => ∃ v, e = .returned v ∧ New w w' v (fieldsL h) := by
 have hb0 : ∀ x ∈ [(22356 : Int)], 0 ≤ x ∧ x < 65536 := by simp
 have hb1 : ∀ x ∈ [h.k, (0 : Int)], 0 ≤ x ∧ x < 256 := by have h1 := ho.k0; have h2 := ho.k1; simp; omega
 have hb2 : ∀ x ∈ [h.e, h.b], 0 ≤ x ∧ x < 4294967296 := by have h1 := ho.e0; have h2 := ho.e1; have h3 := ho.b0; have h4 := ho.b1; simp; omega
 have hb3 : ∀ x ∈ [h.i, h.c], 0 ≤ x ∧ x < 65536 := by have h1 := ho.i0; have h2 := ho.i1; have h3 := ho.c0; have h4 := ho.c1; simp; omega
 have hb4 : ∀ x ∈ [h.l, h.m], 0 ≤ x ∧ x < 4294967296 := by have h1 := ho.l0; have h2 := ho.l1; have h3 := ho.m0; have h4 := ho.m1; simp; omega
 have hb0 := Lib.hid hb0
 have hb1 := Lib.hid hb1
 have hb2 := Lib.hid hb2
 have hb3 := Lib.hid hb3
 have hb4 := Lib.hid hb4
 have HL : Hid (((((([] ++ les 2 [22356]) ++ les 1 [h.k, 0]) ++ les 4 [h.e, h.b]) ++ les 2 [h.i, h.c]) ++ les 4 [h.l, h.m]) = fieldsL h) := Lib.hid (by simp [les, fieldsL])
 clear ho
 go_enter Try.func44, Try.ntmps44
 go_wp2_with fail
 have BB : Hid (Below w.heap.size w ((w.alloc (.cells #[.int .u8 h.k, .int .u32 h.e, .int .u32 h.b, .int .u16 h.i, .int .u16 h.c, .int .u32 h.l, .int .u32 h.m] 65)).alloc (.cells #[.slice none 0 0] 29))) := Lib.hid (bl_alloc (bl_alloc (Below.refl _ _) _) _)
 have BX : Hid (((w.alloc (.cells #[.int .u8 h.k, .int .u32 h.e, .int .u32 h.b, .int .u16 h.i, .int .u16 h.c, .int .u32 h.l, .int .u32 h.m] 65)).alloc (.cells #[.slice none 0 0] 29)).heap[w.heap.size]? = some (.cells #[.int .u8 h.k, .int .u32 h.e, .int .u32 h.b, .int .u16 h.i, .int .u16 h.c, .int .u32 h.l, .int .u32 h.m] 65 (0, 0))) := Lib.hid (blk_alloc (heap_alloc_new _ _) _)
 have S0 : Hid (WrV ((w.alloc (.cells #[.int .u8 h.k, .int .u32 h.e, .int .u32 h.b, .int .u16 h.i, .int .u16 h.c, .int .u32 h.l, .int .u32 h.m] 65)).alloc (.cells #[.slice none 0 0] 29)) w.heap.size (w.heap.size + 1) (.slice none 0 0) []) := Lib.hid (WrV.first _ _ (by have h_ := heap_alloc_new (w.alloc (.cells #[.int .u8 h.k, .int .u32 h.e, .int .u32 h.b, .int .u16 h.i, .int .u16 h.c, .int .u32 h.l, .int .u32 h.m] 65)) (.cells #[.slice none 0 0] 29); simpa using h_) _)
 generalize ((w.alloc (.cells #[.int .u8 h.k, .int .u32 h.e, .int .u32 h.b, .int .u16 h.i, .int .u16 h.c, .int .u32 h.l, .int .u32 h.m] 65)).alloc (.cells #[.slice none 0 0] 29)) = w0 at BB BX S0 ⊢
 refine start_ (n := 27) (S := fun w' => True) (ds := []) _ (by kernel_rfl) rfl rfl trivial (fun hHeld => ?_)
 refine with_tabW FldR.tab2 FldR.bits2 (fun HT_ HW_ => ?_)
 have BB := Lib.hid (bl_drew BB.out)
 have BX := Lib.hid (show w0.drew.heap[w.heap.size]? = _ from BX.out)
 have S0 := Lib.hid S0.out.drew
 generalize w0.drew = w2 at BB BX S0 hHeld ⊢
 refine pur_ 0 (some 6) HT_.out rfl rfl (by kernel_rfl) (fun _ _ _ h => h) (by rfl) (fun w' => by go_simp; with_reducible rfl) (by simp only [Act.put, List.setIfInBounds_toArray, List.set_cons_zero, List.set_cons_succ, i64_w, i32_w]; rfl) ?_
 refine pur_ 3 (some 9) HT_.out rfl rfl (by kernel_rfl) (fun _ _ _ h => h) (by rfl) (fun w' => by go_simp; with_reducible rfl) (by simp only [Act.put, List.setIfInBounds_toArray, List.set_cons_zero, List.set_cons_succ, i64_w, i32_w]; rfl) ?_
 refine pur_ 7 (some 13) HT_.out rfl rfl (by kernel_rfl) (fun _ _ _ h => h) (by rfl) (fun w' => by go_simp; with_reducible rfl) (by simp only [Act.put, List.setIfInBounds_toArray, List.set_cons_zero, List.set_cons_succ, i64_w, i32_w]; rfl) ?_
 refine pur_ 9 (some 15) HT_.out rfl rfl (by kernel_rfl) (fun _ _ _ h => h) (by rfl) (fun w' => by go_simp; with_reducible rfl) (by simp only [Act.put, List.setIfInBounds_toArray, List.set_cons_zero, List.set_cons_succ, i64_w, i32_w]; rfl) ?_
 refine pur_ 13 (some 19) HT_.out rfl rfl (by kernel_rfl) (fun _ _ _ h => h) (by rfl) (fun w' => by go_simp; with_reducible rfl) (by simp only [Act.put, List.setIfInBounds_toArray, List.set_cons_zero, List.set_cons_succ, i64_w, i32_w]; rfl) ?_
 refine pur_ 15 (some 21) HT_.out rfl rfl (by kernel_rfl) (fun _ _ _ h => h) (by rfl) (fun w' => by go_simp; with_reducible rfl) (by simp only [Act.put, List.setIfInBounds_toArray, List.set_cons_zero, List.set_cons_succ, i64_w, i32_w]; rfl) ?_
 refine pur_ 19 (some 25) HT_.out rfl rfl (by kernel_rfl) (fun _ _ _ h => h) (by rfl) (fun w' => by go_simp; with_reducible rfl) (by simp only [Act.put, List.setIfInBounds_toArray, List.set_cons_zero, List.set_cons_succ, i64_w, i32_w]; rfl) ?_
 refine pur_ 21 (some 27) HT_.out rfl rfl (by kernel_rfl) (fun _ _ _ h => h) (by rfl) (fun w' => by go_simp; with_reducible rfl) (by simp only [Act.put, List.setIfInBounds_toArray, List.set_cons_zero, List.set_cons_succ, i64_w, i32_w]; rfl) ?_
 refine inv_at [1, 2, 4, 5, 6, 8, 10, 11, 12, 14, 16, 17, 18, 20, 22, 23, 24, 25, 26] (fun a0_ b a w' => ∃ (b1 : Nat) (b5 : Nat) (b11 : Nat) (b17 : Nat) (b23 : Nat) (v2 : Value) (v6 : Value) (v12 : Value) (v18 : Value) (v24 : Value) (v25 : Value) (m1_ : Value) (m5_ : Value) (m11_ : Value) (m17_ : Value) (m23_ : Value) (m26_ : Value), a = putSel a0_ b [(1, 7, m1_), (2, 8, .pointer (some ⟨w.heap.size + 1, 0, none⟩)), (4, 10, .int .u8 h.k), (5, 11, m5_), (6, 12, .pointer (some ⟨w.heap.size + 1, 0, none⟩)), (8, 14, .int .u32 h.e), (10, 16, .int .u32 h.b), (11, 17, m11_), (12, 18, .pointer (some ⟨w.heap.size + 1, 0, none⟩)), (14, 20, .int .u16 h.i), (16, 22, .int .u16 h.c), (17, 23, m17_), (18, 24, .pointer (some ⟨w.heap.size + 1, 0, none⟩)), (20, 26, .int .u32 h.l), (22, 28, .int .u32 h.m), (23, 29, m23_), (24, 30, .pointer (some ⟨w.heap.size + 1, 0, none⟩)), (25, 31, v25), (26, 2, m26_)] ∧ (Below w.heap.size w w') ∧ (w'.heap[w.heap.size]? = some (.cells #[.int .u8 h.k, .int .u32 h.e, .int .u32 h.b, .int .u16 h.i, .int .u16 h.c, .int .u32 h.l, .int .u32 h.m] 65 (0, 0))) ∧ (b 2 = false → WrV w' w.heap.size (w.heap.size + 1) (.slice none 0 0) []) ∧ (b 2 = true → b 6 = false → WrV w' w.heap.size (w.heap.size + 1) v2 ([] ++ les 2 [22356])) ∧ (b 6 = true → b 12 = false → WrV w' w.heap.size (w.heap.size + 1) v6 (([] ++ les 2 [22356]) ++ les 1 [h.k, 0])) ∧ (b 12 = true → b 18 = false → WrV w' w.heap.size (w.heap.size + 1) v12 ((([] ++ les 2 [22356]) ++ les 1 [h.k, 0]) ++ les 4 [h.e, h.b])) ∧ (b 18 = true → b 24 = false → WrV w' w.heap.size (w.heap.size + 1) v18 (((([] ++ les 2 [22356]) ++ les 1 [h.k, 0]) ++ les 4 [h.e, h.b]) ++ les 2 [h.i, h.c])) ∧ (b 24 = true → b 25 = false → WrV w' w.heap.size (w.heap.size + 1) v24 ((((([] ++ les 2 [22356]) ++ les 1 [h.k, 0]) ++ les 4 [h.e, h.b]) ++ les 2 [h.i, h.c]) ++ les 4 [h.l, h.m])) ∧ (b 1 = true → b 2 = false → w'.heap[b1]? = some (.cells #[.int .u16 22356] 31 (0, 0))) ∧ (b 5 = true → b 6 = false → w'.heap[b5]? = some (.cells #[.int .u8 h.k, .int .u8 0] 5 (0, 0))) ∧ (b 11 = true → b 12 = false → w'.heap[b11]? = some (.cells #[.int .u32 h.e, .int .u32 h.b] 23 (0, 0))) ∧ (b 17 = true → b 18 = false → w'.heap[b17]? = some (.cells #[.int .u16 h.i, .int .u16 h.c] 31 (0, 0))) ∧ (b 23 = true → b 24 = false → w'.heap[b23]? = some (.cells #[.int .u32 h.l, .int .u32 h.m] 23 (0, 0))) ∧ (b 25 = true → w'.ownsRow w.heap.size 5 1 v25 24 (nums .u8 (fieldsL h))) ∧ (b 2 = true → b 5 = true → b 6 = false → some b5 ≠ (v2 : Value).ownBlock) ∧ (b 1 = true → (m1_ : Value) = .slice (some ⟨b1, 0, none⟩) 1 1) ∧ (b 5 = true → (m5_ : Value) = .slice (some ⟨b5, 0, none⟩) 2 2) ∧ (b 11 = true → (m11_ : Value) = .slice (some ⟨b11, 0, none⟩) 2 2) ∧ (b 17 = true → (m17_ : Value) = .slice (some ⟨b17, 0, none⟩) 2 2) ∧ (b 23 = true → (m23_ : Value) = .slice (some ⟨b23, 0, none⟩) 2 2) ∧ (b 26 = true → (m26_ : Value) = v25)) HT_.out HW_.out (by kernel_rfl) (by kernel_rfl) ?_ ?_ ?_
 ·exact ⟨0, 0, 0, 0, 0, .slice none 0 0, .slice none 0 0, .slice none 0 0, .slice none 0 0, .slice none 0 0, .slice none 0 0, .bool false, .bool false, .bool false, .bool false, .bool false, .bool false, by simp only [putSel, Bool.false_eq_true, if_false], BB.out, BX.out, fun _ => S0.out, fun h_ => absurd h_ (by decide), fun h_ => absurd h_ (by decide), fun h_ => absurd h_ (by decide), fun h_ => absurd h_ (by decide), fun h_ => absurd h_ (by decide), fun h_ => absurd h_ (by decide), fun h_ => absurd h_ (by decide), fun h_ => absurd h_ (by decide), fun h_ => absurd h_ (by decide), fun h_ => absurd h_ (by decide), fun h_ => absurd h_ (by decide), fun h_ => absurd h_ (by decide), fun h_ => absurd h_ (by decide), fun h_ => absurd h_ (by decide), fun h_ => absurd h_ (by decide), fun h_ => absurd h_ (by decide), fun h_ => absurd h_ (by decide), fun h_ => absurd h_ (by decide)⟩
 ·skip
  clear BB BX S0
  refine steps_cons ?_ ?_
  ·rintro b a w' ⟨b1, b5, b11, b17, b23, v2, v6, v12, v18, v24, v25, m1_, m5_, m11_, m17_, m23_, m26_, ha, Q_BB, Q_BX, Q_S0, Q_S1, Q_S2, Q_S3, Q_S4, Q_S5, Q_H1, Q_H5, Q_H11, Q_H17, Q_H23, Q_NN, Q_AP5, Q_X1_, Q_X5_, Q_X11_, Q_X17_, Q_X23_, Q_X26_⟩ hb_ hon hoff
   refine ⟨_, rfl, fun K hK => ?_⟩
   replace ha := Aside0.mk ha
   have BB := Aside0.mk Q_BB
   have BX := Aside0.mk Q_BX
   have S0 := Aside0.mk (Q_S0 (hoff 2 (by kernel_rfl)))
   refine value_ (w1 := w'.alloc (.cells #[.int .u16 22356] 31)) (v := .slice (some ⟨w'.heap.size, 0, none⟩) 1 1) (by rfl) rfl ?_ ?_
   ·go_simp
    try rfl
   refine hK.out _ _ ⟨w'.heap.size, b5, b11, b17, b23, v2, v6, v12, v18, v24, v25, (.slice (some ⟨w'.heap.size, 0, none⟩) 1 1), m5_, m11_, m17_, m23_, m26_, (ptup_ ha.out 0 hb_ rfl rfl rfl), bl_alloc BB.out _, blk_alloc BX.out _, fun _ => WrV.alloc S0.out _, fun h0_ _ => off_ (hoff 2 (by kernel_rfl)) h0_, fun h0_ _ => off_ (hoff 6 (by kernel_rfl)) h0_, fun h0_ _ => off_ (hoff 12 (by kernel_rfl)) h0_, fun h0_ _ => off_ (hoff 18 (by kernel_rfl)) h0_, fun h0_ _ => off_ (hoff 24 (by kernel_rfl)) h0_, fun _ _ => heap_alloc_new _ _, fun h0_ h1_ => blk_alloc (Q_H5 h0_ h1_) _, fun h0_ h1_ => blk_alloc (Q_H11 h0_ h1_) _, fun h0_ h1_ => blk_alloc (Q_H17 h0_ h1_) _, fun h0_ h1_ => blk_alloc (Q_H23 h0_ h1_) _, off_ (hoff 25 (by kernel_rfl)), fun h0_ _ _ => absurd ((hoff 2 (by kernel_rfl)).symm.trans h0_) (by decide), fun _ => rfl, Q_X5_, Q_X11_, Q_X17_, Q_X23_, off_ (hoff 26 (by kernel_rfl))⟩
  refine steps_cons ?_ ?_
  ·rintro b a w' ⟨b1, b5, b11, b17, b23, v2, v6, v12, v18, v24, v25, m1_, m5_, m11_, m17_, m23_, m26_, ha, Q_BB, Q_BX, Q_S0, Q_S1, Q_S2, Q_S3, Q_S4, Q_S5, Q_H1, Q_H5, Q_H11, Q_H17, Q_H23, Q_NN, Q_AP5, Q_X1_, Q_X5_, Q_X11_, Q_X17_, Q_X23_, Q_X26_⟩ hb_ hon hoff
   refine ⟨_, rfl, fun K hK => ?_⟩
   have e6 : a.tmps[6]? = some (.pointer (some ⟨w.heap.size + 1, 0, none⟩)) := by rw [ha]; exact (putSel_off rfl).trans rfl
   have e7 : a.tmps[7]? = some (m1_) := pton_ ha 0 rfl rfl (hon 1 (by kernel_rfl)) rfl
   rw [Q_X1_ (hon 1 (by kernel_rfl))] at e7
   replace ha := Aside0.mk ha
   have BB := Aside0.mk Q_BB
   have BX := Aside0.mk Q_BX
   have S0 := Aside0.mk (Q_S0 hb_)
   have H1 := Aside0.mk (Q_H1 (hon 1 (by kernel_rfl)) hb_)
   refine goes_ Try.func5 (by kernel_rfl) rfl #[.pointer (some ⟨w.heap.size + 1, 0, none⟩), .slice (some ⟨b1, 0, none⟩) 1 1] (by rfl) rfl rfl (by first | (simp only [List.map_toArray, List.map_cons, List.map_nil, Act.eval, Array.getD_eq_getD_getElem?, Option.getD_some, e6, e7]; done) | (simp only [List.map_toArray, List.map_cons, List.map_nil, Act.eval, Array.getD_eq_getD_getElem?, Option.getD_some, e6, e7]; rfl)) ?_
   refine (U16_any w.heap.size (w.heap.size + 1) (.slice none 0 0) [] [22356] _ 1 w' S0.out (by omega) (by have h_ := S0.out.lt; omega) (reads_cells H1.out rfl (by simp) rfl) hb0.out (S0.out.apart0 H1.out (by decide) 0 1) (by simp [le_length, les_length])).mono ?_
   rintro e w1 ⟨rfl, v_, g1, g2, g3, g4⟩
   refine ⟨_, rfl, ?_⟩
   refine hK.out _ _ ⟨b1, b5, b11, b17, b23, v_, v6, v12, v18, v24, v25, m1_, m5_, m11_, m17_, m23_, m26_, (ptup_ ha.out 1 hb_ rfl rfl rfl), BB.out.trans g4, S0.out.hold g2 BX.out (by decide) (by decide), fun h0_ => absurd ((up_self b 2).symm.trans h0_) (by decide), fun _ _ => g1, fun h0_ _ => off_ (hoff 6 (by kernel_rfl)) h0_, fun h0_ _ => off_ (hoff 12 (by kernel_rfl)) h0_, fun h0_ _ => off_ (hoff 18 (by kernel_rfl)) h0_, fun h0_ _ => off_ (hoff 24 (by kernel_rfl)) h0_, fun _ h1_ => absurd ((up_self b 2).symm.trans h1_) (by decide), fun h0_ h1_ => S0.out.hold0 g2 (Q_H5 h0_ h1_) (by decide), fun h0_ h1_ => S0.out.hold g2 (Q_H11 h0_ h1_) (by decide) (by decide), fun h0_ h1_ => S0.out.hold g2 (Q_H17 h0_ h1_) (by decide) (by decide), fun h0_ h1_ => S0.out.hold g2 (Q_H23 h0_ h1_) (by decide) (by decide), off_ (hoff 25 (by kernel_rfl)), fun _ _ _ => (by rename_i h5_ h6_; exact ap_grown g3 (Q_H5 h5_ h6_)), Q_X1_, Q_X5_, Q_X11_, Q_X17_, Q_X23_, off_ (hoff 26 (by kernel_rfl))⟩
  refine steps_cons ?_ ?_
  ·rintro b a w' ⟨b1, b5, b11, b17, b23, v2, v6, v12, v18, v24, v25, m1_, m5_, m11_, m17_, m23_, m26_, ha, Q_BB, Q_BX, Q_S0, Q_S1, Q_S2, Q_S3, Q_S4, Q_S5, Q_H1, Q_H5, Q_H11, Q_H17, Q_H23, Q_NN, Q_AP5, Q_X1_, Q_X5_, Q_X11_, Q_X17_, Q_X23_, Q_X26_⟩ hb_ hon hoff
   refine ⟨_, rfl, fun K hK => ?_⟩
   have e9 : a.tmps[9]? = some (.pointer (some ⟨w.heap.size, 0, none⟩)) := by rw [ha]; exact (putSel_off rfl).trans rfl
   replace ha := Aside0.mk ha
   have BB := Aside0.mk Q_BB
   have BX := Aside0.mk Q_BX
   have hc_ : w'.cell? ⟨w.heap.size, 0, none⟩ = some (.int .u8 h.k) := (blk_cell BX.out 0).trans rfl
   refine value_ (w1 := w') (v := .int .u8 h.k) (by rfl) rfl ?_ ?_
   ·go_simp
    (try simp only [i64_w])
    try rfl
   refine hK.out _ _ ⟨b1, b5, b11, b17, b23, v2, v6, v12, v18, v24, v25, m1_, m5_, m11_, m17_, m23_, m26_, (ptup_ ha.out 2 hb_ rfl rfl rfl), Q_BB, Q_BX, Q_S0, Q_S1, fun h0_ _ => off_ (hoff 6 (by kernel_rfl)) h0_, fun h0_ _ => off_ (hoff 12 (by kernel_rfl)) h0_, fun h0_ _ => off_ (hoff 18 (by kernel_rfl)) h0_, fun h0_ _ => off_ (hoff 24 (by kernel_rfl)) h0_, Q_H1, fun h0_ _ => off_ (hoff 5 (by kernel_rfl)) h0_, Q_H11, Q_H17, Q_H23, off_ (hoff 25 (by kernel_rfl)), fun _ h1_ _ => absurd ((hoff 5 (by kernel_rfl)).symm.trans h1_) (by decide), Q_X1_, off_ (hoff 5 (by kernel_rfl)), Q_X11_, Q_X17_, Q_X23_, off_ (hoff 26 (by kernel_rfl))⟩
  refine steps_cons ?_ ?_
  ·rintro b a w' ⟨b1, b5, b11, b17, b23, v2, v6, v12, v18, v24, v25, m1_, m5_, m11_, m17_, m23_, m26_, ha, Q_BB, Q_BX, Q_S0, Q_S1, Q_S2, Q_S3, Q_S4, Q_S5, Q_H1, Q_H5, Q_H11, Q_H17, Q_H23, Q_NN, Q_AP5, Q_X1_, Q_X5_, Q_X11_, Q_X17_, Q_X23_, Q_X26_⟩ hb_ hon hoff
   refine ⟨_, rfl, fun K hK => ?_⟩
   have e10 : a.tmps[10]? = some (.int .u8 h.k) := pton_ ha 2 rfl rfl (hon 4 (by kernel_rfl)) rfl
   replace ha := Aside0.mk ha
   have BB := Aside0.mk Q_BB
   have BX := Aside0.mk Q_BX
   refine value_ (w1 := w'.alloc (.cells #[.int .u8 h.k, .int .u8 0] 5)) (v := .slice (some ⟨w'.heap.size, 0, none⟩) 2 2) (by rfl) rfl ?_ ?_
   ·go_simp
    try rfl
   refine hK.out _ _ ⟨b1, w'.heap.size, b11, b17, b23, v2, v6, v12, v18, v24, v25, m1_, (.slice (some ⟨w'.heap.size, 0, none⟩) 2 2), m11_, m17_, m23_, m26_, (ptup_ ha.out 3 hb_ rfl rfl rfl), bl_alloc BB.out _, blk_alloc BX.out _, fun h0_ => WrV.alloc (Q_S0 h0_) _, fun h0_ h1_ => WrV.alloc (Q_S1 h0_ h1_) _, fun h0_ _ => off_ (hoff 6 (by kernel_rfl)) h0_, fun h0_ _ => off_ (hoff 12 (by kernel_rfl)) h0_, fun h0_ _ => off_ (hoff 18 (by kernel_rfl)) h0_, fun h0_ _ => off_ (hoff 24 (by kernel_rfl)) h0_, fun h0_ h1_ => blk_alloc (Q_H1 h0_ h1_) _, fun _ _ => heap_alloc_new _ _, fun h0_ h1_ => blk_alloc (Q_H11 h0_ h1_) _, fun h0_ h1_ => blk_alloc (Q_H17 h0_ h1_) _, fun h0_ h1_ => blk_alloc (Q_H23 h0_ h1_) _, off_ (hoff 25 (by kernel_rfl)), fun _ _ _ => (by rename_i h2_ h5_ h6_; exact ap_new (Q_S1 h2_ h6_)), Q_X1_, fun _ => rfl, Q_X11_, Q_X17_, Q_X23_, off_ (hoff 26 (by kernel_rfl))⟩
  refine steps_cons ?_ ?_
  ·rintro b a w' ⟨b1, b5, b11, b17, b23, v2, v6, v12, v18, v24, v25, m1_, m5_, m11_, m17_, m23_, m26_, ha, Q_BB, Q_BX, Q_S0, Q_S1, Q_S2, Q_S3, Q_S4, Q_S5, Q_H1, Q_H5, Q_H11, Q_H17, Q_H23, Q_NN, Q_AP5, Q_X1_, Q_X5_, Q_X11_, Q_X17_, Q_X23_, Q_X26_⟩ hb_ hon hoff
   refine ⟨_, rfl, fun K hK => ?_⟩
   have e8 : a.tmps[8]? = some (.pointer (some ⟨w.heap.size + 1, 0, none⟩)) := pton_ ha 1 rfl rfl (hon 2 (by kernel_rfl)) rfl
   have e11 : a.tmps[11]? = some (m5_) := pton_ ha 3 rfl rfl (hon 5 (by kernel_rfl)) rfl
   rw [Q_X5_ (hon 5 (by kernel_rfl))] at e11
   replace ha := Aside0.mk ha
   have BB := Aside0.mk Q_BB
   have BX := Aside0.mk Q_BX
   have S1 := Aside0.mk (Q_S1 (hon 2 (by kernel_rfl)) hb_)
   have H5 := Aside0.mk (Q_H5 (hon 5 (by kernel_rfl)) hb_)
   have AP5 := Aside0.mk (Q_AP5 (hon 2 (by kernel_rfl)) (hon 5 (by kernel_rfl)) hb_)
   refine goes_ Try.func57 (by kernel_rfl) rfl #[.pointer (some ⟨w.heap.size + 1, 0, none⟩), .slice (some ⟨b5, 0, none⟩) 2 2] (by rfl) rfl rfl (by first | (simp only [List.map_toArray, List.map_cons, List.map_nil, Act.eval, Array.getD_eq_getD_getElem?, Option.getD_some, e8, e11]; done) | (simp only [List.map_toArray, List.map_cons, List.map_nil, Act.eval, Array.getD_eq_getD_getElem?, Option.getD_some, e8, e11]; rfl)) ?_
   refine (U8_any w.heap.size (w.heap.size + 1) v2 ([] ++ les 2 [22356]) [h.k, 0] _ 2 w' S1.out (by omega) (by have h_ := S1.out.lt; omega) (reads_cells H5.out rfl (by simp) rfl) hb1.out (S1.out.apartA H5.out (by decide) AP5.out 0 2) (by simp [le_length, les_length])).mono ?_
   rintro e w1 ⟨rfl, v_, g1, g2, g3, g4⟩
   refine ⟨_, rfl, ?_⟩
   refine hK.out _ _ ⟨b1, b5, b11, b17, b23, v2, v_, v12, v18, v24, v25, m1_, m5_, m11_, m17_, m23_, m26_, (ptup_ ha.out 4 hb_ rfl rfl rfl), BB.out.trans g4, S1.out.hold g2 BX.out (by decide) (by decide), fun h0_ => absurd ((hon 2 (by kernel_rfl)).symm.trans h0_) (by decide), fun _ h1_ => absurd ((up_self b 6).symm.trans h1_) (by decide), fun _ _ => g1, fun h0_ _ => off_ (hoff 12 (by kernel_rfl)) h0_, fun h0_ _ => off_ (hoff 18 (by kernel_rfl)) h0_, fun h0_ _ => off_ (hoff 24 (by kernel_rfl)) h0_, fun _ h1_ => absurd ((hon 2 (by kernel_rfl)).symm.trans h1_) (by decide), fun _ h1_ => absurd ((up_self b 6).symm.trans h1_) (by decide), fun h0_ h1_ => S1.out.hold g2 (Q_H11 h0_ h1_) (by decide) (by decide), fun h0_ h1_ => S1.out.hold g2 (Q_H17 h0_ h1_) (by decide) (by decide), fun h0_ h1_ => S1.out.hold g2 (Q_H23 h0_ h1_) (by decide) (by decide), off_ (hoff 25 (by kernel_rfl)), fun _ _ h2_ => absurd ((up_self b 6).symm.trans h2_) (by decide), Q_X1_, Q_X5_, Q_X11_, Q_X17_, Q_X23_, off_ (hoff 26 (by kernel_rfl))⟩
  refine steps_cons ?_ ?_
  ·rintro b a w' ⟨b1, b5, b11, b17, b23, v2, v6, v12, v18, v24, v25, m1_, m5_, m11_, m17_, m23_, m26_, ha, Q_BB, Q_BX, Q_S0, Q_S1, Q_S2, Q_S3, Q_S4, Q_S5, Q_H1, Q_H5, Q_H11, Q_H17, Q_H23, Q_NN, Q_AP5, Q_X1_, Q_X5_, Q_X11_, Q_X17_, Q_X23_, Q_X26_⟩ hb_ hon hoff
   refine ⟨_, rfl, fun K hK => ?_⟩
   have e13 : a.tmps[13]? = some (.pointer (some ⟨w.heap.size, 1, none⟩)) := by rw [ha]; exact (putSel_off rfl).trans rfl
   replace ha := Aside0.mk ha
   have BB := Aside0.mk Q_BB
   have BX := Aside0.mk Q_BX
   have hc_ : w'.cell? ⟨w.heap.size, 1, none⟩ = some (.int .u32 h.e) := (blk_cell BX.out 1).trans rfl
   refine value_ (w1 := w') (v := .int .u32 h.e) (by rfl) rfl ?_ ?_
   ·go_simp
    (try simp only [i64_w])
    try rfl
   refine hK.out _ _ ⟨b1, b5, b11, b17, b23, v2, v6, v12, v18, v24, v25, m1_, m5_, m11_, m17_, m23_, m26_, (ptup_ ha.out 5 hb_ rfl rfl rfl), Q_BB, Q_BX, Q_S0, Q_S1, Q_S2, fun h0_ _ => off_ (hoff 12 (by kernel_rfl)) h0_, fun h0_ _ => off_ (hoff 18 (by kernel_rfl)) h0_, fun h0_ _ => off_ (hoff 24 (by kernel_rfl)) h0_, Q_H1, Q_H5, fun h0_ _ => off_ (hoff 11 (by kernel_rfl)) h0_, Q_H17, Q_H23, off_ (hoff 25 (by kernel_rfl)), Q_AP5, Q_X1_, Q_X5_, off_ (hoff 11 (by kernel_rfl)), Q_X17_, Q_X23_, off_ (hoff 26 (by kernel_rfl))⟩
  refine steps_cons ?_ ?_
  ·rintro b a w' ⟨b1, b5, b11, b17, b23, v2, v6, v12, v18, v24, v25, m1_, m5_, m11_, m17_, m23_, m26_, ha, Q_BB, Q_BX, Q_S0, Q_S1, Q_S2, Q_S3, Q_S4, Q_S5, Q_H1, Q_H5, Q_H11, Q_H17, Q_H23, Q_NN, Q_AP5, Q_X1_, Q_X5_, Q_X11_, Q_X17_, Q_X23_, Q_X26_⟩ hb_ hon hoff
   refine ⟨_, rfl, fun K hK => ?_⟩
   have e15 : a.tmps[15]? = some (.pointer (some ⟨w.heap.size, 2, none⟩)) := by rw [ha]; exact (putSel_off rfl).trans rfl
   replace ha := Aside0.mk ha
   have BB := Aside0.mk Q_BB
   have BX := Aside0.mk Q_BX
   have hc_ : w'.cell? ⟨w.heap.size, 2, none⟩ = some (.int .u32 h.b) := (blk_cell BX.out 2).trans rfl
   refine value_ (w1 := w') (v := .int .u32 h.b) (by rfl) rfl ?_ ?_
   ·go_simp
    (try simp only [i64_w])
    try rfl
   refine hK.out _ _ ⟨b1, b5, b11, b17, b23, v2, v6, v12, v18, v24, v25, m1_, m5_, m11_, m17_, m23_, m26_, (ptup_ ha.out 6 hb_ rfl rfl rfl), Q_BB, Q_BX, Q_S0, Q_S1, Q_S2, fun h0_ _ => off_ (hoff 12 (by kernel_rfl)) h0_, fun h0_ _ => off_ (hoff 18 (by kernel_rfl)) h0_, fun h0_ _ => off_ (hoff 24 (by kernel_rfl)) h0_, Q_H1, Q_H5, fun h0_ _ => off_ (hoff 11 (by kernel_rfl)) h0_, Q_H17, Q_H23, off_ (hoff 25 (by kernel_rfl)), Q_AP5, Q_X1_, Q_X5_, off_ (hoff 11 (by kernel_rfl)), Q_X17_, Q_X23_, off_ (hoff 26 (by kernel_rfl))⟩
  refine steps_cons ?_ ?_
  ·rintro b a w' ⟨b1, b5, b11, b17, b23, v2, v6, v12, v18, v24, v25, m1_, m5_, m11_, m17_, m23_, m26_, ha, Q_BB, Q_BX, Q_S0, Q_S1, Q_S2, Q_S3, Q_S4, Q_S5, Q_H1, Q_H5, Q_H11, Q_H17, Q_H23, Q_NN, Q_AP5, Q_X1_, Q_X5_, Q_X11_, Q_X17_, Q_X23_, Q_X26_⟩ hb_ hon hoff
   refine ⟨_, rfl, fun K hK => ?_⟩
   have e14 : a.tmps[14]? = some (.int .u32 h.e) := pton_ ha 5 rfl rfl (hon 8 (by kernel_rfl)) rfl
   have e16 : a.tmps[16]? = some (.int .u32 h.b) := pton_ ha 6 rfl rfl (hon 10 (by kernel_rfl)) rfl
   replace ha := Aside0.mk ha
   have BB := Aside0.mk Q_BB
   have BX := Aside0.mk Q_BX
   refine value_ (w1 := w'.alloc (.cells #[.int .u32 h.e, .int .u32 h.b] 23)) (v := .slice (some ⟨w'.heap.size, 0, none⟩) 2 2) (by rfl) rfl ?_ ?_
   ·go_simp
    try rfl
   refine hK.out _ _ ⟨b1, b5, w'.heap.size, b17, b23, v2, v6, v12, v18, v24, v25, m1_, m5_, (.slice (some ⟨w'.heap.size, 0, none⟩) 2 2), m17_, m23_, m26_, (ptup_ ha.out 7 hb_ rfl rfl rfl), bl_alloc BB.out _, blk_alloc BX.out _, fun h0_ => WrV.alloc (Q_S0 h0_) _, fun h0_ h1_ => WrV.alloc (Q_S1 h0_ h1_) _, fun h0_ h1_ => WrV.alloc (Q_S2 h0_ h1_) _, fun h0_ _ => off_ (hoff 12 (by kernel_rfl)) h0_, fun h0_ _ => off_ (hoff 18 (by kernel_rfl)) h0_, fun h0_ _ => off_ (hoff 24 (by kernel_rfl)) h0_, fun h0_ h1_ => blk_alloc (Q_H1 h0_ h1_) _, fun h0_ h1_ => blk_alloc (Q_H5 h0_ h1_) _, fun _ _ => heap_alloc_new _ _, fun h0_ h1_ => blk_alloc (Q_H17 h0_ h1_) _, fun h0_ h1_ => blk_alloc (Q_H23 h0_ h1_) _, off_ (hoff 25 (by kernel_rfl)), Q_AP5, Q_X1_, Q_X5_, fun _ => rfl, Q_X17_, Q_X23_, off_ (hoff 26 (by kernel_rfl))⟩
  refine steps_cons ?_ ?_
  ·rintro b a w' ⟨b1, b5, b11, b17, b23, v2, v6, v12, v18, v24, v25, m1_, m5_, m11_, m17_, m23_, m26_, ha, Q_BB, Q_BX, Q_S0, Q_S1, Q_S2, Q_S3, Q_S4, Q_S5, Q_H1, Q_H5, Q_H11, Q_H17, Q_H23, Q_NN, Q_AP5, Q_X1_, Q_X5_, Q_X11_, Q_X17_, Q_X23_, Q_X26_⟩ hb_ hon hoff
   refine ⟨_, rfl, fun K hK => ?_⟩
   have e12 : a.tmps[12]? = some (.pointer (some ⟨w.heap.size + 1, 0, none⟩)) := pton_ ha 4 rfl rfl (hon 6 (by kernel_rfl)) rfl
   have e17 : a.tmps[17]? = some (m11_) := pton_ ha 7 rfl rfl (hon 11 (by kernel_rfl)) rfl
   rw [Q_X11_ (hon 11 (by kernel_rfl))] at e17
   replace ha := Aside0.mk ha
   have BB := Aside0.mk Q_BB
   have BX := Aside0.mk Q_BX
   have S2 := Aside0.mk (Q_S2 (hon 6 (by kernel_rfl)) hb_)
   have H11 := Aside0.mk (Q_H11 (hon 11 (by kernel_rfl)) hb_)
   refine goes_ Try.func7 (by kernel_rfl) rfl #[.pointer (some ⟨w.heap.size + 1, 0, none⟩), .slice (some ⟨b11, 0, none⟩) 2 2] (by rfl) rfl rfl (by first | (simp only [List.map_toArray, List.map_cons, List.map_nil, Act.eval, Array.getD_eq_getD_getElem?, Option.getD_some, e12, e17]; done) | (simp only [List.map_toArray, List.map_cons, List.map_nil, Act.eval, Array.getD_eq_getD_getElem?, Option.getD_some, e12, e17]; rfl)) ?_
   refine (U32_any w.heap.size (w.heap.size + 1) v6 (([] ++ les 2 [22356]) ++ les 1 [h.k, 0]) [h.e, h.b] _ 2 w' S2.out (by omega) (by have h_ := S2.out.lt; omega) (reads_cells H11.out rfl (by simp) rfl) hb2.out (S2.out.apart H11.out (by decide) (by decide) 0 2) (by simp [le_length, les_length])).mono ?_
   rintro e w1 ⟨rfl, v_, g1, g2, g3, g4⟩
   refine ⟨_, rfl, ?_⟩
   refine hK.out _ _ ⟨b1, b5, b11, b17, b23, v2, v6, v_, v18, v24, v25, m1_, m5_, m11_, m17_, m23_, m26_, (ptup_ ha.out 8 hb_ rfl rfl rfl), BB.out.trans g4, S2.out.hold g2 BX.out (by decide) (by decide), fun h0_ => absurd ((hon 2 (by kernel_rfl)).symm.trans h0_) (by decide), fun _ h1_ => absurd ((hon 6 (by kernel_rfl)).symm.trans h1_) (by decide), fun _ h1_ => absurd ((up_self b 12).symm.trans h1_) (by decide), fun _ _ => g1, fun h0_ _ => off_ (hoff 18 (by kernel_rfl)) h0_, fun h0_ _ => off_ (hoff 24 (by kernel_rfl)) h0_, fun _ h1_ => absurd ((hon 2 (by kernel_rfl)).symm.trans h1_) (by decide), fun _ h1_ => absurd ((hon 6 (by kernel_rfl)).symm.trans h1_) (by decide), fun _ h1_ => absurd ((up_self b 12).symm.trans h1_) (by decide), fun h0_ h1_ => S2.out.hold g2 (Q_H17 h0_ h1_) (by decide) (by decide), fun h0_ h1_ => S2.out.hold g2 (Q_H23 h0_ h1_) (by decide) (by decide), off_ (hoff 25 (by kernel_rfl)), fun _ _ h2_ => absurd ((hon 6 (by kernel_rfl)).symm.trans h2_) (by decide), Q_X1_, Q_X5_, Q_X11_, Q_X17_, Q_X23_, off_ (hoff 26 (by kernel_rfl))⟩
  refine steps_cons ?_ ?_
  ·rintro b a w' ⟨b1, b5, b11, b17, b23, v2, v6, v12, v18, v24, v25, m1_, m5_, m11_, m17_, m23_, m26_, ha, Q_BB, Q_BX, Q_S0, Q_S1, Q_S2, Q_S3, Q_S4, Q_S5, Q_H1, Q_H5, Q_H11, Q_H17, Q_H23, Q_NN, Q_AP5, Q_X1_, Q_X5_, Q_X11_, Q_X17_, Q_X23_, Q_X26_⟩ hb_ hon hoff
   refine ⟨_, rfl, fun K hK => ?_⟩
   have e19 : a.tmps[19]? = some (.pointer (some ⟨w.heap.size, 3, none⟩)) := by rw [ha]; exact (putSel_off rfl).trans rfl
   replace ha := Aside0.mk ha
   have BB := Aside0.mk Q_BB
   have BX := Aside0.mk Q_BX
   have hc_ : w'.cell? ⟨w.heap.size, 3, none⟩ = some (.int .u16 h.i) := (blk_cell BX.out 3).trans rfl
   refine value_ (w1 := w') (v := .int .u16 h.i) (by rfl) rfl ?_ ?_
   ·go_simp
    (try simp only [i64_w])
    try rfl
   refine hK.out _ _ ⟨b1, b5, b11, b17, b23, v2, v6, v12, v18, v24, v25, m1_, m5_, m11_, m17_, m23_, m26_, (ptup_ ha.out 9 hb_ rfl rfl rfl), Q_BB, Q_BX, Q_S0, Q_S1, Q_S2, Q_S3, fun h0_ _ => off_ (hoff 18 (by kernel_rfl)) h0_, fun h0_ _ => off_ (hoff 24 (by kernel_rfl)) h0_, Q_H1, Q_H5, Q_H11, fun h0_ _ => off_ (hoff 17 (by kernel_rfl)) h0_, Q_H23, off_ (hoff 25 (by kernel_rfl)), Q_AP5, Q_X1_, Q_X5_, Q_X11_, off_ (hoff 17 (by kernel_rfl)), Q_X23_, off_ (hoff 26 (by kernel_rfl))⟩
  refine steps_cons ?_ ?_
  ·rintro b a w' ⟨b1, b5, b11, b17, b23, v2, v6, v12, v18, v24, v25, m1_, m5_, m11_, m17_, m23_, m26_, ha, Q_BB, Q_BX, Q_S0, Q_S1, Q_S2, Q_S3, Q_S4, Q_S5, Q_H1, Q_H5, Q_H11, Q_H17, Q_H23, Q_NN, Q_AP5, Q_X1_, Q_X5_, Q_X11_, Q_X17_, Q_X23_, Q_X26_⟩ hb_ hon hoff
   refine ⟨_, rfl, fun K hK => ?_⟩
   have e21 : a.tmps[21]? = some (.pointer (some ⟨w.heap.size, 4, none⟩)) := by rw [ha]; exact (putSel_off rfl).trans rfl
   replace ha := Aside0.mk ha
   have BB := Aside0.mk Q_BB
   have BX := Aside0.mk Q_BX
   have hc_ : w'.cell? ⟨w.heap.size, 4, none⟩ = some (.int .u16 h.c) := (blk_cell BX.out 4).trans rfl
   refine value_ (w1 := w') (v := .int .u16 h.c) (by rfl) rfl ?_ ?_
   ·go_simp
    (try simp only [i64_w])
    try rfl
   refine hK.out _ _ ⟨b1, b5, b11, b17, b23, v2, v6, v12, v18, v24, v25, m1_, m5_, m11_, m17_, m23_, m26_, (ptup_ ha.out 10 hb_ rfl rfl rfl), Q_BB, Q_BX, Q_S0, Q_S1, Q_S2, Q_S3, fun h0_ _ => off_ (hoff 18 (by kernel_rfl)) h0_, fun h0_ _ => off_ (hoff 24 (by kernel_rfl)) h0_, Q_H1, Q_H5, Q_H11, fun h0_ _ => off_ (hoff 17 (by kernel_rfl)) h0_, Q_H23, off_ (hoff 25 (by kernel_rfl)), Q_AP5, Q_X1_, Q_X5_, Q_X11_, off_ (hoff 17 (by kernel_rfl)), Q_X23_, off_ (hoff 26 (by kernel_rfl))⟩
  refine steps_cons ?_ ?_
  ·rintro b a w' ⟨b1, b5, b11, b17, b23, v2, v6, v12, v18, v24, v25, m1_, m5_, m11_, m17_, m23_, m26_, ha, Q_BB, Q_BX, Q_S0, Q_S1, Q_S2, Q_S3, Q_S4, Q_S5, Q_H1, Q_H5, Q_H11, Q_H17, Q_H23, Q_NN, Q_AP5, Q_X1_, Q_X5_, Q_X11_, Q_X17_, Q_X23_, Q_X26_⟩ hb_ hon hoff
   refine ⟨_, rfl, fun K hK => ?_⟩
   have e20 : a.tmps[20]? = some (.int .u16 h.i) := pton_ ha 9 rfl rfl (hon 14 (by kernel_rfl)) rfl
   have e22 : a.tmps[22]? = some (.int .u16 h.c) := pton_ ha 10 rfl rfl (hon 16 (by kernel_rfl)) rfl
   replace ha := Aside0.mk ha
   have BB := Aside0.mk Q_BB
   have BX := Aside0.mk Q_BX
   refine value_ (w1 := w'.alloc (.cells #[.int .u16 h.i, .int .u16 h.c] 31)) (v := .slice (some ⟨w'.heap.size, 0, none⟩) 2 2) (by rfl) rfl ?_ ?_
   ·go_simp
    try rfl
   refine hK.out _ _ ⟨b1, b5, b11, w'.heap.size, b23, v2, v6, v12, v18, v24, v25, m1_, m5_, m11_, (.slice (some ⟨w'.heap.size, 0, none⟩) 2 2), m23_, m26_, (ptup_ ha.out 11 hb_ rfl rfl rfl), bl_alloc BB.out _, blk_alloc BX.out _, fun h0_ => WrV.alloc (Q_S0 h0_) _, fun h0_ h1_ => WrV.alloc (Q_S1 h0_ h1_) _, fun h0_ h1_ => WrV.alloc (Q_S2 h0_ h1_) _, fun h0_ h1_ => WrV.alloc (Q_S3 h0_ h1_) _, fun h0_ _ => off_ (hoff 18 (by kernel_rfl)) h0_, fun h0_ _ => off_ (hoff 24 (by kernel_rfl)) h0_, fun h0_ h1_ => blk_alloc (Q_H1 h0_ h1_) _, fun h0_ h1_ => blk_alloc (Q_H5 h0_ h1_) _, fun h0_ h1_ => blk_alloc (Q_H11 h0_ h1_) _, fun _ _ => heap_alloc_new _ _, fun h0_ h1_ => blk_alloc (Q_H23 h0_ h1_) _, off_ (hoff 25 (by kernel_rfl)), Q_AP5, Q_X1_, Q_X5_, Q_X11_, fun _ => rfl, Q_X23_, off_ (hoff 26 (by kernel_rfl))⟩
  refine steps_cons ?_ ?_
  ·rintro b a w' ⟨b1, b5, b11, b17, b23, v2, v6, v12, v18, v24, v25, m1_, m5_, m11_, m17_, m23_, m26_, ha, Q_BB, Q_BX, Q_S0, Q_S1, Q_S2, Q_S3, Q_S4, Q_S5, Q_H1, Q_H5, Q_H11, Q_H17, Q_H23, Q_NN, Q_AP5, Q_X1_, Q_X5_, Q_X11_, Q_X17_, Q_X23_, Q_X26_⟩ hb_ hon hoff
   refine ⟨_, rfl, fun K hK => ?_⟩
   have e18 : a.tmps[18]? = some (.pointer (some ⟨w.heap.size + 1, 0, none⟩)) := pton_ ha 8 rfl rfl (hon 12 (by kernel_rfl)) rfl
   have e23 : a.tmps[23]? = some (m17_) := pton_ ha 11 rfl rfl (hon 17 (by kernel_rfl)) rfl
   rw [Q_X17_ (hon 17 (by kernel_rfl))] at e23
   replace ha := Aside0.mk ha
   have BB := Aside0.mk Q_BB
   have BX := Aside0.mk Q_BX
   have S3 := Aside0.mk (Q_S3 (hon 12 (by kernel_rfl)) hb_)
   have H17 := Aside0.mk (Q_H17 (hon 17 (by kernel_rfl)) hb_)
   refine goes_ Try.func5 (by kernel_rfl) rfl #[.pointer (some ⟨w.heap.size + 1, 0, none⟩), .slice (some ⟨b17, 0, none⟩) 2 2] (by rfl) rfl rfl (by first | (simp only [List.map_toArray, List.map_cons, List.map_nil, Act.eval, Array.getD_eq_getD_getElem?, Option.getD_some, e18, e23]; done) | (simp only [List.map_toArray, List.map_cons, List.map_nil, Act.eval, Array.getD_eq_getD_getElem?, Option.getD_some, e18, e23]; rfl)) ?_
   refine (U16_any w.heap.size (w.heap.size + 1) v12 ((([] ++ les 2 [22356]) ++ les 1 [h.k, 0]) ++ les 4 [h.e, h.b]) [h.i, h.c] _ 2 w' S3.out (by omega) (by have h_ := S3.out.lt; omega) (reads_cells H17.out rfl (by simp) rfl) hb3.out (S3.out.apart H17.out (by decide) (by decide) 0 2) (by simp [le_length, les_length])).mono ?_
   rintro e w1 ⟨rfl, v_, g1, g2, g3, g4⟩
   refine ⟨_, rfl, ?_⟩
   refine hK.out _ _ ⟨b1, b5, b11, b17, b23, v2, v6, v12, v_, v24, v25, m1_, m5_, m11_, m17_, m23_, m26_, (ptup_ ha.out 12 hb_ rfl rfl rfl), BB.out.trans g4, S3.out.hold g2 BX.out (by decide) (by decide), fun h0_ => absurd ((hon 2 (by kernel_rfl)).symm.trans h0_) (by decide), fun _ h1_ => absurd ((hon 6 (by kernel_rfl)).symm.trans h1_) (by decide), fun _ h1_ => absurd ((hon 12 (by kernel_rfl)).symm.trans h1_) (by decide), fun _ h1_ => absurd ((up_self b 18).symm.trans h1_) (by decide), fun _ _ => g1, fun h0_ _ => off_ (hoff 24 (by kernel_rfl)) h0_, fun _ h1_ => absurd ((hon 2 (by kernel_rfl)).symm.trans h1_) (by decide), fun _ h1_ => absurd ((hon 6 (by kernel_rfl)).symm.trans h1_) (by decide), fun _ h1_ => absurd ((hon 12 (by kernel_rfl)).symm.trans h1_) (by decide), fun _ h1_ => absurd ((up_self b 18).symm.trans h1_) (by decide), fun h0_ h1_ => S3.out.hold g2 (Q_H23 h0_ h1_) (by decide) (by decide), off_ (hoff 25 (by kernel_rfl)), fun _ _ h2_ => absurd ((hon 6 (by kernel_rfl)).symm.trans h2_) (by decide), Q_X1_, Q_X5_, Q_X11_, Q_X17_, Q_X23_, off_ (hoff 26 (by kernel_rfl))⟩
  refine steps_cons ?_ ?_
  ·rintro b a w' ⟨b1, b5, b11, b17, b23, v2, v6, v12, v18, v24, v25, m1_, m5_, m11_, m17_, m23_, m26_, ha, Q_BB, Q_BX, Q_S0, Q_S1, Q_S2, Q_S3, Q_S4, Q_S5, Q_H1, Q_H5, Q_H11, Q_H17, Q_H23, Q_NN, Q_AP5, Q_X1_, Q_X5_, Q_X11_, Q_X17_, Q_X23_, Q_X26_⟩ hb_ hon hoff
   refine ⟨_, rfl, fun K hK => ?_⟩
   have e25 : a.tmps[25]? = some (.pointer (some ⟨w.heap.size, 5, none⟩)) := by rw [ha]; exact (putSel_off rfl).trans rfl
   replace ha := Aside0.mk ha
   have BB := Aside0.mk Q_BB
   have BX := Aside0.mk Q_BX
   have hc_ : w'.cell? ⟨w.heap.size, 5, none⟩ = some (.int .u32 h.l) := (blk_cell BX.out 5).trans rfl
   refine value_ (w1 := w') (v := .int .u32 h.l) (by rfl) rfl ?_ ?_
   ·go_simp
    (try simp only [i64_w])
    try rfl
   refine hK.out _ _ ⟨b1, b5, b11, b17, b23, v2, v6, v12, v18, v24, v25, m1_, m5_, m11_, m17_, m23_, m26_, (ptup_ ha.out 13 hb_ rfl rfl rfl), Q_BB, Q_BX, Q_S0, Q_S1, Q_S2, Q_S3, Q_S4, fun h0_ _ => off_ (hoff 24 (by kernel_rfl)) h0_, Q_H1, Q_H5, Q_H11, Q_H17, fun h0_ _ => off_ (hoff 23 (by kernel_rfl)) h0_, off_ (hoff 25 (by kernel_rfl)), Q_AP5, Q_X1_, Q_X5_, Q_X11_, Q_X17_, off_ (hoff 23 (by kernel_rfl)), off_ (hoff 26 (by kernel_rfl))⟩
  refine steps_cons ?_ ?_
  ·rintro b a w' ⟨b1, b5, b11, b17, b23, v2, v6, v12, v18, v24, v25, m1_, m5_, m11_, m17_, m23_, m26_, ha, Q_BB, Q_BX, Q_S0, Q_S1, Q_S2, Q_S3, Q_S4, Q_S5, Q_H1, Q_H5, Q_H11, Q_H17, Q_H23, Q_NN, Q_AP5, Q_X1_, Q_X5_, Q_X11_, Q_X17_, Q_X23_, Q_X26_⟩ hb_ hon hoff
   refine ⟨_, rfl, fun K hK => ?_⟩
   have e27 : a.tmps[27]? = some (.pointer (some ⟨w.heap.size, 6, none⟩)) := by rw [ha]; exact (putSel_off rfl).trans rfl
   replace ha := Aside0.mk ha
   have BB := Aside0.mk Q_BB
   have BX := Aside0.mk Q_BX
   have hc_ : w'.cell? ⟨w.heap.size, 6, none⟩ = some (.int .u32 h.m) := (blk_cell BX.out 6).trans rfl
   refine value_ (w1 := w') (v := .int .u32 h.m) (by rfl) rfl ?_ ?_
   ·go_simp
    (try simp only [i64_w])
    try rfl
   refine hK.out _ _ ⟨b1, b5, b11, b17, b23, v2, v6, v12, v18, v24, v25, m1_, m5_, m11_, m17_, m23_, m26_, (ptup_ ha.out 14 hb_ rfl rfl rfl), Q_BB, Q_BX, Q_S0, Q_S1, Q_S2, Q_S3, Q_S4, fun h0_ _ => off_ (hoff 24 (by kernel_rfl)) h0_, Q_H1, Q_H5, Q_H11, Q_H17, fun h0_ _ => off_ (hoff 23 (by kernel_rfl)) h0_, off_ (hoff 25 (by kernel_rfl)), Q_AP5, Q_X1_, Q_X5_, Q_X11_, Q_X17_, off_ (hoff 23 (by kernel_rfl)), off_ (hoff 26 (by kernel_rfl))⟩
  refine steps_cons ?_ ?_
  ·rintro b a w' ⟨b1, b5, b11, b17, b23, v2, v6, v12, v18, v24, v25, m1_, m5_, m11_, m17_, m23_, m26_, ha, Q_BB, Q_BX, Q_S0, Q_S1, Q_S2, Q_S3, Q_S4, Q_S5, Q_H1, Q_H5, Q_H11, Q_H17, Q_H23, Q_NN, Q_AP5, Q_X1_, Q_X5_, Q_X11_, Q_X17_, Q_X23_, Q_X26_⟩ hb_ hon hoff
   refine ⟨_, rfl, fun K hK => ?_⟩
   have e26 : a.tmps[26]? = some (.int .u32 h.l) := pton_ ha 13 rfl rfl (hon 20 (by kernel_rfl)) rfl
   have e28 : a.tmps[28]? = some (.int .u32 h.m) := pton_ ha 14 rfl rfl (hon 22 (by kernel_rfl)) rfl
   replace ha := Aside0.mk ha
   have BB := Aside0.mk Q_BB
   have BX := Aside0.mk Q_BX
   refine value_ (w1 := w'.alloc (.cells #[.int .u32 h.l, .int .u32 h.m] 23)) (v := .slice (some ⟨w'.heap.size, 0, none⟩) 2 2) (by rfl) rfl ?_ ?_
   ·go_simp
    try rfl
   refine hK.out _ _ ⟨b1, b5, b11, b17, w'.heap.size, v2, v6, v12, v18, v24, v25, m1_, m5_, m11_, m17_, (.slice (some ⟨w'.heap.size, 0, none⟩) 2 2), m26_, (ptup_ ha.out 15 hb_ rfl rfl rfl), bl_alloc BB.out _, blk_alloc BX.out _, fun h0_ => WrV.alloc (Q_S0 h0_) _, fun h0_ h1_ => WrV.alloc (Q_S1 h0_ h1_) _, fun h0_ h1_ => WrV.alloc (Q_S2 h0_ h1_) _, fun h0_ h1_ => WrV.alloc (Q_S3 h0_ h1_) _, fun h0_ h1_ => WrV.alloc (Q_S4 h0_ h1_) _, fun h0_ _ => off_ (hoff 24 (by kernel_rfl)) h0_, fun h0_ h1_ => blk_alloc (Q_H1 h0_ h1_) _, fun h0_ h1_ => blk_alloc (Q_H5 h0_ h1_) _, fun h0_ h1_ => blk_alloc (Q_H11 h0_ h1_) _, fun h0_ h1_ => blk_alloc (Q_H17 h0_ h1_) _, fun _ _ => heap_alloc_new _ _, off_ (hoff 25 (by kernel_rfl)), Q_AP5, Q_X1_, Q_X5_, Q_X11_, Q_X17_, fun _ => rfl, off_ (hoff 26 (by kernel_rfl))⟩
  refine steps_cons ?_ ?_
  ·rintro b a w' ⟨b1, b5, b11, b17, b23, v2, v6, v12, v18, v24, v25, m1_, m5_, m11_, m17_, m23_, m26_, ha, Q_BB, Q_BX, Q_S0, Q_S1, Q_S2, Q_S3, Q_S4, Q_S5, Q_H1, Q_H5, Q_H11, Q_H17, Q_H23, Q_NN, Q_AP5, Q_X1_, Q_X5_, Q_X11_, Q_X17_, Q_X23_, Q_X26_⟩ hb_ hon hoff
   refine ⟨_, rfl, fun K hK => ?_⟩
   have e24 : a.tmps[24]? = some (.pointer (some ⟨w.heap.size + 1, 0, none⟩)) := pton_ ha 12 rfl rfl (hon 18 (by kernel_rfl)) rfl
   have e29 : a.tmps[29]? = some (m23_) := pton_ ha 15 rfl rfl (hon 23 (by kernel_rfl)) rfl
   rw [Q_X23_ (hon 23 (by kernel_rfl))] at e29
   replace ha := Aside0.mk ha
   have BB := Aside0.mk Q_BB
   have BX := Aside0.mk Q_BX
   have S4 := Aside0.mk (Q_S4 (hon 18 (by kernel_rfl)) hb_)
   have H23 := Aside0.mk (Q_H23 (hon 23 (by kernel_rfl)) hb_)
   refine goes_ Try.func7 (by kernel_rfl) rfl #[.pointer (some ⟨w.heap.size + 1, 0, none⟩), .slice (some ⟨b23, 0, none⟩) 2 2] (by rfl) rfl rfl (by first | (simp only [List.map_toArray, List.map_cons, List.map_nil, Act.eval, Array.getD_eq_getD_getElem?, Option.getD_some, e24, e29]; done) | (simp only [List.map_toArray, List.map_cons, List.map_nil, Act.eval, Array.getD_eq_getD_getElem?, Option.getD_some, e24, e29]; rfl)) ?_
   refine (U32_any w.heap.size (w.heap.size + 1) v18 (((([] ++ les 2 [22356]) ++ les 1 [h.k, 0]) ++ les 4 [h.e, h.b]) ++ les 2 [h.i, h.c]) [h.l, h.m] _ 2 w' S4.out (by omega) (by have h_ := S4.out.lt; omega) (reads_cells H23.out rfl (by simp) rfl) hb4.out (S4.out.apart H23.out (by decide) (by decide) 0 2) (by simp [le_length, les_length])).mono ?_
   rintro e w1 ⟨rfl, v_, g1, g2, g3, g4⟩
   refine ⟨_, rfl, ?_⟩
   refine hK.out _ _ ⟨b1, b5, b11, b17, b23, v2, v6, v12, v18, v_, v25, m1_, m5_, m11_, m17_, m23_, m26_, (ptup_ ha.out 16 hb_ rfl rfl rfl), BB.out.trans g4, S4.out.hold g2 BX.out (by decide) (by decide), fun h0_ => absurd ((hon 2 (by kernel_rfl)).symm.trans h0_) (by decide), fun _ h1_ => absurd ((hon 6 (by kernel_rfl)).symm.trans h1_) (by decide), fun _ h1_ => absurd ((hon 12 (by kernel_rfl)).symm.trans h1_) (by decide), fun _ h1_ => absurd ((hon 18 (by kernel_rfl)).symm.trans h1_) (by decide), fun _ h1_ => absurd ((up_self b 24).symm.trans h1_) (by decide), fun _ _ => g1, fun _ h1_ => absurd ((hon 2 (by kernel_rfl)).symm.trans h1_) (by decide), fun _ h1_ => absurd ((hon 6 (by kernel_rfl)).symm.trans h1_) (by decide), fun _ h1_ => absurd ((hon 12 (by kernel_rfl)).symm.trans h1_) (by decide), fun _ h1_ => absurd ((hon 18 (by kernel_rfl)).symm.trans h1_) (by decide), fun _ h1_ => absurd ((up_self b 24).symm.trans h1_) (by decide), off_ (hoff 25 (by kernel_rfl)), fun _ _ h2_ => absurd ((hon 6 (by kernel_rfl)).symm.trans h2_) (by decide), Q_X1_, Q_X5_, Q_X11_, Q_X17_, Q_X23_, off_ (hoff 26 (by kernel_rfl))⟩
  refine steps_cons ?_ ?_
  ·rintro b a w' ⟨b1, b5, b11, b17, b23, v2, v6, v12, v18, v24, v25, m1_, m5_, m11_, m17_, m23_, m26_, ha, Q_BB, Q_BX, Q_S0, Q_S1, Q_S2, Q_S3, Q_S4, Q_S5, Q_H1, Q_H5, Q_H11, Q_H17, Q_H23, Q_NN, Q_AP5, Q_X1_, Q_X5_, Q_X11_, Q_X17_, Q_X23_, Q_X26_⟩ hb_ hon hoff
   refine ⟨_, rfl, fun K hK => ?_⟩
   have e30 : a.tmps[30]? = some (.pointer (some ⟨w.heap.size + 1, 0, none⟩)) := pton_ ha 16 rfl rfl (hon 24 (by kernel_rfl)) rfl
   replace ha := Aside0.mk ha
   have BB := Aside0.mk Q_BB
   have BX := Aside0.mk Q_BX
   have S5 := Aside0.mk (Q_S5 (hon 24 (by kernel_rfl)) hb_)
   refine goes_ Try.func6 (by kernel_rfl) rfl #[.pointer (some ⟨w.heap.size + 1, 0, none⟩)] (by rfl) rfl rfl (by first | (simp only [List.map_toArray, List.map_cons, List.map_nil, Act.eval, Array.getD_eq_getD_getElem?, Option.getD_some, e30]; done) | (simp only [List.map_toArray, List.map_cons, List.map_nil, Act.eval, Array.getD_eq_getD_getElem?, Option.getD_some, e30]; rfl)) ?_
   refine (Bytes_any w.heap.size (w.heap.size + 1) v24 ((((([] ++ les 2 [22356]) ++ les 1 [h.k, 0]) ++ les 4 [h.e, h.b]) ++ les 2 [h.i, h.c]) ++ les 4 [h.l, h.m]) w' S5.out (by simp [le_length, les_length])).mono ?_
   rintro e w1 ⟨v_, rfl, g1, g2⟩
   refine ⟨_, rfl, ?_⟩
   refine hK.out _ _ ⟨b1, b5, b11, b17, b23, v2, v6, v12, v18, v24, v_, m1_, m5_, m11_, m17_, m23_, m26_, (ptup_ ha.out 17 hb_ rfl rfl rfl), bl_seq BB.out g2, blk_below BX.out g2, fun h0_ => absurd ((hon 2 (by kernel_rfl)).symm.trans h0_) (by decide), fun _ h1_ => absurd ((hon 6 (by kernel_rfl)).symm.trans h1_) (by decide), fun _ h1_ => absurd ((hon 12 (by kernel_rfl)).symm.trans h1_) (by decide), fun _ h1_ => absurd ((hon 18 (by kernel_rfl)).symm.trans h1_) (by decide), fun _ h1_ => absurd ((hon 24 (by kernel_rfl)).symm.trans h1_) (by decide), fun _ h1_ => absurd ((up_self b 25).symm.trans h1_) (by decide), fun _ h1_ => absurd ((hon 2 (by kernel_rfl)).symm.trans h1_) (by decide), fun _ h1_ => absurd ((hon 6 (by kernel_rfl)).symm.trans h1_) (by decide), fun _ h1_ => absurd ((hon 12 (by kernel_rfl)).symm.trans h1_) (by decide), fun _ h1_ => absurd ((hon 18 (by kernel_rfl)).symm.trans h1_) (by decide), fun _ h1_ => absurd ((hon 24 (by kernel_rfl)).symm.trans h1_) (by decide), fun _ => (by have h_ := own_base g1 BB.out.size; rw [HL.out, fieldsL_length] at h_; exact h_), fun _ _ h2_ => absurd ((hon 6 (by kernel_rfl)).symm.trans h2_) (by decide), Q_X1_, Q_X5_, Q_X11_, Q_X17_, Q_X23_, off_ (hoff 26 (by kernel_rfl))⟩
  refine steps_cons ?_ ?_
  ·rintro b a w' ⟨b1, b5, b11, b17, b23, v2, v6, v12, v18, v24, v25, m1_, m5_, m11_, m17_, m23_, m26_, ha, Q_BB, Q_BX, Q_S0, Q_S1, Q_S2, Q_S3, Q_S4, Q_S5, Q_H1, Q_H5, Q_H11, Q_H17, Q_H23, Q_NN, Q_AP5, Q_X1_, Q_X5_, Q_X11_, Q_X17_, Q_X23_, Q_X26_⟩ hb_ hon hoff
   refine ⟨_, rfl, fun K hK => ?_⟩
   have e31 : a.tmps[31]? = some (v25) := pton_ ha 17 rfl rfl (hon 25 (by kernel_rfl)) rfl
   replace ha := Aside0.mk ha
   have BB := Aside0.mk Q_BB
   have BX := Aside0.mk Q_BX
   have NN := Aside0.mk (Q_NN (hon 25 (by kernel_rfl)))
   refine value_ (w1 := w') (v := v25) (by rfl) rfl ?_ ?_
   ·go_simp
    (try simp only [i64_w])
    try rfl
   refine hK.out _ _ ⟨b1, b5, b11, b17, b23, v2, v6, v12, v18, v24, v25, m1_, m5_, m11_, m17_, m23_, (v25), (ptup_ ha.out 18 hb_ rfl rfl rfl), Q_BB, Q_BX, fun h0_ => absurd ((hon 2 (by kernel_rfl)).symm.trans h0_) (by decide), fun _ h1_ => absurd ((hon 6 (by kernel_rfl)).symm.trans h1_) (by decide), fun _ h1_ => absurd ((hon 12 (by kernel_rfl)).symm.trans h1_) (by decide), fun _ h1_ => absurd ((hon 18 (by kernel_rfl)).symm.trans h1_) (by decide), fun _ h1_ => absurd ((hon 24 (by kernel_rfl)).symm.trans h1_) (by decide), fun _ h1_ => absurd ((hon 25 (by kernel_rfl)).symm.trans h1_) (by decide), fun _ h1_ => absurd ((hon 2 (by kernel_rfl)).symm.trans h1_) (by decide), fun _ h1_ => absurd ((hon 6 (by kernel_rfl)).symm.trans h1_) (by decide), fun _ h1_ => absurd ((hon 12 (by kernel_rfl)).symm.trans h1_) (by decide), fun _ h1_ => absurd ((hon 18 (by kernel_rfl)).symm.trans h1_) (by decide), fun _ h1_ => absurd ((hon 24 (by kernel_rfl)).symm.trans h1_) (by decide), Q_NN, fun _ _ h2_ => absurd ((hon 6 (by kernel_rfl)).symm.trans h2_) (by decide), Q_X1_, Q_X5_, Q_X11_, Q_X17_, Q_X23_, fun _ => rfl⟩
  exact steps_nil
 ·rintro b a w' hall ⟨b1, b5, b11, b17, b23, v2, v6, v12, v18, v24, v25, m1_, m5_, m11_, m17_, m23_, m26_, ha, Q_BB, Q_BX, Q_S0, Q_S1, Q_S2, Q_S3, Q_S4, Q_S5, Q_H1, Q_H5, Q_H11, Q_H17, Q_H23, Q_NN, Q_AP5, Q_X1_, Q_X5_, Q_X11_, Q_X17_, Q_X23_, Q_X26_⟩
  clear BB BX S0
  have hb1_ := hall 1 (by kernel_rfl)
  have hb2_ := hall 2 (by kernel_rfl)
  have hb4_ := hall 4 (by kernel_rfl)
  have hb5_ := hall 5 (by kernel_rfl)
  have hb6_ := hall 6 (by kernel_rfl)
  have hb8_ := hall 8 (by kernel_rfl)
  have hb10_ := hall 10 (by kernel_rfl)
  have hb11_ := hall 11 (by kernel_rfl)
  have hb12_ := hall 12 (by kernel_rfl)
  have hb14_ := hall 14 (by kernel_rfl)
  have hb16_ := hall 16 (by kernel_rfl)
  have hb17_ := hall 17 (by kernel_rfl)
  have hb18_ := hall 18 (by kernel_rfl)
  have hb20_ := hall 20 (by kernel_rfl)
  have hb22_ := hall 22 (by kernel_rfl)
  have hb23_ := hall 23 (by kernel_rfl)
  have hb24_ := hall 24 (by kernel_rfl)
  have hb25_ := hall 25 (by kernel_rfl)
  have hb26_ := hall 26 (by kernel_rfl)
  subst ha
  obtain rfl := Q_X1_ hb1_
  obtain rfl := Q_X5_ hb5_
  obtain rfl := Q_X11_ hb11_
  obtain rfl := Q_X17_ hb17_
  obtain rfl := Q_X23_ hb23_
  obtain rfl := Q_X26_ hb26_
  simp only [putSel, hb1_, hb2_, hb4_, hb5_, hb6_, hb8_, hb10_, hb11_, hb12_, hb14_, hb16_, hb17_, hb18_, hb20_, hb22_, hb23_, hb24_, hb25_, hb26_, if_true, Act.put, List.setIfInBounds_toArray, List.set_cons_zero, List.set_cons_succ]
  have BB := Aside0.mk Q_BB
  clear Q_BB
  have BX := Aside0.mk Q_BX
  clear Q_BX
  clear Q_S0
  clear Q_S1
  clear Q_S2
  clear Q_S3
  clear Q_S4
  clear Q_S5
  clear Q_H1
  clear Q_H5
  clear Q_H11
  clear Q_H17
  clear Q_H23
  have NN := Aside0.mk (Q_NN hb25_)
  clear Q_NN
  clear Q_AP5
  clear hall hb1_ hb2_ hb4_ hb5_ hb6_ hb8_ hb10_ hb11_ hb12_ hb14_ hb16_ hb17_ hb18_ hb20_ hb22_ hb23_ hb24_ hb25_ hb26_
  have HB := Lib.hid BB.out
  have NE := Lib.hid NN.out
  clear BX BB NN hb0 hb1 hb2 hb3 hb4 HL
  go_wp2_with fail
  go_ret
  exact ⟨_, rfl, by rw [fieldsL_length]; exact NE.out, HB.out⟩
end Go.Proofs.Ytffalemndjampaa
