import Derived.Test.YtdcelfoomjahjaaChain
/-! inode.Inode.Encode. -/
set_option linter.unusedVariables false
set_option linter.unusedSimpArgs false
namespace Go.Proofs.Ytdcelfoomjahjaa
open Go.RowKit Go.Proofs.YtdcelfoomjahjaaW.PrintWords Go.Proofs.YtdcelfoomjahjaaW.PrintLast
def EncR.T2 : Bool × List (List Nat × List Nat) := (true, [([], []), ([], []), ([1], [1]), ([2], [2]), ([0, 3], [0, 3]), ([], []), ([5], [5]), ([6], [6]), ([4, 7, 4], [4, 7]), ([], []), ([9], [9]), ([10], [10]), ([8, 11, 8], [8, 11]), ([], []), ([13], [13]), ([12, 14, 12], [12, 14]), ([], []), ([16], [16]), ([], []), ([18], [18]), ([17, 19], [17, 19]), ([15, 20, 15], [15, 20])])
def EncR.B2 : List Nat := [0, 0, 2, 6, 15, 0, 32, 96, 255, 0, 512, 1536, 4095, 0, 8192, 32767, 0, 65536, 0, 262144, 983040, 2097151]
theorem EncR.tab2 : rtab .any (opsOf Try.f15 2) = EncR.T2 := by kernel_rfl
theorem EncR.bits2 : waitsOk EncR.T2.2 EncR.B2 = true := by kernel_rfl
/-- An inode's cells. -/
abbrev inoC (kind links size d0 d1 d2 d3 d4 d5 d6 d7 sg db : Int) : Array Value := #[.int .u8 kind, .int .u16 links, .int .u32 size, .int .u32 d0, .int .u32 d1, .int .u32 d2, .int .u32 d3, .int .u32 d4, .int .u32 d5, .int .u32 d6, .int .u32 d7, .int .u32 sg, .int .u32 db]
/-- An inode's bytes. -/
def inoL (kind links size d0 d1 d2 d3 d4 d5 d6 d7 sg db : Int) : List Int := padL ((((([] ++ les 1 [kind, 0]) ++ les 2 [links]) ++ les 4 [size]) ++ les 4 [d0, d1, d2, d3, d4, d5, d6, d7]) ++ les 4 [sg, db]) 64
theorem own_base {w : World} {B B' : Nat} {e : TypeId} {s n : Nat} {v : Value} {xs : List Value} (h : w.ownsRow B e s v n xs) (hb : B' ≤ B) : w.ownsRow B' e s v n xs := by
  obtain ⟨h1, h2⟩ := h
  refine ⟨h1, ?_⟩
  rcases h2 with h2 | ⟨g, cap, cur, e, hg, r⟩
  · exact .inl h2
  · exact .inr ⟨g, cap, cur, e, Nat.le_trans hb hg, r⟩
set_option maxHeartbeats 4000000 in
set_option maxRecDepth 100000 in
theorem encode_any (kind links size d0 d1 d2 d3 d4 d5 d6 d7 sg db : Int) (w : World) (kind0 : 0 ≤ kind) (kind1 : kind < 256) (links0 : 0 ≤ links) (links1 : links < 65536) (size0 : 0 ≤ size) (size1 : size < 4294967296) (d00 : 0 ≤ d0) (d01 : d0 < 4294967296) (d10 : 0 ≤ d1) (d11 : d1 < 4294967296) (d20 : 0 ≤ d2) (d21 : d2 < 4294967296) (d30 : 0 ≤ d3) (d31 : d3 < 4294967296) (d40 : 0 ≤ d4) (d41 : d4 < 4294967296) (d50 : 0 ≤ d5) (d51 : d5 < 4294967296) (d60 : 0 ≤ d6) (d61 : d6 < 4294967296) (d70 : 0 ≤ d7) (d71 : d7 < 4294967296) (sg0 : 0 ≤ sg) (sg1 : sg < 4294967296) (db0 : 0 ≤ db) (db1 : db < 4294967296) :
    Calls Try.prog 15 #[.agg (inoC kind links size d0 d1 d2 d3 d4 d5 d6 d7 sg db)] w fun e w' => ∃ v, e = .returned v ∧ New w w' v (inoL kind links size d0 d1 d2 d3 d4 d5 d6 d7 sg db) := by
  have hb0 : ∀ x ∈ [kind, (0 : Int)], 0 ≤ x ∧ x < 256 := by simp; omega
  have hb1 : ∀ x ∈ [links], 0 ≤ x ∧ x < 65536 := by simp; omega
  have hb2 : ∀ x ∈ [size], 0 ≤ x ∧ x < 4294967296 := by simp; omega
  have hb3 : ∀ x ∈ [d0, d1, d2, d3, d4, d5, d6, d7], 0 ≤ x ∧ x < 4294967296 := by simp; omega
  have hb4 : ∀ x ∈ [sg, db], 0 ≤ x ∧ x < 4294967296 := by simp; omega
  have hb0 := Lib.hid hb0
  have hb1 := Lib.hid hb1
  have hb2 := Lib.hid hb2
  have hb3 := Lib.hid hb3
  have hb4 := Lib.hid hb4
  clear kind0 kind1 links0 links1 size0 size1 d00 d01 d10 d11 d20 d21 d30 d31 d40 d41 d50 d51 d60 d61 d70 d71 sg0 sg1 db0 db1
  go_enter Try.func15, Try.ntmps15
  go_wp2_with fail
  have BB : Hid (Below w.heap.size w ((w.alloc (.cells (inoC kind links size d0 d1 d2 d3 d4 d5 d6 d7 sg db) 48)).alloc (.cells #[.slice none 0 0] 69))) := Lib.hid (bl_alloc (bl_alloc (Below.refl _ _) _) _)
  have BX : Hid (((w.alloc (.cells (inoC kind links size d0 d1 d2 d3 d4 d5 d6 d7 sg db) 48)).alloc (.cells #[.slice none 0 0] 69)).heap[w.heap.size]? = some (.cells #[.int .u8 kind, .int .u16 links, .int .u32 size, .int .u32 d0, .int .u32 d1, .int .u32 d2, .int .u32 d3, .int .u32 d4, .int .u32 d5, .int .u32 d6, .int .u32 d7, .int .u32 sg, .int .u32 db] 48 (0, 0))) := Lib.hid (blk_alloc (heap_alloc_new _ _) _)
  have S0 : Hid (WrV ((w.alloc (.cells (inoC kind links size d0 d1 d2 d3 d4 d5 d6 d7 sg db) 48)).alloc (.cells #[.slice none 0 0] 69)) w.heap.size (w.heap.size + 1) (.slice none 0 0) []) := Lib.hid (WrV.first _ _ (by have h_ := heap_alloc_new (w.alloc (.cells (inoC kind links size d0 d1 d2 d3 d4 d5 d6 d7 sg db) 48)) (.cells #[.slice none 0 0] 69); simpa using h_) _)
  generalize (w.alloc (.cells (inoC kind links size d0 d1 d2 d3 d4 d5 d6 d7 sg db) 48)).alloc (.cells #[.slice none 0 0] 69) = w0 at BB BX S0 ⊢
  refine start_ (n := 22) (S := fun w' => True) (ds := []) #[false, false, false, false, false, false, false, false, false, false, false, false, false, false, false, false, false, false, false, false, false, false] (by kernel_rfl) rfl rfl trivial (fun hHeld => ?_)
  refine with_tabW EncR.tab2 EncR.bits2 (fun HT_ HW_ => ?_)
  have BB := Lib.hid (bl_drew BB.out)
  have BX := Lib.hid (show w0.drew.heap[w.heap.size]? = _ from BX.out)
  have S0 := Lib.hid S0.out.drew
  generalize w0.drew = w2 at BB BX S0 hHeld ⊢
  refine pure_ (i := 0) (N := some 6) (v := ?_) (a' := ?_) #[true, false, false, false, false, false, false, false, false, false, false, false, false, false, false, false, false, false, false, false, false, false] rfl rfl (any_of HT_.out (by kernel_rfl)) (fun _ _ _ h => h) (Or.inl ⟨by rfl, ?_⟩) ?_ ?_
  rotate_left
  · intro w'
    go_simp
    with_reducible rfl
  rotate_left
  · simp only [Act.put, List.setIfInBounds_toArray, List.set_cons_zero, List.set_cons_succ, i64_w, i32_w]
    rfl
  refine pure_ (i := 1) (N := some 7) (v := ?_) (a' := ?_) #[true, true, false, false, false, false, false, false, false, false, false, false, false, false, false, false, false, false, false, false, false, false] rfl rfl (any_of HT_.out (by kernel_rfl)) (fun _ _ _ h => h) (Or.inl ⟨by rfl, ?_⟩) ?_ ?_
  rotate_left
  · intro w'
    go_simp
    with_reducible rfl
  rotate_left
  · simp only [Act.put, List.setIfInBounds_toArray, List.set_cons_zero, List.set_cons_succ, i64_w, i32_w]
    rfl
  refine pure_ (i := 5) (N := some 11) (v := ?_) (a' := ?_) #[true, true, false, false, false, true, false, false, false, false, false, false, false, false, false, false, false, false, false, false, false, false] rfl rfl (any_of HT_.out (by kernel_rfl)) (fun _ _ _ h => h) (Or.inl ⟨by rfl, ?_⟩) ?_ ?_
  rotate_left
  · intro w'
    go_simp
    with_reducible rfl
  rotate_left
  · simp only [Act.put, List.setIfInBounds_toArray, List.set_cons_zero, List.set_cons_succ, i64_w, i32_w]
    rfl
  refine pure_ (i := 9) (N := some 15) (v := ?_) (a' := ?_) #[true, true, false, false, false, true, false, false, false, true, false, false, false, false, false, false, false, false, false, false, false, false] rfl rfl (any_of HT_.out (by kernel_rfl)) (fun _ _ _ h => h) (Or.inl ⟨by rfl, ?_⟩) ?_ ?_
  rotate_left
  · intro w'
    go_simp
    with_reducible rfl
  rotate_left
  · simp only [Act.put, List.setIfInBounds_toArray, List.set_cons_zero, List.set_cons_succ, i64_w, i32_w]
    rfl
  refine pure_ (i := 13) (N := some 19) (v := ?_) (a' := ?_) #[true, true, false, false, false, true, false, false, false, true, false, false, false, true, false, false, false, false, false, false, false, false] rfl rfl (any_of HT_.out (by kernel_rfl)) (fun _ _ _ h => h) (Or.inl ⟨by rfl, ?_⟩) ?_ ?_
  rotate_left
  · intro w'
    go_simp
    with_reducible rfl
  rotate_left
  · simp only [Act.put, List.setIfInBounds_toArray, List.set_cons_zero, List.set_cons_succ, i64_w, i32_w]
    rfl
  refine pure_ (i := 16) (N := some 22) (v := ?_) (a' := ?_) #[true, true, false, false, false, true, false, false, false, true, false, false, false, true, false, false, true, false, false, false, false, false] rfl rfl (any_of HT_.out (by kernel_rfl)) (fun _ _ _ h => h) (Or.inl ⟨by rfl, ?_⟩) ?_ ?_
  rotate_left
  · intro w'
    go_simp
    with_reducible rfl
  rotate_left
  · simp only [Act.put, List.setIfInBounds_toArray, List.set_cons_zero, List.set_cons_succ, i64_w, i32_w]
    rfl
  refine pure_ (i := 18) (N := some 24) (v := ?_) (a' := ?_) #[true, true, false, false, false, true, false, false, false, true, false, false, false, true, false, false, true, false, true, false, false, false] rfl rfl (any_of HT_.out (by kernel_rfl)) (fun _ _ _ h => h) (Or.inl ⟨by rfl, ?_⟩) ?_ ?_
  rotate_left
  · intro w'
    go_simp
    with_reducible rfl
  rotate_left
  · simp only [Act.put, List.setIfInBounds_toArray, List.set_cons_zero, List.set_cons_succ, i64_w, i32_w]
    rfl
  refine inv_at [2, 3, 4, 6, 7, 8, 10, 11, 12, 14, 15, 17, 19, 20, 21] (fun a0_ b a w' => ∃ (b3 : Nat) (b7 : Nat) (b11 : Nat) (b20 : Nat) (v4 : Value) (v8 : Value) (v12 : Value) (v15 : Value) (v21 : Value) (m3_ : Value) (m7_ : Value) (m11_ : Value) (m20_ : Value), a = putSel a0_ b [(2, 8, .int .u8 kind), (3, 9, m3_), (4, 10, .pointer (some ⟨w.heap.size + 1, 0, none⟩)), (6, 12, .int .u16 links), (7, 13, m7_), (8, 14, .pointer (some ⟨w.heap.size + 1, 0, none⟩)), (10, 16, .int .u32 size), (11, 17, m11_), (12, 18, .pointer (some ⟨w.heap.size + 1, 0, none⟩)), (14, 20, .slice (some ⟨w.heap.size, 3, none⟩) 8 8), (15, 21, .pointer (some ⟨w.heap.size + 1, 0, none⟩)), (17, 23, .int .u32 sg), (19, 25, .int .u32 db), (20, 26, m20_), (21, 27, .pointer (some ⟨w.heap.size + 1, 0, none⟩))] ∧ (Below w.heap.size w w') ∧ (w'.heap[w.heap.size]? = some (.cells #[.int .u8 kind, .int .u16 links, .int .u32 size, .int .u32 d0, .int .u32 d1, .int .u32 d2, .int .u32 d3, .int .u32 d4, .int .u32 d5, .int .u32 d6, .int .u32 d7, .int .u32 sg, .int .u32 db] 48 (0, 0))) ∧ (b 4 = false → WrV w' w.heap.size (w.heap.size + 1) (.slice none 0 0) []) ∧ (b 4 = true → b 8 = false → WrV w' w.heap.size (w.heap.size + 1) v4 ([] ++ les 1 [kind, 0])) ∧ (b 8 = true → b 12 = false → WrV w' w.heap.size (w.heap.size + 1) v8 (([] ++ les 1 [kind, 0]) ++ les 2 [links])) ∧ (b 12 = true → b 15 = false → WrV w' w.heap.size (w.heap.size + 1) v12 ((([] ++ les 1 [kind, 0]) ++ les 2 [links]) ++ les 4 [size])) ∧ (b 15 = true → b 21 = false → WrV w' w.heap.size (w.heap.size + 1) v15 (((([] ++ les 1 [kind, 0]) ++ les 2 [links]) ++ les 4 [size]) ++ les 4 [d0, d1, d2, d3, d4, d5, d6, d7])) ∧ (b 21 = true → WrV w' w.heap.size (w.heap.size + 1) v21 ((((([] ++ les 1 [kind, 0]) ++ les 2 [links]) ++ les 4 [size]) ++ les 4 [d0, d1, d2, d3, d4, d5, d6, d7]) ++ les 4 [sg, db])) ∧ (b 3 = true → b 4 = false → w'.heap[b3]? = some (.cells #[.int .u8 kind, .int .u8 0] 5 (0, 0))) ∧ (b 7 = true → b 8 = false → w'.heap[b7]? = some (.cells #[.int .u16 links] 45 (0, 0))) ∧ (b 11 = true → b 12 = false → w'.heap[b11]? = some (.cells #[.int .u32 size] 35 (0, 0))) ∧ (b 20 = true → b 21 = false → w'.heap[b20]? = some (.cells #[.int .u32 sg, .int .u32 db] 35 (0, 0))) ∧ (b 3 = true → (m3_ : Value) = .slice (some ⟨b3, 0, none⟩) 2 2) ∧ (b 7 = true → (m7_ : Value) = .slice (some ⟨b7, 0, none⟩) 1 1) ∧ (b 11 = true → (m11_ : Value) = .slice (some ⟨b11, 0, none⟩) 1 1) ∧ (b 20 = true → (m20_ : Value) = .slice (some ⟨b20, 0, none⟩) 2 2)) HT_.out HW_.out (by kernel_rfl) (by kernel_rfl) ?_ ?_ ?_
  · exact ⟨0, 0, 0, 0, .slice none 0 0, .slice none 0 0, .slice none 0 0, .slice none 0 0, .slice none 0 0, .bool false, .bool false, .bool false, .bool false, by simp only [putSel, Bool.false_eq_true, if_false], BB.out, BX.out, fun _ => S0.out, fun h_ => absurd h_ (by decide), fun h_ => absurd h_ (by decide), fun h_ => absurd h_ (by decide), fun h_ => absurd h_ (by decide), fun h_ => absurd h_ (by decide), fun h_ => absurd h_ (by decide), fun h_ => absurd h_ (by decide), fun h_ => absurd h_ (by decide), fun h_ => absurd h_ (by decide), fun h_ => absurd h_ (by decide), fun h_ => absurd h_ (by decide), fun h_ => absurd h_ (by decide), fun h_ => absurd h_ (by decide)⟩
  · skip
    clear BB BX S0
    refine steps_cons ?_ ?_
    · rintro b a w' ⟨b3, b7, b11, b20, v4, v8, v12, v15, v21, m3_, m7_, m11_, m20_, ha, Q_BB, Q_BX, Q_S0, Q_S1, Q_S2, Q_S3, Q_S4, Q_S5, Q_H3, Q_H7, Q_H11, Q_H20, Q_X3_, Q_X7_, Q_X11_, Q_X20_⟩ hb_ hon hoff
      refine ⟨_, rfl, fun K hK => ?_⟩
      have e7 : a.tmps[7]? = some (.pointer (some ⟨w.heap.size, 0, none⟩)) := by rw [ha]; exact (putSel_off rfl).trans rfl
      replace ha := Aside0.mk ha
      have BB := Aside0.mk Q_BB
      have BX := Aside0.mk Q_BX
      have S0 := Aside0.mk (Q_S0 (hoff 4 (by kernel_rfl)))
      have hc_ : w'.cell? ⟨w.heap.size, 0, none⟩ = some (.int .u8 kind) := (blk_cell BX.out 0).trans rfl
      refine value_ (w1 := w') (v := .int .u8 kind) (by rfl) rfl ?_ ?_
      · go_simp
        (try simp only [i64_w])
        try rfl
      refine hK.out _ _ ⟨b3, b7, b11, b20, v4, v8, v12, v15, v21, m3_, m7_, m11_, m20_, (by rw [ha.out]; exact putSel_upk 0 hb_ rfl rfl rfl), Q_BB, Q_BX, Q_S0, fun h0_ _ => absurd ((hoff 4 (by kernel_rfl)).symm.trans h0_) (by decide), fun h0_ _ => absurd ((hoff 8 (by kernel_rfl)).symm.trans h0_) (by decide), fun h0_ _ => absurd ((hoff 12 (by kernel_rfl)).symm.trans h0_) (by decide), fun h0_ _ => absurd ((hoff 15 (by kernel_rfl)).symm.trans h0_) (by decide), fun h0_ => absurd ((hoff 21 (by kernel_rfl)).symm.trans h0_) (by decide), fun h0_ _ => absurd ((hoff 3 (by kernel_rfl)).symm.trans h0_) (by decide), Q_H7, Q_H11, Q_H20, fun h0_ => absurd ((hoff 3 (by kernel_rfl)).symm.trans h0_) (by decide), Q_X7_, Q_X11_, Q_X20_⟩
    refine steps_cons ?_ ?_
    · rintro b a w' ⟨b3, b7, b11, b20, v4, v8, v12, v15, v21, m3_, m7_, m11_, m20_, ha, Q_BB, Q_BX, Q_S0, Q_S1, Q_S2, Q_S3, Q_S4, Q_S5, Q_H3, Q_H7, Q_H11, Q_H20, Q_X3_, Q_X7_, Q_X11_, Q_X20_⟩ hb_ hon hoff
      refine ⟨_, rfl, fun K hK => ?_⟩
      have e8 : a.tmps[8]? = some (.int .u8 kind) := by rw [ha]; exact putSel_on (e := (2, 8, .int .u8 kind)) 0 rfl rfl (hon 2 (by kernel_rfl)) rfl
      replace ha := Aside0.mk ha
      have BB := Aside0.mk Q_BB
      have BX := Aside0.mk Q_BX
      have S0 := Aside0.mk (Q_S0 (hoff 4 (by kernel_rfl)))
      refine value_ (w1 := w'.alloc (.cells #[.int .u8 kind, .int .u8 0] 5)) (v := .slice (some ⟨w'.heap.size, 0, none⟩) 2 2) (by rfl) rfl ?_ ?_
      · go_simp
        try rfl
      refine hK.out _ _ ⟨w'.heap.size, b7, b11, b20, v4, v8, v12, v15, v21, (.slice (some ⟨w'.heap.size, 0, none⟩) 2 2), m7_, m11_, m20_, (by rw [ha.out]; exact putSel_upk 1 hb_ rfl rfl rfl), bl_alloc BB.out _, blk_alloc BX.out _, fun _ => WrV.alloc S0.out _, fun h0_ _ => absurd ((hoff 4 (by kernel_rfl)).symm.trans h0_) (by decide), fun h0_ _ => absurd ((hoff 8 (by kernel_rfl)).symm.trans h0_) (by decide), fun h0_ _ => absurd ((hoff 12 (by kernel_rfl)).symm.trans h0_) (by decide), fun h0_ _ => absurd ((hoff 15 (by kernel_rfl)).symm.trans h0_) (by decide), fun h0_ => absurd ((hoff 21 (by kernel_rfl)).symm.trans h0_) (by decide), fun _ _ => heap_alloc_new _ _, fun h0_ h1_ => blk_alloc (Q_H7 h0_ h1_) _, fun h0_ h1_ => blk_alloc (Q_H11 h0_ h1_) _, fun h0_ h1_ => blk_alloc (Q_H20 h0_ h1_) _, fun _ => rfl, Q_X7_, Q_X11_, Q_X20_⟩
    refine steps_cons ?_ ?_
    · rintro b a w' ⟨b3, b7, b11, b20, v4, v8, v12, v15, v21, m3_, m7_, m11_, m20_, ha, Q_BB, Q_BX, Q_S0, Q_S1, Q_S2, Q_S3, Q_S4, Q_S5, Q_H3, Q_H7, Q_H11, Q_H20, Q_X3_, Q_X7_, Q_X11_, Q_X20_⟩ hb_ hon hoff
      refine ⟨_, rfl, fun K hK => ?_⟩
      have e6 : a.tmps[6]? = some (.pointer (some ⟨w.heap.size + 1, 0, none⟩)) := by rw [ha]; exact (putSel_off rfl).trans rfl
      have e9 : a.tmps[9]? = some (m3_) := by rw [ha]; exact putSel_on (e := (3, 9, m3_)) 1 rfl rfl (hon 3 (by kernel_rfl)) rfl
      rw [Q_X3_ (hon 3 (by kernel_rfl))] at e9
      replace ha := Aside0.mk ha
      have BB := Aside0.mk Q_BB
      have BX := Aside0.mk Q_BX
      have S0 := Aside0.mk (Q_S0 hb_)
      have H3 := Aside0.mk (Q_H3 (hon 3 (by kernel_rfl)) hb_)
      refine goes_ Try.func22 (by kernel_rfl) rfl #[.pointer (some ⟨w.heap.size + 1, 0, none⟩), .slice (some ⟨b3, 0, none⟩) 2 2] (by rfl) rfl rfl (by first | (simp only [List.map_toArray, List.map_cons, List.map_nil, Act.eval, Array.getD_eq_getD_getElem?, Option.getD_some, e6, e9]; done) | (simp only [List.map_toArray, List.map_cons, List.map_nil, Act.eval, Array.getD_eq_getD_getElem?, Option.getD_some, e6, e9]; rfl)) ?_
      refine (U8_any w.heap.size (w.heap.size + 1) (.slice none 0 0) [] [kind, 0] _ 2 w' S0.out (by omega) (by have h_ := S0.out.lt; omega) (reads_cells H3.out rfl (by simp) rfl) hb0.out (S0.out.apart0 H3.out (by decide) 0 2) (by simp [le_length, les_length])).mono ?_
      rintro e w1 ⟨rfl, v_, g1, g2, _, g4⟩
      refine ⟨_, rfl, ?_⟩
      refine hK.out _ _ ⟨b3, b7, b11, b20, v_, v8, v12, v15, v21, m3_, m7_, m11_, m20_, (by rw [ha.out]; exact putSel_upk 2 hb_ rfl rfl rfl), BB.out.trans g4, S0.out.hold g2 BX.out (by decide) (by decide), fun h0_ => absurd ((up_self b 4).symm.trans h0_) (by decide), fun _ _ => g1, fun h0_ _ => absurd ((hoff 8 (by kernel_rfl)).symm.trans h0_) (by decide), fun h0_ _ => absurd ((hoff 12 (by kernel_rfl)).symm.trans h0_) (by decide), fun h0_ _ => absurd ((hoff 15 (by kernel_rfl)).symm.trans h0_) (by decide), fun h0_ => absurd ((hoff 21 (by kernel_rfl)).symm.trans h0_) (by decide), fun _ h1_ => absurd ((up_self b 4).symm.trans h1_) (by decide), fun h0_ h1_ => S0.out.hold g2 (Q_H7 h0_ h1_) (by decide) (by decide), fun h0_ h1_ => S0.out.hold g2 (Q_H11 h0_ h1_) (by decide) (by decide), fun h0_ h1_ => S0.out.hold g2 (Q_H20 h0_ h1_) (by decide) (by decide), Q_X3_, Q_X7_, Q_X11_, Q_X20_⟩
    refine steps_cons ?_ ?_
    · rintro b a w' ⟨b3, b7, b11, b20, v4, v8, v12, v15, v21, m3_, m7_, m11_, m20_, ha, Q_BB, Q_BX, Q_S0, Q_S1, Q_S2, Q_S3, Q_S4, Q_S5, Q_H3, Q_H7, Q_H11, Q_H20, Q_X3_, Q_X7_, Q_X11_, Q_X20_⟩ hb_ hon hoff
      refine ⟨_, rfl, fun K hK => ?_⟩
      have e11 : a.tmps[11]? = some (.pointer (some ⟨w.heap.size, 1, none⟩)) := by rw [ha]; exact (putSel_off rfl).trans rfl
      replace ha := Aside0.mk ha
      have BB := Aside0.mk Q_BB
      have BX := Aside0.mk Q_BX
      have hc_ : w'.cell? ⟨w.heap.size, 1, none⟩ = some (.int .u16 links) := (blk_cell BX.out 1).trans rfl
      refine value_ (w1 := w') (v := .int .u16 links) (by rfl) rfl ?_ ?_
      · go_simp
        (try simp only [i64_w])
        try rfl
      refine hK.out _ _ ⟨b3, b7, b11, b20, v4, v8, v12, v15, v21, m3_, m7_, m11_, m20_, (by rw [ha.out]; exact putSel_upk 3 hb_ rfl rfl rfl), Q_BB, Q_BX, Q_S0, Q_S1, fun h0_ _ => absurd ((hoff 8 (by kernel_rfl)).symm.trans h0_) (by decide), fun h0_ _ => absurd ((hoff 12 (by kernel_rfl)).symm.trans h0_) (by decide), fun h0_ _ => absurd ((hoff 15 (by kernel_rfl)).symm.trans h0_) (by decide), fun h0_ => absurd ((hoff 21 (by kernel_rfl)).symm.trans h0_) (by decide), Q_H3, fun h0_ _ => absurd ((hoff 7 (by kernel_rfl)).symm.trans h0_) (by decide), Q_H11, Q_H20, Q_X3_, fun h0_ => absurd ((hoff 7 (by kernel_rfl)).symm.trans h0_) (by decide), Q_X11_, Q_X20_⟩
    refine steps_cons ?_ ?_
    · rintro b a w' ⟨b3, b7, b11, b20, v4, v8, v12, v15, v21, m3_, m7_, m11_, m20_, ha, Q_BB, Q_BX, Q_S0, Q_S1, Q_S2, Q_S3, Q_S4, Q_S5, Q_H3, Q_H7, Q_H11, Q_H20, Q_X3_, Q_X7_, Q_X11_, Q_X20_⟩ hb_ hon hoff
      refine ⟨_, rfl, fun K hK => ?_⟩
      have e12 : a.tmps[12]? = some (.int .u16 links) := by rw [ha]; exact putSel_on (e := (6, 12, .int .u16 links)) 3 rfl rfl (hon 6 (by kernel_rfl)) rfl
      replace ha := Aside0.mk ha
      have BB := Aside0.mk Q_BB
      have BX := Aside0.mk Q_BX
      refine value_ (w1 := w'.alloc (.cells #[.int .u16 links] 45)) (v := .slice (some ⟨w'.heap.size, 0, none⟩) 1 1) (by rfl) rfl ?_ ?_
      · go_simp
        try rfl
      refine hK.out _ _ ⟨b3, w'.heap.size, b11, b20, v4, v8, v12, v15, v21, m3_, (.slice (some ⟨w'.heap.size, 0, none⟩) 1 1), m11_, m20_, (by rw [ha.out]; exact putSel_upk 4 hb_ rfl rfl rfl), bl_alloc BB.out _, blk_alloc BX.out _, fun h0_ => WrV.alloc (Q_S0 h0_) _, fun h0_ h1_ => WrV.alloc (Q_S1 h0_ h1_) _, fun h0_ _ => absurd ((hoff 8 (by kernel_rfl)).symm.trans h0_) (by decide), fun h0_ _ => absurd ((hoff 12 (by kernel_rfl)).symm.trans h0_) (by decide), fun h0_ _ => absurd ((hoff 15 (by kernel_rfl)).symm.trans h0_) (by decide), fun h0_ => absurd ((hoff 21 (by kernel_rfl)).symm.trans h0_) (by decide), fun h0_ h1_ => blk_alloc (Q_H3 h0_ h1_) _, fun _ _ => heap_alloc_new _ _, fun h0_ h1_ => blk_alloc (Q_H11 h0_ h1_) _, fun h0_ h1_ => blk_alloc (Q_H20 h0_ h1_) _, Q_X3_, fun _ => rfl, Q_X11_, Q_X20_⟩
    refine steps_cons ?_ ?_
    · rintro b a w' ⟨b3, b7, b11, b20, v4, v8, v12, v15, v21, m3_, m7_, m11_, m20_, ha, Q_BB, Q_BX, Q_S0, Q_S1, Q_S2, Q_S3, Q_S4, Q_S5, Q_H3, Q_H7, Q_H11, Q_H20, Q_X3_, Q_X7_, Q_X11_, Q_X20_⟩ hb_ hon hoff
      refine ⟨_, rfl, fun K hK => ?_⟩
      have e10 : a.tmps[10]? = some (.pointer (some ⟨w.heap.size + 1, 0, none⟩)) := by rw [ha]; exact putSel_on (e := (4, 10, .pointer (some ⟨w.heap.size + 1, 0, none⟩))) 2 rfl rfl (hon 4 (by kernel_rfl)) rfl
      have e13 : a.tmps[13]? = some (m7_) := by rw [ha]; exact putSel_on (e := (7, 13, m7_)) 4 rfl rfl (hon 7 (by kernel_rfl)) rfl
      rw [Q_X7_ (hon 7 (by kernel_rfl))] at e13
      replace ha := Aside0.mk ha
      have BB := Aside0.mk Q_BB
      have BX := Aside0.mk Q_BX
      have S1 := Aside0.mk (Q_S1 (hon 4 (by kernel_rfl)) hb_)
      have H7 := Aside0.mk (Q_H7 (hon 7 (by kernel_rfl)) hb_)
      refine goes_ Try.func23 (by kernel_rfl) rfl #[.pointer (some ⟨w.heap.size + 1, 0, none⟩), .slice (some ⟨b7, 0, none⟩) 1 1] (by rfl) rfl rfl (by first | (simp only [List.map_toArray, List.map_cons, List.map_nil, Act.eval, Array.getD_eq_getD_getElem?, Option.getD_some, e10, e13]; done) | (simp only [List.map_toArray, List.map_cons, List.map_nil, Act.eval, Array.getD_eq_getD_getElem?, Option.getD_some, e10, e13]; rfl)) ?_
      refine (U16_any w.heap.size (w.heap.size + 1) v4 ([] ++ les 1 [kind, 0]) [links] _ 1 w' S1.out (by omega) (by have h_ := S1.out.lt; omega) (reads_cells H7.out rfl (by simp) rfl) hb1.out (S1.out.apart H7.out (by decide) (by decide) 0 1) (by simp [le_length, les_length])).mono ?_
      rintro e w1 ⟨rfl, v_, g1, g2, _, g4⟩
      refine ⟨_, rfl, ?_⟩
      refine hK.out _ _ ⟨b3, b7, b11, b20, v4, v_, v12, v15, v21, m3_, m7_, m11_, m20_, (by rw [ha.out]; exact putSel_upk 5 hb_ rfl rfl rfl), BB.out.trans g4, S1.out.hold g2 BX.out (by decide) (by decide), fun h0_ => absurd ((hon 4 (by kernel_rfl)).symm.trans h0_) (by decide), fun _ h1_ => absurd ((up_self b 8).symm.trans h1_) (by decide), fun _ _ => g1, fun h0_ _ => absurd ((hoff 12 (by kernel_rfl)).symm.trans h0_) (by decide), fun h0_ _ => absurd ((hoff 15 (by kernel_rfl)).symm.trans h0_) (by decide), fun h0_ => absurd ((hoff 21 (by kernel_rfl)).symm.trans h0_) (by decide), fun _ h1_ => absurd ((hon 4 (by kernel_rfl)).symm.trans h1_) (by decide), fun _ h1_ => absurd ((up_self b 8).symm.trans h1_) (by decide), fun h0_ h1_ => S1.out.hold g2 (Q_H11 h0_ h1_) (by decide) (by decide), fun h0_ h1_ => S1.out.hold g2 (Q_H20 h0_ h1_) (by decide) (by decide), Q_X3_, Q_X7_, Q_X11_, Q_X20_⟩
    refine steps_cons ?_ ?_
    · rintro b a w' ⟨b3, b7, b11, b20, v4, v8, v12, v15, v21, m3_, m7_, m11_, m20_, ha, Q_BB, Q_BX, Q_S0, Q_S1, Q_S2, Q_S3, Q_S4, Q_S5, Q_H3, Q_H7, Q_H11, Q_H20, Q_X3_, Q_X7_, Q_X11_, Q_X20_⟩ hb_ hon hoff
      refine ⟨_, rfl, fun K hK => ?_⟩
      have e15 : a.tmps[15]? = some (.pointer (some ⟨w.heap.size, 2, none⟩)) := by rw [ha]; exact (putSel_off rfl).trans rfl
      replace ha := Aside0.mk ha
      have BB := Aside0.mk Q_BB
      have BX := Aside0.mk Q_BX
      have hc_ : w'.cell? ⟨w.heap.size, 2, none⟩ = some (.int .u32 size) := (blk_cell BX.out 2).trans rfl
      refine value_ (w1 := w') (v := .int .u32 size) (by rfl) rfl ?_ ?_
      · go_simp
        (try simp only [i64_w])
        try rfl
      refine hK.out _ _ ⟨b3, b7, b11, b20, v4, v8, v12, v15, v21, m3_, m7_, m11_, m20_, (by rw [ha.out]; exact putSel_upk 6 hb_ rfl rfl rfl), Q_BB, Q_BX, Q_S0, Q_S1, Q_S2, fun h0_ _ => absurd ((hoff 12 (by kernel_rfl)).symm.trans h0_) (by decide), fun h0_ _ => absurd ((hoff 15 (by kernel_rfl)).symm.trans h0_) (by decide), fun h0_ => absurd ((hoff 21 (by kernel_rfl)).symm.trans h0_) (by decide), Q_H3, Q_H7, fun h0_ _ => absurd ((hoff 11 (by kernel_rfl)).symm.trans h0_) (by decide), Q_H20, Q_X3_, Q_X7_, fun h0_ => absurd ((hoff 11 (by kernel_rfl)).symm.trans h0_) (by decide), Q_X20_⟩
    refine steps_cons ?_ ?_
    · rintro b a w' ⟨b3, b7, b11, b20, v4, v8, v12, v15, v21, m3_, m7_, m11_, m20_, ha, Q_BB, Q_BX, Q_S0, Q_S1, Q_S2, Q_S3, Q_S4, Q_S5, Q_H3, Q_H7, Q_H11, Q_H20, Q_X3_, Q_X7_, Q_X11_, Q_X20_⟩ hb_ hon hoff
      refine ⟨_, rfl, fun K hK => ?_⟩
      have e16 : a.tmps[16]? = some (.int .u32 size) := by rw [ha]; exact putSel_on (e := (10, 16, .int .u32 size)) 6 rfl rfl (hon 10 (by kernel_rfl)) rfl
      replace ha := Aside0.mk ha
      have BB := Aside0.mk Q_BB
      have BX := Aside0.mk Q_BX
      refine value_ (w1 := w'.alloc (.cells #[.int .u32 size] 35)) (v := .slice (some ⟨w'.heap.size, 0, none⟩) 1 1) (by rfl) rfl ?_ ?_
      · go_simp
        try rfl
      refine hK.out _ _ ⟨b3, b7, w'.heap.size, b20, v4, v8, v12, v15, v21, m3_, m7_, (.slice (some ⟨w'.heap.size, 0, none⟩) 1 1), m20_, (by rw [ha.out]; exact putSel_upk 7 hb_ rfl rfl rfl), bl_alloc BB.out _, blk_alloc BX.out _, fun h0_ => WrV.alloc (Q_S0 h0_) _, fun h0_ h1_ => WrV.alloc (Q_S1 h0_ h1_) _, fun h0_ h1_ => WrV.alloc (Q_S2 h0_ h1_) _, fun h0_ _ => absurd ((hoff 12 (by kernel_rfl)).symm.trans h0_) (by decide), fun h0_ _ => absurd ((hoff 15 (by kernel_rfl)).symm.trans h0_) (by decide), fun h0_ => absurd ((hoff 21 (by kernel_rfl)).symm.trans h0_) (by decide), fun h0_ h1_ => blk_alloc (Q_H3 h0_ h1_) _, fun h0_ h1_ => blk_alloc (Q_H7 h0_ h1_) _, fun _ _ => heap_alloc_new _ _, fun h0_ h1_ => blk_alloc (Q_H20 h0_ h1_) _, Q_X3_, Q_X7_, fun _ => rfl, Q_X20_⟩
    refine steps_cons ?_ ?_
    · rintro b a w' ⟨b3, b7, b11, b20, v4, v8, v12, v15, v21, m3_, m7_, m11_, m20_, ha, Q_BB, Q_BX, Q_S0, Q_S1, Q_S2, Q_S3, Q_S4, Q_S5, Q_H3, Q_H7, Q_H11, Q_H20, Q_X3_, Q_X7_, Q_X11_, Q_X20_⟩ hb_ hon hoff
      refine ⟨_, rfl, fun K hK => ?_⟩
      have e14 : a.tmps[14]? = some (.pointer (some ⟨w.heap.size + 1, 0, none⟩)) := by rw [ha]; exact putSel_on (e := (8, 14, .pointer (some ⟨w.heap.size + 1, 0, none⟩))) 5 rfl rfl (hon 8 (by kernel_rfl)) rfl
      have e17 : a.tmps[17]? = some (m11_) := by rw [ha]; exact putSel_on (e := (11, 17, m11_)) 7 rfl rfl (hon 11 (by kernel_rfl)) rfl
      rw [Q_X11_ (hon 11 (by kernel_rfl))] at e17
      replace ha := Aside0.mk ha
      have BB := Aside0.mk Q_BB
      have BX := Aside0.mk Q_BX
      have S2 := Aside0.mk (Q_S2 (hon 8 (by kernel_rfl)) hb_)
      have H11 := Aside0.mk (Q_H11 (hon 11 (by kernel_rfl)) hb_)
      refine goes_ Try.func24 (by kernel_rfl) rfl #[.pointer (some ⟨w.heap.size + 1, 0, none⟩), .slice (some ⟨b11, 0, none⟩) 1 1] (by rfl) rfl rfl (by first | (simp only [List.map_toArray, List.map_cons, List.map_nil, Act.eval, Array.getD_eq_getD_getElem?, Option.getD_some, e14, e17]; done) | (simp only [List.map_toArray, List.map_cons, List.map_nil, Act.eval, Array.getD_eq_getD_getElem?, Option.getD_some, e14, e17]; rfl)) ?_
      refine (U32_any w.heap.size (w.heap.size + 1) v8 (([] ++ les 1 [kind, 0]) ++ les 2 [links]) [size] _ 1 w' S2.out (by omega) (by have h_ := S2.out.lt; omega) (reads_cells H11.out rfl (by simp) rfl) hb2.out (S2.out.apart H11.out (by decide) (by decide) 0 1) (by simp [le_length, les_length])).mono ?_
      rintro e w1 ⟨rfl, v_, g1, g2, _, g4⟩
      refine ⟨_, rfl, ?_⟩
      refine hK.out _ _ ⟨b3, b7, b11, b20, v4, v8, v_, v15, v21, m3_, m7_, m11_, m20_, (by rw [ha.out]; exact putSel_upk 8 hb_ rfl rfl rfl), BB.out.trans g4, S2.out.hold g2 BX.out (by decide) (by decide), fun h0_ => absurd ((hon 4 (by kernel_rfl)).symm.trans h0_) (by decide), fun _ h1_ => absurd ((hon 8 (by kernel_rfl)).symm.trans h1_) (by decide), fun _ h1_ => absurd ((up_self b 12).symm.trans h1_) (by decide), fun _ _ => g1, fun h0_ _ => absurd ((hoff 15 (by kernel_rfl)).symm.trans h0_) (by decide), fun h0_ => absurd ((hoff 21 (by kernel_rfl)).symm.trans h0_) (by decide), fun _ h1_ => absurd ((hon 4 (by kernel_rfl)).symm.trans h1_) (by decide), fun _ h1_ => absurd ((hon 8 (by kernel_rfl)).symm.trans h1_) (by decide), fun _ h1_ => absurd ((up_self b 12).symm.trans h1_) (by decide), fun h0_ h1_ => S2.out.hold g2 (Q_H20 h0_ h1_) (by decide) (by decide), Q_X3_, Q_X7_, Q_X11_, Q_X20_⟩
    refine steps_cons ?_ ?_
    · rintro b a w' ⟨b3, b7, b11, b20, v4, v8, v12, v15, v21, m3_, m7_, m11_, m20_, ha, Q_BB, Q_BX, Q_S0, Q_S1, Q_S2, Q_S3, Q_S4, Q_S5, Q_H3, Q_H7, Q_H11, Q_H20, Q_X3_, Q_X7_, Q_X11_, Q_X20_⟩ hb_ hon hoff
      refine ⟨_, rfl, fun K hK => ?_⟩
      have e19 : a.tmps[19]? = some (.pointer (some ⟨w.heap.size, 3, none⟩)) := by rw [ha]; exact (putSel_off rfl).trans rfl
      replace ha := Aside0.mk ha
      have BB := Aside0.mk Q_BB
      have BX := Aside0.mk Q_BX
      refine value_ (w1 := w') (v := .slice (some ⟨w.heap.size, 3, none⟩) 8 8) (by rfl) rfl ?_ ?_
      · go_simp
        (try simp only [i64_w])
        try rfl
      refine hK.out _ _ ⟨b3, b7, b11, b20, v4, v8, v12, v15, v21, m3_, m7_, m11_, m20_, (by rw [ha.out]; exact putSel_upk 9 hb_ rfl rfl rfl), Q_BB, Q_BX, Q_S0, Q_S1, Q_S2, Q_S3, fun h0_ _ => absurd ((hoff 15 (by kernel_rfl)).symm.trans h0_) (by decide), fun h0_ => absurd ((hoff 21 (by kernel_rfl)).symm.trans h0_) (by decide), Q_H3, Q_H7, Q_H11, Q_H20, Q_X3_, Q_X7_, Q_X11_, Q_X20_⟩
    refine steps_cons ?_ ?_
    · rintro b a w' ⟨b3, b7, b11, b20, v4, v8, v12, v15, v21, m3_, m7_, m11_, m20_, ha, Q_BB, Q_BX, Q_S0, Q_S1, Q_S2, Q_S3, Q_S4, Q_S5, Q_H3, Q_H7, Q_H11, Q_H20, Q_X3_, Q_X7_, Q_X11_, Q_X20_⟩ hb_ hon hoff
      refine ⟨_, rfl, fun K hK => ?_⟩
      have e18 : a.tmps[18]? = some (.pointer (some ⟨w.heap.size + 1, 0, none⟩)) := by rw [ha]; exact putSel_on (e := (12, 18, .pointer (some ⟨w.heap.size + 1, 0, none⟩))) 8 rfl rfl (hon 12 (by kernel_rfl)) rfl
      have e20 : a.tmps[20]? = some (.slice (some ⟨w.heap.size, 3, none⟩) 8 8) := by rw [ha]; exact putSel_on (e := (14, 20, .slice (some ⟨w.heap.size, 3, none⟩) 8 8)) 9 rfl rfl (hon 14 (by kernel_rfl)) rfl
      replace ha := Aside0.mk ha
      have BB := Aside0.mk Q_BB
      have BX := Aside0.mk Q_BX
      have S3 := Aside0.mk (Q_S3 (hon 12 (by kernel_rfl)) hb_)
      refine goes_ Try.func24 (by kernel_rfl) rfl #[.pointer (some ⟨w.heap.size + 1, 0, none⟩), .slice (some ⟨w.heap.size, 3, none⟩) 8 8] (by rfl) rfl rfl (by first | (simp only [List.map_toArray, List.map_cons, List.map_nil, Act.eval, Array.getD_eq_getD_getElem?, Option.getD_some, e18, e20]; done) | (simp only [List.map_toArray, List.map_cons, List.map_nil, Act.eval, Array.getD_eq_getD_getElem?, Option.getD_some, e18, e20]; rfl)) ?_
      refine (U32_any w.heap.size (w.heap.size + 1) v12 ((([] ++ les 1 [kind, 0]) ++ les 2 [links]) ++ les 4 [size]) [d0, d1, d2, d3, d4, d5, d6, d7] _ 8 w' S3.out (by omega) (by have h_ := S3.out.lt; omega) (reads_cells BX.out rfl (by simp) rfl) hb3.out (S3.out.apart BX.out (by decide) (by decide) 3 8) (by simp [le_length, les_length])).mono ?_
      rintro e w1 ⟨rfl, v_, g1, g2, _, g4⟩
      refine ⟨_, rfl, ?_⟩
      refine hK.out _ _ ⟨b3, b7, b11, b20, v4, v8, v12, v_, v21, m3_, m7_, m11_, m20_, (by rw [ha.out]; exact putSel_upk 10 hb_ rfl rfl rfl), BB.out.trans g4, S3.out.hold g2 BX.out (by decide) (by decide), fun h0_ => absurd ((hon 4 (by kernel_rfl)).symm.trans h0_) (by decide), fun _ h1_ => absurd ((hon 8 (by kernel_rfl)).symm.trans h1_) (by decide), fun _ h1_ => absurd ((hon 12 (by kernel_rfl)).symm.trans h1_) (by decide), fun _ h1_ => absurd ((up_self b 15).symm.trans h1_) (by decide), fun _ _ => g1, fun h0_ => absurd ((hoff 21 (by kernel_rfl)).symm.trans h0_) (by decide), fun _ h1_ => absurd ((hon 4 (by kernel_rfl)).symm.trans h1_) (by decide), fun _ h1_ => absurd ((hon 8 (by kernel_rfl)).symm.trans h1_) (by decide), fun _ h1_ => absurd ((hon 12 (by kernel_rfl)).symm.trans h1_) (by decide), fun h0_ h1_ => S3.out.hold g2 (Q_H20 h0_ h1_) (by decide) (by decide), Q_X3_, Q_X7_, Q_X11_, Q_X20_⟩
    refine steps_cons ?_ ?_
    · rintro b a w' ⟨b3, b7, b11, b20, v4, v8, v12, v15, v21, m3_, m7_, m11_, m20_, ha, Q_BB, Q_BX, Q_S0, Q_S1, Q_S2, Q_S3, Q_S4, Q_S5, Q_H3, Q_H7, Q_H11, Q_H20, Q_X3_, Q_X7_, Q_X11_, Q_X20_⟩ hb_ hon hoff
      refine ⟨_, rfl, fun K hK => ?_⟩
      have e22 : a.tmps[22]? = some (.pointer (some ⟨w.heap.size, 11, none⟩)) := by rw [ha]; exact (putSel_off rfl).trans rfl
      replace ha := Aside0.mk ha
      have BB := Aside0.mk Q_BB
      have BX := Aside0.mk Q_BX
      have hc_ : w'.cell? ⟨w.heap.size, 11, none⟩ = some (.int .u32 sg) := (blk_cell BX.out 11).trans rfl
      refine value_ (w1 := w') (v := .int .u32 sg) (by rfl) rfl ?_ ?_
      · go_simp
        (try simp only [i64_w])
        try rfl
      refine hK.out _ _ ⟨b3, b7, b11, b20, v4, v8, v12, v15, v21, m3_, m7_, m11_, m20_, (by rw [ha.out]; exact putSel_upk 11 hb_ rfl rfl rfl), Q_BB, Q_BX, Q_S0, Q_S1, Q_S2, Q_S3, Q_S4, fun h0_ => absurd ((hoff 21 (by kernel_rfl)).symm.trans h0_) (by decide), Q_H3, Q_H7, Q_H11, fun h0_ _ => absurd ((hoff 20 (by kernel_rfl)).symm.trans h0_) (by decide), Q_X3_, Q_X7_, Q_X11_, fun h0_ => absurd ((hoff 20 (by kernel_rfl)).symm.trans h0_) (by decide)⟩
    refine steps_cons ?_ ?_
    · rintro b a w' ⟨b3, b7, b11, b20, v4, v8, v12, v15, v21, m3_, m7_, m11_, m20_, ha, Q_BB, Q_BX, Q_S0, Q_S1, Q_S2, Q_S3, Q_S4, Q_S5, Q_H3, Q_H7, Q_H11, Q_H20, Q_X3_, Q_X7_, Q_X11_, Q_X20_⟩ hb_ hon hoff
      refine ⟨_, rfl, fun K hK => ?_⟩
      have e24 : a.tmps[24]? = some (.pointer (some ⟨w.heap.size, 12, none⟩)) := by rw [ha]; exact (putSel_off rfl).trans rfl
      replace ha := Aside0.mk ha
      have BB := Aside0.mk Q_BB
      have BX := Aside0.mk Q_BX
      have hc_ : w'.cell? ⟨w.heap.size, 12, none⟩ = some (.int .u32 db) := (blk_cell BX.out 12).trans rfl
      refine value_ (w1 := w') (v := .int .u32 db) (by rfl) rfl ?_ ?_
      · go_simp
        (try simp only [i64_w])
        try rfl
      refine hK.out _ _ ⟨b3, b7, b11, b20, v4, v8, v12, v15, v21, m3_, m7_, m11_, m20_, (by rw [ha.out]; exact putSel_upk 12 hb_ rfl rfl rfl), Q_BB, Q_BX, Q_S0, Q_S1, Q_S2, Q_S3, Q_S4, fun h0_ => absurd ((hoff 21 (by kernel_rfl)).symm.trans h0_) (by decide), Q_H3, Q_H7, Q_H11, fun h0_ _ => absurd ((hoff 20 (by kernel_rfl)).symm.trans h0_) (by decide), Q_X3_, Q_X7_, Q_X11_, fun h0_ => absurd ((hoff 20 (by kernel_rfl)).symm.trans h0_) (by decide)⟩
    refine steps_cons ?_ ?_
    · rintro b a w' ⟨b3, b7, b11, b20, v4, v8, v12, v15, v21, m3_, m7_, m11_, m20_, ha, Q_BB, Q_BX, Q_S0, Q_S1, Q_S2, Q_S3, Q_S4, Q_S5, Q_H3, Q_H7, Q_H11, Q_H20, Q_X3_, Q_X7_, Q_X11_, Q_X20_⟩ hb_ hon hoff
      refine ⟨_, rfl, fun K hK => ?_⟩
      have e23 : a.tmps[23]? = some (.int .u32 sg) := by rw [ha]; exact putSel_on (e := (17, 23, .int .u32 sg)) 11 rfl rfl (hon 17 (by kernel_rfl)) rfl
      have e25 : a.tmps[25]? = some (.int .u32 db) := by rw [ha]; exact putSel_on (e := (19, 25, .int .u32 db)) 12 rfl rfl (hon 19 (by kernel_rfl)) rfl
      replace ha := Aside0.mk ha
      have BB := Aside0.mk Q_BB
      have BX := Aside0.mk Q_BX
      refine value_ (w1 := w'.alloc (.cells #[.int .u32 sg, .int .u32 db] 35)) (v := .slice (some ⟨w'.heap.size, 0, none⟩) 2 2) (by rfl) rfl ?_ ?_
      · go_simp
        try rfl
      refine hK.out _ _ ⟨b3, b7, b11, w'.heap.size, v4, v8, v12, v15, v21, m3_, m7_, m11_, (.slice (some ⟨w'.heap.size, 0, none⟩) 2 2), (by rw [ha.out]; exact putSel_upk 13 hb_ rfl rfl rfl), bl_alloc BB.out _, blk_alloc BX.out _, fun h0_ => WrV.alloc (Q_S0 h0_) _, fun h0_ h1_ => WrV.alloc (Q_S1 h0_ h1_) _, fun h0_ h1_ => WrV.alloc (Q_S2 h0_ h1_) _, fun h0_ h1_ => WrV.alloc (Q_S3 h0_ h1_) _, fun h0_ h1_ => WrV.alloc (Q_S4 h0_ h1_) _, fun h0_ => absurd ((hoff 21 (by kernel_rfl)).symm.trans h0_) (by decide), fun h0_ h1_ => blk_alloc (Q_H3 h0_ h1_) _, fun h0_ h1_ => blk_alloc (Q_H7 h0_ h1_) _, fun h0_ h1_ => blk_alloc (Q_H11 h0_ h1_) _, fun _ _ => heap_alloc_new _ _, Q_X3_, Q_X7_, Q_X11_, fun _ => rfl⟩
    refine steps_cons ?_ ?_
    · rintro b a w' ⟨b3, b7, b11, b20, v4, v8, v12, v15, v21, m3_, m7_, m11_, m20_, ha, Q_BB, Q_BX, Q_S0, Q_S1, Q_S2, Q_S3, Q_S4, Q_S5, Q_H3, Q_H7, Q_H11, Q_H20, Q_X3_, Q_X7_, Q_X11_, Q_X20_⟩ hb_ hon hoff
      refine ⟨_, rfl, fun K hK => ?_⟩
      have e21 : a.tmps[21]? = some (.pointer (some ⟨w.heap.size + 1, 0, none⟩)) := by rw [ha]; exact putSel_on (e := (15, 21, .pointer (some ⟨w.heap.size + 1, 0, none⟩))) 10 rfl rfl (hon 15 (by kernel_rfl)) rfl
      have e26 : a.tmps[26]? = some (m20_) := by rw [ha]; exact putSel_on (e := (20, 26, m20_)) 13 rfl rfl (hon 20 (by kernel_rfl)) rfl
      rw [Q_X20_ (hon 20 (by kernel_rfl))] at e26
      replace ha := Aside0.mk ha
      have BB := Aside0.mk Q_BB
      have BX := Aside0.mk Q_BX
      have S4 := Aside0.mk (Q_S4 (hon 15 (by kernel_rfl)) hb_)
      have H20 := Aside0.mk (Q_H20 (hon 20 (by kernel_rfl)) hb_)
      refine goes_ Try.func24 (by kernel_rfl) rfl #[.pointer (some ⟨w.heap.size + 1, 0, none⟩), .slice (some ⟨b20, 0, none⟩) 2 2] (by rfl) rfl rfl (by first | (simp only [List.map_toArray, List.map_cons, List.map_nil, Act.eval, Array.getD_eq_getD_getElem?, Option.getD_some, e21, e26]; done) | (simp only [List.map_toArray, List.map_cons, List.map_nil, Act.eval, Array.getD_eq_getD_getElem?, Option.getD_some, e21, e26]; rfl)) ?_
      refine (U32_any w.heap.size (w.heap.size + 1) v15 (((([] ++ les 1 [kind, 0]) ++ les 2 [links]) ++ les 4 [size]) ++ les 4 [d0, d1, d2, d3, d4, d5, d6, d7]) [sg, db] _ 2 w' S4.out (by omega) (by have h_ := S4.out.lt; omega) (reads_cells H20.out rfl (by simp) rfl) hb4.out (S4.out.apart H20.out (by decide) (by decide) 0 2) (by simp [le_length, les_length])).mono ?_
      rintro e w1 ⟨rfl, v_, g1, g2, _, g4⟩
      refine ⟨_, rfl, ?_⟩
      refine hK.out _ _ ⟨b3, b7, b11, b20, v4, v8, v12, v15, v_, m3_, m7_, m11_, m20_, (by rw [ha.out]; exact putSel_upk 14 hb_ rfl rfl rfl), BB.out.trans g4, S4.out.hold g2 BX.out (by decide) (by decide), fun h0_ => absurd ((hon 4 (by kernel_rfl)).symm.trans h0_) (by decide), fun _ h1_ => absurd ((hon 8 (by kernel_rfl)).symm.trans h1_) (by decide), fun _ h1_ => absurd ((hon 12 (by kernel_rfl)).symm.trans h1_) (by decide), fun _ h1_ => absurd ((hon 15 (by kernel_rfl)).symm.trans h1_) (by decide), fun _ h1_ => absurd ((up_self b 21).symm.trans h1_) (by decide), fun _ => g1, fun _ h1_ => absurd ((hon 4 (by kernel_rfl)).symm.trans h1_) (by decide), fun _ h1_ => absurd ((hon 8 (by kernel_rfl)).symm.trans h1_) (by decide), fun _ h1_ => absurd ((hon 12 (by kernel_rfl)).symm.trans h1_) (by decide), fun _ h1_ => absurd ((up_self b 21).symm.trans h1_) (by decide), Q_X3_, Q_X7_, Q_X11_, Q_X20_⟩
    exact steps_nil
  · rintro b a w' hall ⟨b3, b7, b11, b20, v4, v8, v12, v15, v21, m3_, m7_, m11_, m20_, ha, Q_BB, Q_BX, Q_S0, Q_S1, Q_S2, Q_S3, Q_S4, Q_S5, Q_H3, Q_H7, Q_H11, Q_H20, Q_X3_, Q_X7_, Q_X11_, Q_X20_⟩
    clear BB BX S0
    have hb2_ := hall 2 (by kernel_rfl)
    have hb3_ := hall 3 (by kernel_rfl)
    have hb4_ := hall 4 (by kernel_rfl)
    have hb6_ := hall 6 (by kernel_rfl)
    have hb7_ := hall 7 (by kernel_rfl)
    have hb8_ := hall 8 (by kernel_rfl)
    have hb10_ := hall 10 (by kernel_rfl)
    have hb11_ := hall 11 (by kernel_rfl)
    have hb12_ := hall 12 (by kernel_rfl)
    have hb14_ := hall 14 (by kernel_rfl)
    have hb15_ := hall 15 (by kernel_rfl)
    have hb17_ := hall 17 (by kernel_rfl)
    have hb19_ := hall 19 (by kernel_rfl)
    have hb20_ := hall 20 (by kernel_rfl)
    have hb21_ := hall 21 (by kernel_rfl)
    subst ha
    obtain rfl := Q_X3_ hb3_
    obtain rfl := Q_X7_ hb7_
    obtain rfl := Q_X11_ hb11_
    obtain rfl := Q_X20_ hb20_
    simp only [putSel, hb2_, hb3_, hb4_, hb6_, hb7_, hb8_, hb10_, hb11_, hb12_, hb14_, hb15_, hb17_, hb19_, hb20_, hb21_, if_true, Act.put, List.setIfInBounds_toArray, List.set_cons_zero, List.set_cons_succ]
    have BB := Aside0.mk Q_BB
    clear Q_BB
    have BX := Aside0.mk Q_BX
    clear Q_BX
    clear Q_S0
    clear Q_S1
    clear Q_S2
    clear Q_S3
    clear Q_S4
    have S5 := Aside0.mk (Q_S5 hb21_)
    clear Q_S5
    clear Q_H3
    clear Q_H7
    clear Q_H11
    clear Q_H20
    clear hall hb2_ hb3_ hb4_ hb6_ hb7_ hb8_ hb10_ hb11_ hb12_ hb14_ hb15_ hb17_ hb19_ hb20_ hb21_
    have HB := Lib.hid BB.out
    have S := Lib.hid S5.out
    clear BX BB S5 hb0 hb1 hb2 hb3 hb4
    go_wp2_with fail
    refine (Pad_any w.heap.size (w.heap.size + 1) v21 _ 64 w' S.out (by omega) (by have h_ := S.out.lt; omega) (by decide) (by simp [les_length])).mono ?_
    rintro e w3 ⟨rfl, v3, g1, g2, _, g4⟩
    have G := Lib.hid (And.intro g1 g4)
    clear g1 g2 g4
    go_wp2_with fail
    refine (Bytes_any _ _ v3 _ w3 G.out.1 (by simp [les_length])).mono ?_
    rintro e w4 ⟨v4, rfl, h5, h6⟩
    have N5 := Lib.hid (And.intro h5 h6)
    clear h5 h6
    go_wp2_with fail
    go_ret
    have h7 := HB.out.trans G.out.2
    exact ⟨v4, rfl, own_base N5.out.1 h7.size, bl_seq h7 N5.out.2⟩
end Go.Proofs.Ytdcelfoomjahjaa
