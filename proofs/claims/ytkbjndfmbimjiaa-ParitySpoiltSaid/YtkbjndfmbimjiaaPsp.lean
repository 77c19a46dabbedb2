import Derived.Test.YtkbjndfmbimjiaaPbk
/-! The law ParitySpoilt: its walk. -/
set_option linter.unusedVariables false
set_option linter.unusedSimpArgs false
namespace Go.Proofs.Ytkbjndfmbimjiaa
open Go.RowKit Go.Proofs.YtkbjndfmbimjiaaW.PrintWords Go.Proofs.YtkbjndfmbimjiaaW.PrintLast
def PspR.T1 : Bool × List (List Nat × List Nat) := (true, [([], []), ([0], [0]), ([], []), ([2], [2]), ([], []), ([4], [4]), ([], []), ([6], [6]), ([], []), ([8, 1, 0, 1, 8], [1, 8]), ([3, 9, 0, 1, 2, 3, 8, 9], [3]), ([5, 10, 0, 1, 2, 3, 4, 5, 8, 9, 10], [5]), ([7, 11, 0, 1, 2, 3, 4, 5, 6, 7, 8, 9, 10, 11], [7])])
def PspR.B1 : List Nat := [0, 1, 0, 4, 0, 16, 0, 64, 0, 259, 783, 1855, 4095]
theorem PspR.tab1 : rtab .any (opsOf Try.f7 1) = PspR.T1 := by kernel_rfl
theorem PspR.bits1 : waitsOk PspR.T1.2 PspR.B1 = true := by kernel_rfl
theorem put11q {w : World} {g : Nat} {t : TypeId} {a0 a1 a2 a3 a4 a5 a6 a7 a8 a9 a10 : Value} (h : w.heap[g]? = some (.cells #[a0, a1, a2, a3, a4, a5, a6, a7, a8, a9, a10] t (0, 0))) (v0 v1 v2 v3 v4 v5 v6 v7 v8 v9 v10 : Value) : (((((((((((w.setCell ⟨g, 0, none⟩ (v0)).setCell ⟨g, 1, none⟩ (v1)).setCell ⟨g, 2, none⟩ (v2)).setCell ⟨g, 3, none⟩ (v3)).setCell ⟨g, 4, none⟩ (v4)).setCell ⟨g, 5, none⟩ (v5)).setCell ⟨g, 6, none⟩ (v6)).setCell ⟨g, 7, none⟩ (v7)).setCell ⟨g, 8, none⟩ (v8)).setCell ⟨g, 9, none⟩ (v9)).setCell ⟨g, 10, none⟩ (v10)).heap[g]? = some (.cells #[v0, v1, v2, v3, v4, v5, v6, v7, v8, v9, v10] t (0, 0)) := by
  have h0 := blk_put h 0 v0 (cs' := #[v0, a1, a2, a3, a4, a5, a6, a7, a8, a9, a10]) (by simp)
  have h1 := blk_put h0 1 v1 (cs' := #[v0, v1, a2, a3, a4, a5, a6, a7, a8, a9, a10]) (by simp)
  have h2 := blk_put h1 2 v2 (cs' := #[v0, v1, v2, a3, a4, a5, a6, a7, a8, a9, a10]) (by simp)
  have h3 := blk_put h2 3 v3 (cs' := #[v0, v1, v2, v3, a4, a5, a6, a7, a8, a9, a10]) (by simp)
  have h4 := blk_put h3 4 v4 (cs' := #[v0, v1, v2, v3, v4, a5, a6, a7, a8, a9, a10]) (by simp)
  have h5 := blk_put h4 5 v5 (cs' := #[v0, v1, v2, v3, v4, v5, a6, a7, a8, a9, a10]) (by simp)
  have h6 := blk_put h5 6 v6 (cs' := #[v0, v1, v2, v3, v4, v5, v6, a7, a8, a9, a10]) (by simp)
  have h7 := blk_put h6 7 v7 (cs' := #[v0, v1, v2, v3, v4, v5, v6, v7, a8, a9, a10]) (by simp)
  have h8 := blk_put h7 8 v8 (cs' := #[v0, v1, v2, v3, v4, v5, v6, v7, v8, a9, a10]) (by simp)
  have h9 := blk_put h8 9 v9 (cs' := #[v0, v1, v2, v3, v4, v5, v6, v7, v8, v9, a10]) (by simp)
  have h10 := blk_put h9 10 v10 (cs' := #[v0, v1, v2, v3, v4, v5, v6, v7, v8, v9, v10]) (by simp)
  exact h10
theorem far11q {w : World} {g b : Nat} {cs : Array Value} {t : TypeId} (h : w.heap[b]? = some (.cells cs t (0, 0))) (hg : b ≠ g) (v0 v1 v2 v3 v4 v5 v6 v7 v8 v9 v10 : Value) : (((((((((((w.setCell ⟨g, 0, none⟩ (v0)).setCell ⟨g, 1, none⟩ (v1)).setCell ⟨g, 2, none⟩ (v2)).setCell ⟨g, 3, none⟩ (v3)).setCell ⟨g, 4, none⟩ (v4)).setCell ⟨g, 5, none⟩ (v5)).setCell ⟨g, 6, none⟩ (v6)).setCell ⟨g, 7, none⟩ (v7)).setCell ⟨g, 8, none⟩ (v8)).setCell ⟨g, 9, none⟩ (v9)).setCell ⟨g, 10, none⟩ (v10)).heap[b]? = some (.cells cs t (0, 0)) := by
  have h0 := blk_far h (p := ⟨g, 0, none⟩) hg v0
  have h1 := blk_far h0 (p := ⟨g, 1, none⟩) hg v1
  have h2 := blk_far h1 (p := ⟨g, 2, none⟩) hg v2
  have h3 := blk_far h2 (p := ⟨g, 3, none⟩) hg v3
  have h4 := blk_far h3 (p := ⟨g, 4, none⟩) hg v4
  have h5 := blk_far h4 (p := ⟨g, 5, none⟩) hg v5
  have h6 := blk_far h5 (p := ⟨g, 6, none⟩) hg v6
  have h7 := blk_far h6 (p := ⟨g, 7, none⟩) hg v7
  have h8 := blk_far h7 (p := ⟨g, 8, none⟩) hg v8
  have h9 := blk_far h8 (p := ⟨g, 9, none⟩) hg v9
  have h10 := blk_far h9 (p := ⟨g, 10, none⟩) hg v10
  exact h10
theorem bel11q {w w5 : World} {g : Nat} (h : Below w.heap.size w w5) (hg : w.heap.size ≤ g) (v0 v1 v2 v3 v4 v5 v6 v7 v8 v9 v10 : Value) : Below w.heap.size w (((((((((((w5.setCell ⟨g, 0, none⟩ (v0)).setCell ⟨g, 1, none⟩ (v1)).setCell ⟨g, 2, none⟩ (v2)).setCell ⟨g, 3, none⟩ (v3)).setCell ⟨g, 4, none⟩ (v4)).setCell ⟨g, 5, none⟩ (v5)).setCell ⟨g, 6, none⟩ (v6)).setCell ⟨g, 7, none⟩ (v7)).setCell ⟨g, 8, none⟩ (v8)).setCell ⟨g, 9, none⟩ (v9)).setCell ⟨g, 10, none⟩ (v10)) := by
  have h0 := bl_set h (p := ⟨g, 0, none⟩) hg v0
  have h1 := bl_set h0 (p := ⟨g, 1, none⟩) hg v1
  have h2 := bl_set h1 (p := ⟨g, 2, none⟩) hg v2
  have h3 := bl_set h2 (p := ⟨g, 3, none⟩) hg v3
  have h4 := bl_set h3 (p := ⟨g, 4, none⟩) hg v4
  have h5 := bl_set h4 (p := ⟨g, 5, none⟩) hg v5
  have h6 := bl_set h5 (p := ⟨g, 6, none⟩) hg v6
  have h7 := bl_set h6 (p := ⟨g, 7, none⟩) hg v7
  have h8 := bl_set h7 (p := ⟨g, 8, none⟩) hg v8
  have h9 := bl_set h8 (p := ⟨g, 9, none⟩) hg v9
  have h10 := bl_set h9 (p := ⟨g, 10, none⟩) hg v10
  exact h10
theorem cut_one {P : Program} (t e : TypeId) {i : TypeInfo} (ht : P.underlying t = some (.slice e)) (hi : P.info? e = some i) (hsz : i.size = 2) (g n c : Nat) (hn : 1 ≤ n) (hc : n ≤ c) :
    ∃ A' : Option Addr, (∀ W : World, (Instr.slice t (.slice (some ⟨g, 0, none⟩) n c) (some (.int .i64 1)) none none).run P W = .ok (.slice A' (n - 1) (c - 1)) W) ∧ (2 ≤ n → A' = some ⟨g, 2, none⟩) := by
  refine ⟨if c = 1 then some ⟨g, 0, none⟩ else some ⟨g, 2, none⟩, fun W => ?_, fun h => by rw [if_neg (by omega)]⟩
  have hel : P.elem t = e := by simp [Program.elem, ht]
  have hu : P.underlying t = some (.slice (P.elem t)) := by rw [hel]; exact ht
  have h1 := run_slice_l W t (some ⟨g, 0, none⟩) n c hu .i64 1 (by omega) (by omega)
  rw [h1, hel]
  simp [sizeOf, typeInfo, hi, hsz, sliced, Result.andThen, Addr.add]
theorem addr_lit (g o i : Nat) : (⟨g, o, none⟩ : Addr).add i = ⟨g, o + i, none⟩ := by unfold Addr.add; split <;> simp_all
theorem RdPages.drop1 {w : World} {g : Nat} {ps : List Pg} (h : RdPages w (some ⟨g, 0, none⟩) ps) : RdPages w (some ⟨g, 2, none⟩) (ps.drop 1) := by
  refine ⟨by have h_ := h.1; rw [List.length_drop]; omega, fun i hi => ?_⟩
  rw [List.length_drop] at hi
  obtain ⟨a, e, h1, h2, h3, h4⟩ := h.2 (i + 1) (by omega)
  obtain rfl := Option.some.inj e
  have hg : (ps.drop 1).getD i default = ps.getD (i + 1) default := by simp [List.getD_eq_getElem?_getD, Nat.add_comm]
  rw [hg]
  refine ⟨_, rfl, ?_, ?_, h3, h4⟩
  · rw [addr_lit] at h1 ⊢
    rw [show 2 + i * 2 = 0 + (i + 1) * 2 by omega]; exact h1
  · rw [addr_lit] at h2 ⊢
    simp only at h2 ⊢
    rw [show 2 + i * 2 + 1 = 0 + (i + 1) * 2 + 1 by omega]; exact h2
theorem RdPages.put {w : World} {g o : Nat} {ps : List Pg} {cs : Array Value} {t : TypeId} (h : RdPages w (some ⟨g, o, none⟩) ps) (k : Nat) (hk : k < ps.length) (r : Row) (hb : w.heap[g]? = some (.cells cs t (0, 0)))
    (hr : RowOk (w.setCell ⟨g, o + k * 2 + 1, none⟩ (encR r)) r) (hp : ∀ p ∈ ps, RowOk (w.setCell ⟨g, o + k * 2 + 1, none⟩ (encR r)) p.d ∧ RowOk (w.setCell ⟨g, o + k * 2 + 1, none⟩ (encR r)) p.o) :
    RdPages (w.setCell ⟨g, o + k * 2 + 1, none⟩ (encR r)) (some ⟨g, o, none⟩) (ps.set k ⟨(ps.getD k default).d, r⟩) := by
  have hput := blk_put hb (o + k * 2 + 1) (encR r) rfl
  have other : ∀ j v, w.cell? ⟨g, j, none⟩ = some v → j ≠ o + k * 2 + 1 → (w.setCell ⟨g, o + k * 2 + 1, none⟩ (encR r)).cell? ⟨g, j, none⟩ = some v := by
    intro j v hv hj
    rw [blk_cell hb] at hv
    rw [blk_cell hput]
    rw [Array.getElem?_setIfInBounds_ne (by omega)]
    exact hv
  refine ⟨by have h_ := h.1; rw [List.length_set]; exact h_, fun i hi => ?_⟩
  rw [List.length_set] at hi
  obtain ⟨a, e, h1, h2, h3, h4⟩ := h.2 i hi
  obtain rfl := Option.some.inj e
  have hm : ps.getD i default ∈ ps := by rw [List.getD_eq_getElem?_getD, List.getElem?_eq_getElem hi]; exact List.getElem_mem hi
  rw [addr_lit] at h1 h2
  simp only at h2
  refine ⟨_, rfl, ?_⟩
  rw [addr_lit]
  simp only
  by_cases hik : i = k
  · subst hik
    have hg : (ps.set i ⟨(ps.getD i default).d, r⟩).getD i default = ⟨(ps.getD i default).d, r⟩ := by simp [List.getD_eq_getElem?_getD, hi]
    rw [hg]
    refine ⟨other _ _ h1 (by omega), ?_, (hp _ hm).1, hr⟩
    rw [blk_cell hput]
    rw [blk_cell hb] at h2
    have hlt : o + i * 2 + 1 < cs.size := by
      rcases Nat.lt_or_ge (o + i * 2 + 1) cs.size with h' | h'
      · exact h'
      · rw [Array.getElem?_eq_none h'] at h2; cases h2
    rw [Array.getElem?_setIfInBounds_self_of_lt hlt]
  · have hg : (ps.set k ⟨(ps.getD k default).d, r⟩).getD i default = ps.getD i default := by simp [List.getD_eq_getElem?_getD, List.getElem?_set_ne (Ne.symm hik)]
    rw [hg]
    exact ⟨other _ _ h1 (by omega), other _ _ h2 (by omega), (hp _ hm).1, (hp _ hm).2⟩
theorem OwnN.setT {w : World} {base n c : Nat} {A : Option Addr} {xs : List Int} {g : Nat} {cs : Array Value} {t : TypeId} (h : OwnN w base A n c xs) (hb : w.heap[g]? = some (.cells cs t (0, 0))) (ht : 5 ≠ t) (j : Nat) (v : Value) : OwnN (w.setCell ⟨g, j, none⟩ v) base A n c xs := own_setCell h (own_ne h hb ht) v
theorem PgOk.setT {w : World} {base n : Nat} {p : Pg} {g : Nat} {cs : Array Value} {t : TypeId} (h : PgOk w base n p) (hb : w.heap[g]? = some (.cells cs t (0, 0))) (ht : 5 ≠ t) (j : Nat) (v : Value) : PgOk (w.setCell ⟨g, j, none⟩ v) base n p := ⟨⟨h.1.1.setT hb ht j v, h.1.2.setT hb ht j v⟩, h.2⟩
theorem PgOk.rows {w : World} {base n : Nat} {p : Pg} (h : PgOk w base n p) : RowOk w p.d ∧ RowOk w p.o := by
  obtain ⟨hh, hs⟩ := h.2.2
  exact ⟨h.1.1.row hs.2.2.2, h.1.2.row hs.byt⟩
theorem RdPages.far {w : World} {g o g2 j : Nat} {v : Value} {ps : List Pg} {cs : Array Value} {t : TypeId} (h : RdPages w (some ⟨g, o, none⟩) ps) (hne : g ≠ g2) (hb : w.heap[g]? = some (.cells cs t (0, 0)))
    (hp : ∀ p ∈ ps, RowOk (w.setCell ⟨g2, j, none⟩ v) p.d ∧ RowOk (w.setCell ⟨g2, j, none⟩ v) p.o) : RdPages (w.setCell ⟨g2, j, none⟩ v) (some ⟨g, o, none⟩) ps := by
  have hb2 := blk_far hb (p := ⟨g2, j, none⟩) hne v
  refine ⟨h.1, fun i hi => ?_⟩
  obtain ⟨a, e, h1, h2, h3, h4⟩ := h.2 i hi
  obtain rfl := Option.some.inj e
  have hm : ps.getD i default ∈ ps := by rw [List.getD_eq_getElem?_getD, List.getElem?_eq_getElem hi]; exact List.getElem_mem hi
  rw [addr_lit] at h1 h2
  simp only at h2
  refine ⟨_, rfl, ?_⟩
  rw [addr_lit]
  simp only
  rw [blk_cell hb] at h1 h2
  exact ⟨by rw [blk_cell hb2]; exact h1, by rw [blk_cell hb2]; exact h2, (hp _ hm).1, (hp _ hm).2⟩
theorem ownrow_blk {α : Type} {R : α → List Value → Prop} {E : TypeId} {size : Nat} {w : World} {base : Nat} {A : Option Addr} {m c : Nat} {ps : List α} (h : OwnRow R E size w base (.slice A m c) ps) (hn : 0 < ps.length) :
    ∃ g cs, A = some ⟨g, 0, none⟩ ∧ base ≤ g ∧ w.heap[g]? = some (.cells cs E (0, 0)) := by
  obtain ⟨inner, ho, hr⟩ := h
  rcases ho.2 with ⟨h2, h3⟩ | ⟨g, cap, cur, h2, hb, hg, _⟩
  · omega
  · injection h2 with e1 e2 e3
    exact ⟨g, cur, e1, hb, hg⟩
set_option maxHeartbeats 4000000 in
set_option maxRecDepth 100000 in
theorem pspoilt_walk (hs : List Hd) (rs : List Row) (x : Hd) (AH AD : Option Addr) (cH cD : Nat) (q q2 : Int) (wh at0 cc : Int) (w : World) (hh : RdHeads w AH hs) (hr : RdRows w AD rs) (hx : x.ok) (hcc : 0 ≤ cc ∧ cc < 256) :
    Calls Try.prog 7 #[.agg #[.slice AH hs.length cH, .slice AD rs.length cD, .int .i64 q, .int .i64 q2, .int .u8 x.k, .int .u32 x.e, .int .u32 x.b, .int .u16 x.i, .int .u16 x.c, .int .u32 x.l, .int .u32 x.m, .int .i64 wh, .int .i64 at0, .int .u8 cc]] w fun e w' => e = .returned (.bool true) ∧ Below w.heap.size w w' := by
  have HH := Lib.hid hh
  have HR := Lib.hid hr
  have HX := Lib.hid hx
  have HCC := Lib.hid hcc
  clear hh hr hx hcc
  have GX : Hid ((w.alloc (.cells #[.slice AH hs.length cH, .slice AD rs.length cD, .int .i64 q, .int .i64 q2, .int .u8 x.k, .int .u32 x.e, .int .u32 x.b, .int .u16 x.i, .int .u16 x.c, .int .u32 x.l, .int .u32 x.m, .int .i64 wh, .int .i64 at0, .int .u8 cc] 56)).heap[w.heap.size]? = some (.cells #[.slice AH hs.length cH, .slice AD rs.length cD, .int .i64 q, .int .i64 q2, .int .u8 x.k, .int .u32 x.e, .int .u32 x.b, .int .u16 x.i, .int .u16 x.c, .int .u32 x.l, .int .u32 x.m, .int .i64 wh, .int .i64 at0, .int .u8 cc] 56 (0, 0))) := Lib.hid (heap_alloc_new w _)
  have BB : Hid (Below w.heap.size w (w.alloc (.cells #[.slice AH hs.length cH, .slice AD rs.length cD, .int .i64 q, .int .i64 q2, .int .u8 x.k, .int .u32 x.e, .int .u32 x.b, .int .u16 x.i, .int .u16 x.c, .int .u32 x.l, .int .u32 x.m, .int .i64 wh, .int .i64 at0, .int .u8 cc] 56))) := Lib.hid (bl_alloc (Below.refl _ _) _)
  have SZ : Hid ((w.alloc (.cells #[.slice AH hs.length cH, .slice AD rs.length cD, .int .i64 q, .int .i64 q2, .int .u8 x.k, .int .u32 x.e, .int .u32 x.b, .int .u16 x.i, .int .u16 x.c, .int .u32 x.l, .int .u32 x.m, .int .i64 wh, .int .i64 at0, .int .u8 cc] 56)).heap.size = w.heap.size + 1) := Lib.hid (by simp)
  go_enter Try.func7, Try.ntmps7
  go_wp2_with fail
  obtain ⟨w0, hw0⟩ : ∃ w0, (w.alloc (.cells #[.slice AH hs.length cH, .slice AD rs.length cD, .int .i64 q, .int .i64 q2, .int .u8 x.k, .int .u32 x.e, .int .u32 x.b, .int .u16 x.i, .int .u16 x.c, .int .u32 x.l, .int .u32 x.m, .int .i64 wh, .int .i64 at0, .int .u8 cc] 56)) = w0 := ⟨_, rfl⟩
  rw [hw0] at GX BB SZ ⊢
  clear hw0
  refine start_ (n := 13) (S := fun w' => True) (ds := []) #[false, false, false, false, false, false, false, false, false, false, false, false, false] (by kernel_rfl) rfl rfl trivial (fun hHeld => ?_)
  refine with_tabW PspR.tab1 PspR.bits1 (fun HT_ HW_ => ?_)
  have BB := Lib.hid (bl_drew BB.out)
  have GX := Lib.hid (show w0.drew.heap[w.heap.size]? = _ from GX.out)
  have SZ := Lib.hid (show w0.drew.heap.size = w.heap.size + 1 from SZ.out)
  generalize w0.drew = wz at BB GX SZ hHeld ⊢
  refine pure_ (i := 0) (N := some 17) (v := ?_) (a' := ?_) #[true, false, false, false, false, false, false, false, false, false, false, false, false] rfl rfl (any_of HT_.out (by kernel_rfl)) (fun _ _ _ h => h) (Or.inl ⟨by rfl, ?_⟩) ?_ ?_
  rotate_left
  · intro w'
    go_simp
    with_reducible rfl
  rotate_left
  · simp only [Act.put, List.setIfInBounds_toArray, List.set_cons_zero, List.set_cons_succ, i64_w, i32_w]
    rfl
  refine pure_ (i := 2) (N := some 19) (v := ?_) (a' := ?_) #[true, false, true, false, false, false, false, false, false, false, false, false, false] rfl rfl (any_of HT_.out (by kernel_rfl)) (fun _ _ _ h => h) (Or.inl ⟨by rfl, ?_⟩) ?_ ?_
  rotate_left
  · intro w'
    go_simp
    with_reducible rfl
  rotate_left
  · simp only [Act.put, List.setIfInBounds_toArray, List.set_cons_zero, List.set_cons_succ, i64_w, i32_w]
    rfl
  refine pure_ (i := 4) (N := some 21) (v := ?_) (a' := ?_) #[true, false, true, false, true, false, false, false, false, false, false, false, false] rfl rfl (any_of HT_.out (by kernel_rfl)) (fun _ _ _ h => h) (Or.inl ⟨by rfl, ?_⟩) ?_ ?_
  rotate_left
  · intro w'
    go_simp
    with_reducible rfl
  rotate_left
  · simp only [Act.put, List.setIfInBounds_toArray, List.set_cons_zero, List.set_cons_succ, i64_w, i32_w]
    rfl
  refine pure_ (i := 6) (N := some 23) (v := ?_) (a' := ?_) #[true, false, true, false, true, false, true, false, false, false, false, false, false] rfl rfl (any_of HT_.out (by kernel_rfl)) (fun _ _ _ h => h) (Or.inl ⟨by rfl, ?_⟩) ?_ ?_
  rotate_left
  · intro w'
    go_simp
    with_reducible rfl
  rotate_left
  · simp only [Act.put, List.setIfInBounds_toArray, List.set_cons_zero, List.set_cons_succ, i64_w, i32_w]
    rfl
  refine inv_at [1, 3, 5, 7, 8, 9, 10, 11, 12] (fun a0_ b a w' => a = putSel a0_ b [(1, 18, .agg #[.slice AH hs.length cH, .slice AD rs.length cD, .int .i64 q, .int .i64 q2, .int .u8 x.k, .int .u32 x.e, .int .u32 x.b, .int .u16 x.i, .int .u16 x.c, .int .u32 x.l, .int .u32 x.m]), (3, 20, .int .i64 wh), (5, 22, .int .i64 at0), (7, 24, .int .u8 cc), (8, 3, .pointer (some ⟨w.heap.size + 1, 0, none⟩)), (10, 4, .int .i64 wh), (11, 5, .int .i64 at0), (12, 6, .int .u8 cc)] ∧ (Below w.heap.size w w') ∧ (w'.heap[w.heap.size]? = some (.cells #[.slice AH hs.length cH, .slice AD rs.length cD, .int .i64 q, .int .i64 q2, .int .u8 x.k, .int .u32 x.e, .int .u32 x.b, .int .u16 x.i, .int .u16 x.c, .int .u32 x.l, .int .u32 x.m, .int .i64 wh, .int .i64 at0, .int .u8 cc] 56 (0, 0))) ∧ (b 8 = false → w'.heap.size = w.heap.size + 1) ∧ (b 8 = true → b 9 = false → w'.heap[w.heap.size + 1]? = some (.cells #[.slice none 0 0, .slice none 0 0, .int .i64 0, .int .i64 0, .int .u8 0, .int .u32 0, .int .u32 0, .int .u16 0, .int .u16 0, .int .u32 0, .int .u32 0] 37 (0, 0))) ∧ (b 9 = true → w'.heap[w.heap.size + 1]? = some (.cells #[.slice AH hs.length cH, .slice AD rs.length cD, .int .i64 q, .int .i64 q2, .int .u8 x.k, .int .u32 x.e, .int .u32 x.b, .int .u16 x.i, .int .u16 x.c, .int .u32 x.l, .int .u32 x.m] 37 (0, 0)))) HT_.out HW_.out (by kernel_rfl) (by kernel_rfl) ?_ ?_ ?_
  · exact ⟨by simp only [putSel, Bool.false_eq_true, if_false], BB.out, GX.out, fun _ => SZ.out, fun h_ => absurd h_ (by decide), fun h_ => absurd h_ (by decide)⟩
  · skip
    clear BB GX SZ
    refine steps_cons ?_ ?_
    · rintro b a w' ⟨ha, Q_BB, Q_GX, Q_SZ, Q_HZ, Q_HB⟩ hb_ hon hoff
      refine ⟨_, rfl, fun K hK => ?_⟩
      have e17 : a.tmps[17]? = some (.pointer (some ⟨w.heap.size, 0, none⟩)) := by rw [ha]; exact (putSel_off rfl).trans rfl
      replace ha := Aside0.mk ha
      have BB := Aside0.mk Q_BB
      have GX := Aside0.mk Q_GX
      have hc0_ : w'.cell? ⟨w.heap.size, 0, none⟩ = some (.slice AH hs.length cH) := (blk_cell GX.out 0).trans rfl
      have hc1_ : w'.cell? ⟨w.heap.size, 1, none⟩ = some (.slice AD rs.length cD) := (blk_cell GX.out 1).trans rfl
      have hc2_ : w'.cell? ⟨w.heap.size, 2, none⟩ = some (.int .i64 q) := (blk_cell GX.out 2).trans rfl
      have hc3_ : w'.cell? ⟨w.heap.size, 3, none⟩ = some (.int .i64 q2) := (blk_cell GX.out 3).trans rfl
      have hc4_ : w'.cell? ⟨w.heap.size, 4, none⟩ = some (.int .u8 x.k) := (blk_cell GX.out 4).trans rfl
      have hc5_ : w'.cell? ⟨w.heap.size, 5, none⟩ = some (.int .u32 x.e) := (blk_cell GX.out 5).trans rfl
      have hc6_ : w'.cell? ⟨w.heap.size, 6, none⟩ = some (.int .u32 x.b) := (blk_cell GX.out 6).trans rfl
      have hc7_ : w'.cell? ⟨w.heap.size, 7, none⟩ = some (.int .u16 x.i) := (blk_cell GX.out 7).trans rfl
      have hc8_ : w'.cell? ⟨w.heap.size, 8, none⟩ = some (.int .u16 x.c) := (blk_cell GX.out 8).trans rfl
      have hc9_ : w'.cell? ⟨w.heap.size, 9, none⟩ = some (.int .u32 x.l) := (blk_cell GX.out 9).trans rfl
      have hc10_ : w'.cell? ⟨w.heap.size, 10, none⟩ = some (.int .u32 x.m) := (blk_cell GX.out 10).trans rfl
      refine value_ (w1 := w') (v := .agg #[.slice AH hs.length cH, .slice AD rs.length cD, .int .i64 q, .int .i64 q2, .int .u8 x.k, .int .u32 x.e, .int .u32 x.b, .int .u16 x.i, .int .u16 x.c, .int .u32 x.l, .int .u32 x.m]) (by rfl) rfl ?_ ?_
      · go_simp
        (try simp only [i64_w])
        try rfl
      refine hK.out _ _ ⟨(by rw [ha.out]; exact putSel_upk 0 hb_ rfl rfl rfl), Q_BB, Q_GX, Q_SZ, Q_HZ, fun h0_ => absurd ((hoff 9 (by kernel_rfl)).symm.trans h0_) (by decide)⟩
    refine steps_cons ?_ ?_
    · rintro b a w' ⟨ha, Q_BB, Q_GX, Q_SZ, Q_HZ, Q_HB⟩ hb_ hon hoff
      refine ⟨_, rfl, fun K hK => ?_⟩
      have e19 : a.tmps[19]? = some (.pointer (some ⟨w.heap.size, 11, none⟩)) := by rw [ha]; exact (putSel_off rfl).trans rfl
      replace ha := Aside0.mk ha
      have BB := Aside0.mk Q_BB
      have GX := Aside0.mk Q_GX
      have hc0_ : w'.cell? ⟨w.heap.size, 11, none⟩ = some (.int .i64 wh) := (blk_cell GX.out 11).trans rfl
      refine value_ (w1 := w') (v := .int .i64 wh) (by rfl) rfl ?_ ?_
      · go_simp
        (try simp only [i64_w])
        try rfl
      refine hK.out _ _ ⟨(by rw [ha.out]; exact putSel_upk 1 hb_ rfl rfl rfl), Q_BB, Q_GX, Q_SZ, Q_HZ, Q_HB⟩
    refine steps_cons ?_ ?_
    · rintro b a w' ⟨ha, Q_BB, Q_GX, Q_SZ, Q_HZ, Q_HB⟩ hb_ hon hoff
      refine ⟨_, rfl, fun K hK => ?_⟩
      have e21 : a.tmps[21]? = some (.pointer (some ⟨w.heap.size, 12, none⟩)) := by rw [ha]; exact (putSel_off rfl).trans rfl
      replace ha := Aside0.mk ha
      have BB := Aside0.mk Q_BB
      have GX := Aside0.mk Q_GX
      have hc0_ : w'.cell? ⟨w.heap.size, 12, none⟩ = some (.int .i64 at0) := (blk_cell GX.out 12).trans rfl
      refine value_ (w1 := w') (v := .int .i64 at0) (by rfl) rfl ?_ ?_
      · go_simp
        (try simp only [i64_w])
        try rfl
      refine hK.out _ _ ⟨(by rw [ha.out]; exact putSel_upk 2 hb_ rfl rfl rfl), Q_BB, Q_GX, Q_SZ, Q_HZ, Q_HB⟩
    refine steps_cons ?_ ?_
    · rintro b a w' ⟨ha, Q_BB, Q_GX, Q_SZ, Q_HZ, Q_HB⟩ hb_ hon hoff
      refine ⟨_, rfl, fun K hK => ?_⟩
      have e23 : a.tmps[23]? = some (.pointer (some ⟨w.heap.size, 13, none⟩)) := by rw [ha]; exact (putSel_off rfl).trans rfl
      replace ha := Aside0.mk ha
      have BB := Aside0.mk Q_BB
      have GX := Aside0.mk Q_GX
      have hc0_ : w'.cell? ⟨w.heap.size, 13, none⟩ = some (.int .u8 cc) := (blk_cell GX.out 13).trans rfl
      refine value_ (w1 := w') (v := .int .u8 cc) (by rfl) rfl ?_ ?_
      · go_simp
        (try simp only [i64_w])
        try rfl
      refine hK.out _ _ ⟨(by rw [ha.out]; exact putSel_upk 3 hb_ rfl rfl rfl), Q_BB, Q_GX, Q_SZ, Q_HZ, Q_HB⟩
    refine steps_cons ?_ ?_
    · rintro b a w' ⟨ha, Q_BB, Q_GX, Q_SZ, Q_HZ, Q_HB⟩ hb_ hon hoff
      refine ⟨_, rfl, fun K hK => ?_⟩
      replace ha := Aside0.mk ha
      have BB := Aside0.mk Q_BB
      have GX := Aside0.mk Q_GX
      have SZ := Aside0.mk (Q_SZ hb_)
      refine value_ (w1 := w'.alloc (.cells #[.slice none 0 0, .slice none 0 0, .int .i64 0, .int .i64 0, .int .u8 0, .int .u32 0, .int .u32 0, .int .u16 0, .int .u16 0, .int .u32 0, .int .u32 0] 37)) (v := .pointer (some ⟨w.heap.size + 1, 0, none⟩)) (by rfl) rfl ?_ ?_
      · go_simp
        try rw [SZ.out]
        try rfl
      refine hK.out _ _ ⟨(by rw [ha.out]; exact putSel_upk 4 hb_ rfl rfl rfl), bl_alloc BB.out _, blk_alloc GX.out _, fun h0_ => absurd ((up_self b 8).symm.trans h0_) (by decide), fun _ _ => (by have h_ := heap_alloc_new w' (.cells #[.slice none 0 0, .slice none 0 0, .int .i64 0, .int .i64 0, .int .u8 0, .int .u32 0, .int .u32 0, .int .u16 0, .int .u16 0, .int .u32 0, .int .u32 0] 37); rw [SZ.out] at h_; exact h_), fun h0_ => absurd ((hoff 9 (by kernel_rfl)).symm.trans h0_) (by decide)⟩
    refine steps_cons ?_ ?_
    · rintro b a w' ⟨ha, Q_BB, Q_GX, Q_SZ, Q_HZ, Q_HB⟩ hb_ hon hoff
      refine ⟨_, rfl, fun K hK => ?_⟩
      have e3 : a.tmps[3]? = some (.pointer (some ⟨w.heap.size + 1, 0, none⟩)) := by rw [ha]; exact putSel_on (e := (8, 3, .pointer (some ⟨w.heap.size + 1, 0, none⟩))) 4 rfl rfl (hon 8 (by kernel_rfl)) rfl
      have e18 : a.tmps[18]? = some (.agg #[.slice AH hs.length cH, .slice AD rs.length cD, .int .i64 q, .int .i64 q2, .int .u8 x.k, .int .u32 x.e, .int .u32 x.b, .int .u16 x.i, .int .u16 x.c, .int .u32 x.l, .int .u32 x.m]) := by rw [ha]; exact putSel_on (e := (1, 18, .agg #[.slice AH hs.length cH, .slice AD rs.length cD, .int .i64 q, .int .i64 q2, .int .u8 x.k, .int .u32 x.e, .int .u32 x.b, .int .u16 x.i, .int .u16 x.c, .int .u32 x.l, .int .u32 x.m])) 0 rfl rfl (hon 1 (by kernel_rfl)) rfl
      replace ha := Aside0.mk ha
      have BB := Aside0.mk Q_BB
      have GX := Aside0.mk Q_GX
      have HZ := Aside0.mk (Q_HZ (hon 8 (by kernel_rfl)) hb_)
      have zc0 : w'.cell? ⟨w.heap.size + 1, 0, none⟩ = some (.slice none 0 0) := (blk_cell HZ.out 0).trans rfl
      have zc1 : w'.cell? ⟨w.heap.size + 1, 1, none⟩ = some (.slice none 0 0) := (blk_cell HZ.out 1).trans rfl
      have zc2 : w'.cell? ⟨w.heap.size + 1, 2, none⟩ = some (.int .i64 0) := (blk_cell HZ.out 2).trans rfl
      have zc3 : w'.cell? ⟨w.heap.size + 1, 3, none⟩ = some (.int .i64 0) := (blk_cell HZ.out 3).trans rfl
      have zc4 : w'.cell? ⟨w.heap.size + 1, 4, none⟩ = some (.int .u8 0) := (blk_cell HZ.out 4).trans rfl
      have zc5 : w'.cell? ⟨w.heap.size + 1, 5, none⟩ = some (.int .u32 0) := (blk_cell HZ.out 5).trans rfl
      have zc6 : w'.cell? ⟨w.heap.size + 1, 6, none⟩ = some (.int .u32 0) := (blk_cell HZ.out 6).trans rfl
      have zc7 : w'.cell? ⟨w.heap.size + 1, 7, none⟩ = some (.int .u16 0) := (blk_cell HZ.out 7).trans rfl
      have zc8 : w'.cell? ⟨w.heap.size + 1, 8, none⟩ = some (.int .u16 0) := (blk_cell HZ.out 8).trans rfl
      have zc9 : w'.cell? ⟨w.heap.size + 1, 9, none⟩ = some (.int .u32 0) := (blk_cell HZ.out 9).trans rfl
      have zc10 : w'.cell? ⟨w.heap.size + 1, 10, none⟩ = some (.int .u32 0) := (blk_cell HZ.out 10).trans rfl
      have zf0 := blk_frozen HZ.out 0
      have zf1 := blk_frozen HZ.out 1
      have zf2 := blk_frozen HZ.out 2
      have zf3 := blk_frozen HZ.out 3
      have zf4 := blk_frozen HZ.out 4
      have zf5 := blk_frozen HZ.out 5
      have zf6 := blk_frozen HZ.out 6
      have zf7 := blk_frozen HZ.out 7
      have zf8 := blk_frozen HZ.out 8
      have zf9 := blk_frozen HZ.out 9
      have zf10 := blk_frozen HZ.out 10
      refine skip_ (w1 := (((((((((((w'.setCell ⟨w.heap.size + 1, 0, none⟩ (.slice AH hs.length cH)).setCell ⟨w.heap.size + 1, 1, none⟩ (.slice AD rs.length cD)).setCell ⟨w.heap.size + 1, 2, none⟩ (.int .i64 q)).setCell ⟨w.heap.size + 1, 3, none⟩ (.int .i64 q2)).setCell ⟨w.heap.size + 1, 4, none⟩ (.int .u8 x.k)).setCell ⟨w.heap.size + 1, 5, none⟩ (.int .u32 x.e)).setCell ⟨w.heap.size + 1, 6, none⟩ (.int .u32 x.b)).setCell ⟨w.heap.size + 1, 7, none⟩ (.int .u16 x.i)).setCell ⟨w.heap.size + 1, 8, none⟩ (.int .u16 x.c)).setCell ⟨w.heap.size + 1, 9, none⟩ (.int .u32 x.l)).setCell ⟨w.heap.size + 1, 10, none⟩ (.int .u32 x.m))) (by rfl) rfl ?_ ?_
      · go_simp
        try rfl
      refine hK.out _ _ ⟨(by rw [ha.out]; exact putSel_none (v := undef) rfl), bel11q BB.out (by omega) (.slice AH hs.length cH) (.slice AD rs.length cD) (.int .i64 q) (.int .i64 q2) (.int .u8 x.k) (.int .u32 x.e) (.int .u32 x.b) (.int .u16 x.i) (.int .u16 x.c) (.int .u32 x.l) (.int .u32 x.m), far11q GX.out (by omega) (.slice AH hs.length cH) (.slice AD rs.length cD) (.int .i64 q) (.int .i64 q2) (.int .u8 x.k) (.int .u32 x.e) (.int .u32 x.b) (.int .u16 x.i) (.int .u16 x.c) (.int .u32 x.l) (.int .u32 x.m), fun h0_ => absurd ((hon 8 (by kernel_rfl)).symm.trans h0_) (by decide), fun _ h1_ => absurd ((up_self b 9).symm.trans h1_) (by decide), fun _ => put11q HZ.out (.slice AH hs.length cH) (.slice AD rs.length cD) (.int .i64 q) (.int .i64 q2) (.int .u8 x.k) (.int .u32 x.e) (.int .u32 x.b) (.int .u16 x.i) (.int .u16 x.c) (.int .u32 x.l) (.int .u32 x.m)⟩
    refine steps_cons ?_ ?_
    · rintro b a w' ⟨ha, Q_BB, Q_GX, Q_SZ, Q_HZ, Q_HB⟩ hb_ hon hoff
      refine ⟨_, rfl, fun K hK => ?_⟩
      have e20 : a.tmps[20]? = some (.int .i64 wh) := by rw [ha]; exact putSel_on (e := (3, 20, .int .i64 wh)) 1 rfl rfl (hon 3 (by kernel_rfl)) rfl
      replace ha := Aside0.mk ha
      have BB := Aside0.mk Q_BB
      have GX := Aside0.mk Q_GX
      have HB := Aside0.mk (Q_HB (hon 9 (by kernel_rfl)))
      refine value_ (w1 := w') (v := .int .i64 wh) (by rfl) rfl ?_ ?_
      · go_simp
        (try simp only [i64_w])
        try rfl
      refine hK.out _ _ ⟨(by rw [ha.out]; exact putSel_upk 5 hb_ rfl rfl rfl), Q_BB, Q_GX, fun h0_ => absurd ((hon 8 (by kernel_rfl)).symm.trans h0_) (by decide), fun _ h1_ => absurd ((hon 9 (by kernel_rfl)).symm.trans h1_) (by decide), Q_HB⟩
    refine steps_cons ?_ ?_
    · rintro b a w' ⟨ha, Q_BB, Q_GX, Q_SZ, Q_HZ, Q_HB⟩ hb_ hon hoff
      refine ⟨_, rfl, fun K hK => ?_⟩
      have e22 : a.tmps[22]? = some (.int .i64 at0) := by rw [ha]; exact putSel_on (e := (5, 22, .int .i64 at0)) 2 rfl rfl (hon 5 (by kernel_rfl)) rfl
      replace ha := Aside0.mk ha
      have BB := Aside0.mk Q_BB
      have GX := Aside0.mk Q_GX
      have HB := Aside0.mk (Q_HB (hon 9 (by kernel_rfl)))
      refine value_ (w1 := w') (v := .int .i64 at0) (by rfl) rfl ?_ ?_
      · go_simp
        (try simp only [i64_w])
        try rfl
      refine hK.out _ _ ⟨(by rw [ha.out]; exact putSel_upk 6 hb_ rfl rfl rfl), Q_BB, Q_GX, fun h0_ => absurd ((hon 8 (by kernel_rfl)).symm.trans h0_) (by decide), fun _ h1_ => absurd ((hon 9 (by kernel_rfl)).symm.trans h1_) (by decide), Q_HB⟩
    refine steps_cons ?_ ?_
    · rintro b a w' ⟨ha, Q_BB, Q_GX, Q_SZ, Q_HZ, Q_HB⟩ hb_ hon hoff
      refine ⟨_, rfl, fun K hK => ?_⟩
      have e24 : a.tmps[24]? = some (.int .u8 cc) := by rw [ha]; exact putSel_on (e := (7, 24, .int .u8 cc)) 3 rfl rfl (hon 7 (by kernel_rfl)) rfl
      replace ha := Aside0.mk ha
      have BB := Aside0.mk Q_BB
      have GX := Aside0.mk Q_GX
      have HB := Aside0.mk (Q_HB (hon 9 (by kernel_rfl)))
      refine value_ (w1 := w') (v := .int .u8 cc) (by rfl) rfl ?_ ?_
      · go_simp
        (try simp only [i64_w])
        try rfl
      refine hK.out _ _ ⟨(by rw [ha.out]; exact putSel_upk 7 hb_ rfl rfl rfl), Q_BB, Q_GX, fun h0_ => absurd ((hon 8 (by kernel_rfl)).symm.trans h0_) (by decide), fun _ h1_ => absurd ((hon 9 (by kernel_rfl)).symm.trans h1_) (by decide), Q_HB⟩
    exact steps_nil
  · rintro b a w' hall ⟨ha, Q_BB, Q_GX, Q_SZ, Q_HZ, Q_HB⟩
    clear BB GX SZ
    have hb1_ := hall 1 (by kernel_rfl)
    have hb3_ := hall 3 (by kernel_rfl)
    have hb5_ := hall 5 (by kernel_rfl)
    have hb7_ := hall 7 (by kernel_rfl)
    have hb8_ := hall 8 (by kernel_rfl)
    have hb9_ := hall 9 (by kernel_rfl)
    have hb10_ := hall 10 (by kernel_rfl)
    have hb11_ := hall 11 (by kernel_rfl)
    have hb12_ := hall 12 (by kernel_rfl)
    subst ha
    simp only [putSel, hb1_, hb3_, hb5_, hb7_, hb8_, hb9_, hb10_, hb11_, hb12_, if_true, Act.put, List.setIfInBounds_toArray, List.set_cons_zero, List.set_cons_succ]
    have BB := Aside0.mk Q_BB
    clear Q_BB
    have GX := Aside0.mk Q_GX
    clear Q_GX
    clear Q_SZ
    clear Q_HZ
    have HB := Aside0.mk (Q_HB hb9_)
    clear Q_HB
    clear hall hb1_ hb3_ hb5_ hb7_ hb8_ hb9_ hb10_ hb11_ hb12_
    have TE := Lib.hid BB.out
    have GE := Lib.hid HB.out
    clear BB GX HB
    obtain ⟨wE, hwE⟩ : ∃ wE, wE = w' := ⟨_, rfl⟩
    rw [← hwE] at TE GE ⊢
    clear hwE
    have z0 : wE.cell? ⟨w.heap.size + 1, 0, none⟩ = some (.slice AH hs.length cH) := (blk_cell GE.out 0).trans rfl
    have z1 : wE.cell? ⟨w.heap.size + 1, 1, none⟩ = some (.slice AD rs.length cD) := (blk_cell GE.out 1).trans rfl
    have z2 : wE.cell? ⟨w.heap.size + 1, 2, none⟩ = some (.int .i64 q) := (blk_cell GE.out 2).trans rfl
    have z3 : wE.cell? ⟨w.heap.size + 1, 3, none⟩ = some (.int .i64 q2) := (blk_cell GE.out 3).trans rfl
    have z4 : wE.cell? ⟨w.heap.size + 1, 4, none⟩ = some (.int .u8 x.k) := (blk_cell GE.out 4).trans rfl
    have z5 : wE.cell? ⟨w.heap.size + 1, 5, none⟩ = some (.int .u32 x.e) := (blk_cell GE.out 5).trans rfl
    have z6 : wE.cell? ⟨w.heap.size + 1, 6, none⟩ = some (.int .u32 x.b) := (blk_cell GE.out 6).trans rfl
    have z7 : wE.cell? ⟨w.heap.size + 1, 7, none⟩ = some (.int .u16 x.i) := (blk_cell GE.out 7).trans rfl
    have z8 : wE.cell? ⟨w.heap.size + 1, 8, none⟩ = some (.int .u16 x.c) := (blk_cell GE.out 8).trans rfl
    have z9 : wE.cell? ⟨w.heap.size + 1, 9, none⟩ = some (.int .u32 x.l) := (blk_cell GE.out 9).trans rfl
    have z10 : wE.cell? ⟨w.heap.size + 1, 10, none⟩ = some (.int .u32 x.m) := (blk_cell GE.out 10).trans rfl
    go_wp2_with fail
    clear z0 z1 z2 z3 z4 z5 z6 z7 z8 z9 z10
    refine (pages_any hs rs x AH AD cH cD q q2 wE (HH.out.below TE.out) (HR.out.below TE.out)).mono ?_
    rintro e w1 ⟨hb1, hcase⟩
    have G1 := Lib.hid (blk_below GE.out hb1)
    have T1 := Lib.hid (bl_seq TE.out hb1)
    have ZE := Lib.hid (show w.heap.size + 1 < wE.heap.size from blk_lt GE.out)
    clear hb1 TE GE
    rcases hcase with rfl | ⟨ps, va, vb, n, rfl, hp1, hp12, hn300, hoa, hob, hsep, hpk⟩
    · go_wp2_with fail
      refine (summed_any _).mono ?_
      rintro e w2 ⟨rfl, hb2⟩
      have T2 := Lib.hid (bl_seq T1.out hb2)
      clear hb2
      go_wp2_with fail
      refine (summed_any _).mono ?_
      rintro e w3 ⟨rfl, hb3⟩
      have T3 := Lib.hid (bl_seq T2.out hb3)
      clear hb3
      go_wp2_with fail
      go_ret
      exact ⟨rfl, T3.out⟩
    obtain ⟨Aa, ca, rfl, hca⟩ := hoa.slice_
    obtain ⟨Ab, cb, rfl, hcb⟩ := hob.slice_
    go_wp2_with fail
    refine (summed_any _).mono ?_
    rintro e w2 ⟨rfl, hb2⟩
    have HA := Lib.hid (hoa.below hb2)
    have HB := Lib.hid (hob.below hb2)
    have HS := Lib.hid hsep
    have HP := Lib.hid (fun p hp => (hpk p hp).below hb2)
    have G2 := Lib.hid (blk_below G1.out hb2)
    have T2 := Lib.hid (bl_seq T1.out hb2)
    have hmd : mlen (dataL ps) ≤ 300 := mlen_bound (b := 300) fun l hl => by
      obtain ⟨p, hp, rfl⟩ := List.mem_map.1 hl
      have h_ := (hpk p hp).2.1; omega
    have HM := Lib.hid hmd
    clear hoa hob hsep hpk hb2 hmd G1 T1
    have z4 : w2.cell? ⟨w.heap.size + 1, 4, none⟩ = some (.int .u8 x.k) := (blk_cell G2.out 4).trans rfl
    have z5 : w2.cell? ⟨w.heap.size + 1, 5, none⟩ = some (.int .u32 x.e) := (blk_cell G2.out 5).trans rfl
    have z6 : w2.cell? ⟨w.heap.size + 1, 6, none⟩ = some (.int .u32 x.b) := (blk_cell G2.out 6).trans rfl
    have z7 : w2.cell? ⟨w.heap.size + 1, 7, none⟩ = some (.int .u16 x.i) := (blk_cell G2.out 7).trans rfl
    have z8 : w2.cell? ⟨w.heap.size + 1, 8, none⟩ = some (.int .u16 x.c) := (blk_cell G2.out 8).trans rfl
    have z9 : w2.cell? ⟨w.heap.size + 1, 9, none⟩ = some (.int .u32 x.l) := (blk_cell G2.out 9).trans rfl
    have z10 : w2.cell? ⟨w.heap.size + 1, 10, none⟩ = some (.int .u32 x.m) := (blk_cell G2.out 10).trans rfl
    go_wp2_with fail
    clear z4 z5 z6 z7 z8 z9 z10
    refine (Of_any x ps Aa ca w2 HX.out (rdpages_of HA.out HP.out) (by have h_ := HM.out; omega) (by omega)).mono ?_
    rintro e w3 ⟨A1, c1, A2, c2, rfl, hd3, ho3, hb3⟩
    have bD : Byt (xorL (dataL ps)) := xorL_byt fun l hl => by
      obtain ⟨p, hp, rfl⟩ := List.mem_map.1 hl
      obtain ⟨_, hs⟩ := (HP.out p hp).2.2
      exact hs.2.2.2
    have bO : Byt (sealL x (xorL (dataL ps)) (xorL (headL ps))) := sealL_byt _ _ (xorL_byt fun l hl => by
      obtain ⟨p, hp, rfl⟩ := List.mem_map.1 hl
      obtain ⟨_, hs⟩ := (HP.out p hp).2.2
      exact fun y hy => hs.byt y (List.take_subset _ _ hy))
    have hlD : (xorL (dataL ps)).length ≤ 300 := by rw [xorL_length]; exact HM.out
    have BY := Lib.hid (And.intro bD (And.intro bO (And.intro (show (sealL x (xorL (dataL ps)) (xorL (headL ps))).length = 64 from sealL_length _ _ _) hlD)))
    have bp : ∀ c1 c2 : Array Value, Below w3.heap.size w3 ((w3.alloc (.cells c1 43)).alloc (.cells c2 45)) := fun _ _ => bl_alloc (bl_alloc (Below.refl _ _) _) _
    obtain ⟨DL, hDL⟩ : ∃ DL, xorL (dataL ps) = DL := ⟨_, rfl⟩
    rw [hDL] at hd3 ho3 BY ⊢
    obtain ⟨OL, hOL⟩ : ∃ OL, sealL x DL (xorL (headL ps)) = OL := ⟨_, rfl⟩
    rw [hOL] at ho3 BY
    clear hDL hOL bD bO hlD
    have T4 := Lib.hid (bl_seq (bl_seq T2.out hb3) (bp #[.slice A1 DL.length c1, .slice A2 64 c2] #[.slice A1 DL.length c1, .slice A2 64 c2]))
    have HA4 := Lib.hid ((HA.out.below hb3).below (bp #[.slice A1 DL.length c1, .slice A2 64 c2] #[.slice A1 DL.length c1, .slice A2 64 c2]))
    have HB4 := Lib.hid ((HB.out.below hb3).below (bp #[.slice A1 DL.length c1, .slice A2 64 c2] #[.slice A1 DL.length c1, .slice A2 64 c2]))
    have HP4 := Lib.hid (fun p hp => ((HP.out p hp).below hb3).below (bp #[.slice A1 DL.length c1, .slice A2 64 c2] #[.slice A1 DL.length c1, .slice A2 64 c2]))
    have D4 := Lib.hid (hd3.below (bp #[.slice A1 DL.length c1, .slice A2 64 c2] #[.slice A1 DL.length c1, .slice A2 64 c2]))
    have O4 := Lib.hid (ho3.below (bp #[.slice A1 DL.length c1, .slice A2 64 c2] #[.slice A1 DL.length c1, .slice A2 64 c2]))
    have GP4 := Lib.hid (blk_alloc (heap_alloc_new w3 (.cells #[.slice A1 DL.length c1, .slice A2 64 c2] 43)) (.cells #[.slice A1 DL.length c1, .slice A2 64 c2] 45))
    have h9 := heap_alloc_new (w3.alloc (.cells #[.slice A1 DL.length c1, .slice A2 64 c2] 43)) (.cells #[.slice A1 DL.length c1, .slice A2 64 c2] 45)
    simp only [World.size_alloc] at h9
    have G94 := Lib.hid h9
    have zw : w2.heap.size ≤ w3.heap.size := hb3.size
    have HAL := Lib.hid (fun j hj => (ownrow_lt HA.out j hj).2)
    have HBL := Lib.hid (fun j hj => (ownrow_lt HB.out j hj).2)
    have ZW := Lib.hid zw
    clear hd3 ho3 hb3 bp h9 zw HA HB HP G2 T2
    go_wp2_with fail
    obtain ⟨w4, hw4⟩ : ∃ w4, (w3.alloc (.cells #[.slice A1 DL.length c1, .slice A2 64 c2] 43)).alloc (.cells #[.slice A1 DL.length c1, .slice A2 64 c2] 45) = w4 := ⟨_, rfl⟩
    rw [hw4] at T4 HA4 HB4 HP4 D4 O4 GP4 G94 ⊢
    obtain ⟨gP, hgP⟩ : ∃ gP, w3.heap.size = gP := ⟨_, rfl⟩
    rw [hgP] at GP4 G94 ZW ⊢
    clear hw4 hgP
    obtain ⟨ga, csa, rfl, hga, hgha⟩ := ownrow_blk HA4.out (by omega)
    obtain ⟨gb, csb, rfl, hgb, hghb⟩ := ownrow_blk HB4.out (by omega)
    obtain ⟨i43, hi43, hz43, hs43, hb43⟩ := info_parts infoPg
    obtain ⟨i45, hi45, hz45, hs45, hb45⟩ := info_parts infoP9
    obtain ⟨Aa1, hcutA, hA1⟩ := cut_one (P := Try.prog) 38 43 Try.underlying38 hi43 hs43 ga ps.length ca hp1 hca
    obtain ⟨Ab1, hcutB, hB1⟩ := cut_one (P := Try.prog) 39 45 Try.underlying39 hi45 hs45 gb ps.length cb hp1 hcb
    have HCA := Lib.hid (And.intro hgha (And.intro hghb (And.intro hA1 hB1)))
    clear hgha hghb hA1 hB1 i43 hi43 hz43 hs43 hb43 i45 hi45 hz45 hs45 hb45
    go_quiet (fail)
    have b45 : Below w4.heap.size w4 (w4.drewN nq) := bl_drewN (Below.refl _ _) nq
    have T5 := Lib.hid (bl_seq T4.out b45)
    have HP5 := Lib.hid (fun p hp => (HP4.out p hp).below b45)
    have HA5 := Lib.hid (HA4.out.below b45)
    have HB5 := Lib.hid (HB4.out.below b45)
    have D5 := Lib.hid (D4.out.below b45)
    have O5 := Lib.hid (O4.out.below b45)
    have GP5 := Lib.hid (blk_below GP4.out b45)
    have G95 := Lib.hid (blk_below G94.out b45)
    have HC5 := Lib.hid (And.intro (blk_below HCA.out.1 b45) (And.intro (blk_below HCA.out.2.1 b45) HCA.out.2.2))
    obtain ⟨w5, hw5⟩ : ∃ w5, w4.drewN nq = w5 := ⟨_, rfl⟩
    rw [hw5] at T5 HP5 HA5 HB5 D5 O5 GP5 G95 HC5 ⊢
    clear b45 hw5 T4 HP4 HA4 HB4 D4 O4 GP4 G94 HCA hcutA hcutB
    obtain ⟨na, hna⟩ : ∃ na, ps.length - 1 = na := ⟨_, rfl⟩
    rw [hna]
    rcases Nat.eq_zero_or_pos na with hz | hpos
    · obtain ⟨R, hR⟩ : ∃ R : List Pg, R = [] := ⟨_, rfl⟩
      have hRn : R.length = na := by rw [hR, hz]; rfl
      have RA : Hid (RdPages w5 Aa1 R) := Lib.hid (by rw [hR]; exact ⟨by simp, fun i hi => absurd hi (by simp)⟩)
      have RB : Hid (RdPages w5 Ab1 R) := Lib.hid (by rw [hR]; exact ⟨by simp, fun i hi => absurd hi (by simp)⟩)
      have HMR : Hid (mlen (DL :: dataL R) ≤ 900000) := Lib.hid (by rw [hR]; simp only [mlen, dataL, List.map_nil]; have h_ := BY.out.2.2.2; omega)
      have TF := T5
      have GPF := GP5
      have G9F := G95
      have DF : Hid (OwnN w5 w2.heap.size A1 DL.length c1 DL) := Lib.hid (D5.out.base (by omega))
      have OF : Hid (OwnN w5 w2.heap.size A2 64 c2 OL) := Lib.hid (O5.out.base (by omega))
      obtain ⟨wF, hwF⟩ : ∃ wF, w5 = wF := ⟨_, rfl⟩
      rw [hwF] at RA RB TF GPF G9F DF OF ⊢
      have hz0 : ¬ ((0 : Int) < (na : Int)) := by omega
      clear hwF hR HC5 T5 HP5 HA5 HB5 D5 O5 GP5 G95 hz
      have p0 : wF.cell? ⟨gP, 0, none⟩ = some (.slice A1 DL.length c1) := (blk_cell GPF.out 0).trans rfl
      have p1 : wF.cell? ⟨gP, 1, none⟩ = some (.slice A2 64 c2) := (blk_cell GPF.out 1).trans rfl
      have hmi := Missing_any DL OL R A1 A2 Aa1 DL.length c1 64 c2 (ca - 1) wF DF.out.reads.1 DF.out.reads.2 BY.out.1 OF.out.reads.1 OF.out.reads.2 BY.out.2.1 RA.out HMR.out (by omega)
      have hr9 : ∀ W, OwnN W w2.heap.size A1 DL.length c1 DL → OwnN W w2.heap.size A2 64 c2 OL → RdPages W Ab1 R → _ := fun W g1 g2 g3 => rMissing_any DL OL R A1 A2 Ab1 DL.length c1 64 c2 (cb - 1) W g1.reads.1 g1.reads.2 BY.out.1 g2.reads.1 g2.reads.2 BY.out.2.1 g3 HMR.out (by omega)
      rw [hRn] at hmi
      simp only [hRn] at hr9
      have hE : (missB DL OL R = true ∧ missE DL OL R = 0) ∨ (missB DL OL R = false ∧ missE DL OL R = 63) := by
        cases hB : missB DL OL R
        · exact .inr ⟨rfl, (miss_no hB).2.2⟩
        · exact .inl ⟨rfl, (miss_yes hB).2.2⟩
      generalize missD DL OL R = MD at hmi hr9
      generalize missO DL OL R = MO at hmi hr9
      generalize missB DL OL R = mB at hE hr9
      generalize missE DL OL R = mE at hE hmi
      have HMI := Lib.hid hmi
      have HR9 := Lib.hid hr9
      clear hmi hr9
      rcases hE with ⟨rfl, rfl⟩ | ⟨rfl, rfl⟩
      · go_wp2_with fail
        refine HMI.out.mono ?_
        rintro e w7 ⟨A3, c3, A5, c5, rfl, hr3, hr5, hb7⟩
        have T7 := Lib.hid (bl_seq TF.out hb7)
        have G97 := Lib.hid (blk_below G9F.out hb7)
        have D7 := Lib.hid (DF.out.below hb7)
        have O7 := Lib.hid (OF.out.below hb7)
        have RB7 := Lib.hid (RB.out.below hb7)
        have R37 := Lib.hid hr3
        have R57 := Lib.hid hr5
        clear hr3 hr5 hb7 p0 p1 HMI
        have q0 : ∀ o, (w7.alloc o).cell? ⟨gP + 1, 0, none⟩ = some (.slice A1 DL.length c1) := fun o => (blk_cell (blk_alloc G97.out o) 0).trans rfl
        have q1_ : ∀ o, (w7.alloc o).cell? ⟨gP + 1, 1, none⟩ = some (.slice A2 64 c2) := fun o => (blk_cell (blk_alloc G97.out o) 1).trans rfl
        go_wp2_with fail
        clear q0 q1_
        have bA : Below w7.heap.size w7 (w7.alloc (.cells #[.slice A3 MD.length c3, .slice A5 MO.length c5] 43)) := bl_alloc (Below.refl _ _) _
        have QG := Lib.hid (heap_alloc_new w7 (.cells #[.slice A3 MD.length c3, .slice A5 MO.length c5] 43))
        refine (HR9.out _ (D7.out.below bA) (O7.out.below bA) (RB7.out.below bA)).mono ?_
        rintro e w8 ⟨A6, c6, A7, c7, rfl, hr6, hr7, hb8⟩
        have T8 := Lib.hid (bl_seq (bl_seq T7.out bA) hb8)
        have QG8 := Lib.hid (blk_below QG.out hb8)
        have R38 := Lib.hid ((R37.out.below bA).below hb8)
        have R58 := Lib.hid ((R57.out.below bA).below hb8)
        have R68 := Lib.hid hr6
        have R78 := Lib.hid hr7
        clear hr6 hr7 hb8 bA T7 QG R37 R57 D7 O7 RB7 G97 HR9
        obtain ⟨gQ, hgQ⟩ : ∃ gQ, w7.heap.size = gQ := ⟨_, rfl⟩
        rw [hgQ] at QG8 ⊢
        clear hgQ
        have q0 : ∀ o, (w8.alloc o).cell? ⟨gQ, 0, none⟩ = some (.slice A3 MD.length c3) := fun o => (blk_cell (blk_alloc QG8.out o) 0).trans rfl
        go_wp2_with fail
        clear q0
        have bA : Below w8.heap.size w8 (w8.alloc (.cells #[.slice A6 MD.length c6, .slice A7 MO.length c7] 45)) := bl_alloc (Below.refl _ _) _
        refine (rSame_any MD MD A3 A6 MD.length MD.length c3 c6 _ (R38.out.below bA).2.1 (R68.out.below bA).2.1 R38.out.2.2 R68.out.2.2).mono ?_
        rintro e w9 ⟨he, hn9⟩
        rw [decide_eq_true rfl] at he
        subst he
        have T9 := Lib.hid (bl_seq (bl_seq T8.out bA) hn9.below)
        have q1_ : w9.cell? ⟨gQ, 1, none⟩ = some (.slice A5 MO.length c5) := (blk_cell (blk_below (blk_below QG8.out bA) hn9.below) 1).trans rfl
        have q2_ : w9.cell? ⟨w8.heap.size, 1, none⟩ = some (.slice A7 MO.length c7) := (blk_cell (blk_below (heap_alloc_new w8 (.cells #[.slice A6 MD.length c6, .slice A7 MO.length c7] 45)) hn9.below) 1).trans rfl
        have R59 := Lib.hid ((R58.out.below bA).below hn9.below)
        have R79 := Lib.hid ((R78.out.below bA).below hn9.below)
        clear hn9 bA T8 QG8 R38 R58 R68 R78
        go_wp2_with fail
        refine (rSame_any MO MO A5 A7 MO.length MO.length c5 c7 w9 R59.out.2.1 R79.out.2.1 R59.out.2.2 R79.out.2.2).mono ?_
        rintro e w10 ⟨he, hn10⟩
        rw [decide_eq_true rfl] at he
        subst he
        have T10 := Lib.hid (bl_seq T9.out hn10.below)
        clear hn10 q1_ q2_
        go_wp2_with fail
        go_ret
        exact ⟨rfl, T10.out⟩
      · go_wp2_with fail
        refine HMI.out.mono ?_
        rintro e w7 ⟨A3, c3, A5, c5, rfl, hr3, hr5, hb7⟩
        have T7 := Lib.hid (bl_seq TF.out hb7)
        have G97 := Lib.hid (blk_below G9F.out hb7)
        have D7 := Lib.hid (DF.out.below hb7)
        have O7 := Lib.hid (OF.out.below hb7)
        have RB7 := Lib.hid (RB.out.below hb7)
        have R37 := Lib.hid hr3
        have R57 := Lib.hid hr5
        clear hr3 hr5 hb7 p0 p1 HMI
        have q0 : ∀ o, (w7.alloc o).cell? ⟨gP + 1, 0, none⟩ = some (.slice A1 DL.length c1) := fun o => (blk_cell (blk_alloc G97.out o) 0).trans rfl
        have q1_ : ∀ o, (w7.alloc o).cell? ⟨gP + 1, 1, none⟩ = some (.slice A2 64 c2) := fun o => (blk_cell (blk_alloc G97.out o) 1).trans rfl
        go_wp2_with fail
        clear q0 q1_
        have bA : Below w7.heap.size w7 (w7.alloc (.cells #[.slice A3 MD.length c3, .slice A5 MO.length c5] 43)) := bl_alloc (Below.refl _ _) _
        have QG := Lib.hid (heap_alloc_new w7 (.cells #[.slice A3 MD.length c3, .slice A5 MO.length c5] 43))
        refine (HR9.out _ (D7.out.below bA) (O7.out.below bA) (RB7.out.below bA)).mono ?_
        rintro e w8 ⟨A6, c6, A7, c7, rfl, hr6, hr7, hb8⟩
        have T8 := Lib.hid (bl_seq (bl_seq T7.out bA) hb8)
        have QG8 := Lib.hid (blk_below QG.out hb8)
        have R38 := Lib.hid ((R37.out.below bA).below hb8)
        have R58 := Lib.hid ((R57.out.below bA).below hb8)
        have R68 := Lib.hid hr6
        have R78 := Lib.hid hr7
        clear hr6 hr7 hb8 bA T7 QG R37 R57 D7 O7 RB7 G97 HR9
        obtain ⟨gQ, hgQ⟩ : ∃ gQ, w7.heap.size = gQ := ⟨_, rfl⟩
        rw [hgQ] at QG8 ⊢
        clear hgQ
        have q0 : ∀ o, (w8.alloc o).cell? ⟨gQ, 0, none⟩ = some (.slice A3 MD.length c3) := fun o => (blk_cell (blk_alloc QG8.out o) 0).trans rfl
        go_wp2_with fail
        clear q0
        have bA : Below w8.heap.size w8 (w8.alloc (.cells #[.slice A6 MD.length c6, .slice A7 MO.length c7] 45)) := bl_alloc (Below.refl _ _) _
        refine (rSame_any MD MD A3 A6 MD.length MD.length c3 c6 _ (R38.out.below bA).2.1 (R68.out.below bA).2.1 R38.out.2.2 R68.out.2.2).mono ?_
        rintro e w9 ⟨he, hn9⟩
        rw [decide_eq_true rfl] at he
        subst he
        have T9 := Lib.hid (bl_seq (bl_seq T8.out bA) hn9.below)
        have q1_ : w9.cell? ⟨gQ, 1, none⟩ = some (.slice A5 MO.length c5) := (blk_cell (blk_below (blk_below QG8.out bA) hn9.below) 1).trans rfl
        have q2_ : w9.cell? ⟨w8.heap.size, 1, none⟩ = some (.slice A7 MO.length c7) := (blk_cell (blk_below (heap_alloc_new w8 (.cells #[.slice A6 MD.length c6, .slice A7 MO.length c7] 45)) hn9.below) 1).trans rfl
        have R59 := Lib.hid ((R58.out.below bA).below hn9.below)
        have R79 := Lib.hid ((R78.out.below bA).below hn9.below)
        clear hn9 bA T8 QG8 R38 R58 R68 R78
        go_wp2_with fail
        refine (rSame_any MO MO A5 A7 MO.length MO.length c5 c7 w9 R59.out.2.1 R79.out.2.1 R59.out.2.2 R79.out.2.2).mono ?_
        rintro e w10 ⟨he, hn10⟩
        rw [decide_eq_true rfl] at he
        subst he
        have T10 := Lib.hid (bl_seq T9.out hn10.below)
        clear hn10 q1_ q2_
        go_wp2_with fail
        go_ret
        exact ⟨rfl, T10.out⟩
    · have hge : 2 ≤ ps.length := by omega
      obtain rfl := HC5.out.2.2.1 hge
      obtain rfl := HC5.out.2.2.2 hge
      obtain ⟨k, hk, hkl⟩ := modU wh (na : Int) (by omega) (by omega)
      obtain ⟨at1, hat, hatl⟩ := modU at0 64 (by omega) (by omega)
      have hlw := u64_nat (n := na) (by omega)
      have hkn : k < na := by omega
      obtain ⟨Q, hQ⟩ : ∃ Q, ps.drop 1 = Q := ⟨_, rfl⟩
      have hQl : Q.length = na := by rw [← hQ, List.length_drop]; omega
      have RA5 := (rdpages_of HA5.out HP5.out).drop1
      have RB5 := (rdpages_of HB5.out HP5.out).drop1
      rw [hQ] at RA5 RB5
      have hQm : ∀ p ∈ Q, p ∈ ps := fun p hp => by rw [← hQ] at hp; exact List.mem_of_mem_drop hp
      obtain ⟨pk, hpk⟩ : ∃ pk, Q.getD k default = pk := ⟨_, rfl⟩
      have hpm : pk ∈ ps := hQm _ (by rw [← hpk, List.getD_eq_getElem?_getD, List.getElem?_eq_getElem (by omega)]; exact List.getElem_mem (by omega))
      have hpo : pk.o.l.length = 64 := by obtain ⟨_, hs⟩ := (HP5.out pk hpm).2.2; exact hs.len
      obtain ⟨a_, e_, ka1, ka2, -, -⟩ := RA5.2 k (by omega)
      obtain rfl := Option.some.inj e_
      obtain ⟨b_, f_, kb1, kb2, -, -⟩ := RB5.2 k (by omega)
      obtain rfl := Option.some.inj f_
      rw [hpk] at ka1 ka2 kb1 kb2
      rw [addr_lit] at ka1 ka2 kb1 kb2
      simp only [encR] at ka2 kb2
      have hki : ((k : Int) * 2).toNat = k * 2 := by omega
      have HPQ := Lib.hid (And.intro hQl (And.intro hQm (And.intro hpk (And.intro hpm hpo))))
      have RQ := Lib.hid (And.intro RA5 RB5)
      clear hQ hQl RA5 RB5 hQm hpk hpm hpo ka1 kb1 e_ f_
      go_wp2_with fail
      clear hlw hki
      have b5 : Below w5.heap.size w5 (w5.alloc (.cells #[.int .u8 cc] 5)) := bl_alloc (Below.refl _ _) _
      have hbx : ReadsInt (w5.alloc (.cells #[.int .u8 cc] 5)) .u8 (some ⟨w5.heap.size, 0, none⟩) 1 [cc] := reads_box w5 .u8 [cc] 1 _ rfl (by omega)
      have hro := ((HP5.out pk HPQ.out.2.2.2.1).below b5).rows.2
      have hpo := HPQ.out.2.2.2.2
      refine (rWith_any pk.o.l [cc] pk.o.A _ pk.o.c 1 1 (at1 : Int) _ hro.2.1 hro.1 hbx (by omega) (by rw [hpo]; omega) (by rw [hpo]; omega)).mono ?_
      rintro e w6 ⟨v6, rfl, hn6⟩
      have hnl : (pk.o.l.take (at1 : Int).toNat ++ [cc] ++ pk.o.l.drop ((at1 : Int) + (1 : Nat)).toNat).length = 64 := by
        simp only [List.length_append, List.length_take, List.length_drop, List.length_cons, List.length_nil]; omega
      have hnb : Byt (pk.o.l.take (at1 : Int).toNat ++ [cc] ++ pk.o.l.drop ((at1 : Int) + (1 : Nat)).toNat) := by
        intro z hz
        rcases List.mem_append.1 hz with hz | hz
        · rcases List.mem_append.1 hz with hz | hz
          · exact hro.2.2 z (List.take_subset _ _ hz)
          · obtain rfl := List.mem_singleton.1 hz; exact HCC.out
        · exact hro.2.2 z (List.drop_subset _ _ hz)
      obtain ⟨An, cn, rfl, hcn⟩ := hn6.shape 64 hnl
      have b56 : Below w5.heap.size w5 w6 := bl_seq b5 hn6.bel
      have hw25 : w2.heap.size ≤ w5.heap.size := by have h1_ := blk_lt GP5.out; have h2_ := ZW.out; omega
      have N6 := Lib.hid ((show OwnN w6 _ An 64 cn _ from hn6.own hnl).base (b' := w2.heap.size) (by simp; omega))
      obtain ⟨NL, hNL⟩ : ∃ NL, pk.o.l.take (at1 : Int).toNat ++ [cc] ++ pk.o.l.drop ((at1 : Int) + (1 : Nat)).toNat = NL := ⟨_, rfl⟩
      rw [hNL] at N6 hnl hnb
      have HNL := Lib.hid (And.intro hnl hnb)
      have T6 := Lib.hid (bl_seq T5.out b56)
      have HP6 := Lib.hid (fun p hp => (HP5.out p hp).below b56)
      have ga6 := blk_below HC5.out.1 b56
      have gb6 := blk_below HC5.out.2.1 b56
      have GP6 := blk_below GP5.out b56
      have G96 := blk_below G95.out b56
      have D6 := Lib.hid (D5.out.below b56)
      have O6 := Lib.hid (O5.out.below b56)
      have RQ6 := Lib.hid (And.intro (RQ.out.1.below b56) (RQ.out.2.below b56))
      have hal := HAL.out ga rfl
      have hbl := HBL.out gb rfl
      have hzw := ZW.out
      have hab : ga ≠ gb := by have h_ := HS.out; simpa [Value.ownBlock] using h_
      have gb7 := blk_far gb6 (p := ⟨ga, 2 + k * 2 + 1, none⟩) (Ne.symm hab) (.slice An 64 cn)
      have ga7 := blk_put ga6 (2 + k * 2 + 1) (.slice An 64 cn) rfl
      have y1 : w6.cell? ⟨ga, 2 + k * 2 + 1, none⟩ = some (.slice pk.o.A pk.o.l.length pk.o.c) := pw_cell_below b56 ka2
      have yf1 := blk_frozen ga6 (2 + k * 2 + 1)
      have y2 : (w6.setCell ⟨ga, 2 + k * 2 + 1, none⟩ (.slice An 64 cn)).cell? ⟨ga, 2 + k * 2 + 1, none⟩ = some (.slice An 64 cn) := by
        have hlt : 2 + k * 2 + 1 < csa.size := by
          rw [blk_cell ga6] at y1
          rcases Nat.lt_or_ge (2 + k * 2 + 1) csa.size with h' | h'
          · exact h'
          · rw [Array.getElem?_eq_none h'] at y1; cases y1
        rw [blk_cell ga7, Array.getElem?_setIfInBounds_self_of_lt hlt]
      have y3 : (w6.setCell ⟨ga, 2 + k * 2 + 1, none⟩ (.slice An 64 cn)).cell? ⟨gb, 2 + k * 2 + 1, none⟩ = some (.slice pk.o.A pk.o.l.length pk.o.c) := by
        rw [blk_cell gb7, ← blk_cell gb6]; exact pw_cell_below b56 kb2
      have yf3 : (w6.setCell ⟨ga, 2 + k * 2 + 1, none⟩ (.slice An 64 cn)).frozen? ⟨gb, 2 + k * 2 + 1, none⟩ = false := blk_frozen gb7 _
      have GPF := Lib.hid (blk_far (blk_far GP6 (p := ⟨ga, 2 + k * 2 + 1, none⟩) (by show gP ≠ ga; omega) (.slice An 64 cn)) (p := ⟨gb, 2 + k * 2 + 1, none⟩) (by show gP ≠ gb; omega) (.slice An 64 cn))
      have G9F := Lib.hid (blk_far (blk_far G96 (p := ⟨ga, 2 + k * 2 + 1, none⟩) (by show gP + 1 ≠ ga; omega) (.slice An 64 cn)) (p := ⟨gb, 2 + k * 2 + 1, none⟩) (by show gP + 1 ≠ gb; omega) (.slice An 64 cn))
      have p0 : ((w6.setCell ⟨ga, 2 + k * 2 + 1, none⟩ (.slice An 64 cn)).setCell ⟨gb, 2 + k * 2 + 1, none⟩ (.slice An 64 cn)).cell? ⟨gP, 0, none⟩ = some (.slice A1 DL.length c1) := (blk_cell GPF.out 0).trans rfl
      have p1 : ((w6.setCell ⟨ga, 2 + k * 2 + 1, none⟩ (.slice An 64 cn)).setCell ⟨gb, 2 + k * 2 + 1, none⟩ (.slice An 64 cn)).cell? ⟨gP, 1, none⟩ = some (.slice A2 64 c2) := (blk_cell GPF.out 1).trans rfl
      have hki : ((k : Int) * 2).toNat = k * 2 := by omega
      have HXX := Lib.hid (And.intro ga6 (And.intro gb6 (And.intro ga7 (And.intro gb7 (And.intro hab (And.intro hal hbl))))))
      clear b5 hbx hro hpo hn6 hnl hnb hcn b56 hw25 hNL ga6 gb6 GP6 G96 hal hbl hzw hab gb7 ga7 ka2 kb2 T5 HP5 HA5 HB5 D5 O5 GP5 G95 RQ
      go_wp2_with fail
      clear p0 p1 y1 yf1 y2 y3 yf3
      have ga6 := HXX.out.1
      have gb6 := HXX.out.2.1
      have ga7 := HXX.out.2.2.1
      have gb7 := HXX.out.2.2.2.1
      have hab := HXX.out.2.2.2.2.1
      have hQl := HPQ.out.1
      have hQm := HPQ.out.2.1
      have hpk := HPQ.out.2.2.1
      have hpm := HPQ.out.2.2.2.1
      obtain ⟨NR, hNR⟩ : ∃ NR : Row, NR = ⟨An, cn, NL⟩ := ⟨_, rfl⟩
      have hE : encR NR = (.slice An 64 cn) := by rw [hNR, encR]; show Value.slice An NL.length cn = _; rw [HNL.out.1]
      have hP7 : ∀ p ∈ ps, PgOk (w6.setCell ⟨ga, 2 + k * 2 + 1, none⟩ (.slice An 64 cn)) wE.heap.size n p := fun p hp => (HP6.out p hp).setT ga6 (by decide) _ _
      have hP8 : ∀ p ∈ ps, PgOk ((w6.setCell ⟨ga, 2 + k * 2 + 1, none⟩ (.slice An 64 cn)).setCell ⟨gb, 2 + k * 2 + 1, none⟩ (.slice An 64 cn)) wE.heap.size n p := fun p hp => (hP7 p hp).setT gb7 (by decide) _ _
      have N7 := N6.out.setT ga6 (by decide) (2 + k * 2 + 1) (.slice An 64 cn)
      have N8 := N7.setT gb7 (by decide) (2 + k * 2 + 1) (.slice An 64 cn)
      have RA7 := RdPages.put RQ6.out.1 k (by omega) NR ga6 (by rw [hE, hNR]; exact N7.row HNL.out.2) (fun p hp => by rw [hE]; exact (hP7 p (hQm p hp)).rows)
      rw [hE, hpk] at RA7
      have RA8 := RdPages.far (g2 := gb) (j := 2 + k * 2 + 1) (v := (.slice An 64 cn)) RA7 hab ga7 (fun p hp => by
        rcases List.mem_or_eq_of_mem_set hp with hp | rfl
        · exact (hP8 p (hQm p hp)).rows
        · exact ⟨(hP8 pk hpm).rows.1, by rw [hNR]; exact N8.row HNL.out.2⟩)
      have RB7 := RdPages.far (g2 := ga) (j := 2 + k * 2 + 1) (v := (.slice An 64 cn)) RQ6.out.2 (Ne.symm hab) gb6 (fun p hp => (hP7 p (hQm p hp)).rows)
      have RB8 := RdPages.put RB7 k (by omega) NR gb7 (by rw [hE, hNR]; exact N8.row HNL.out.2) (fun p hp => by rw [hE]; exact (hP8 p (hQm p hp)).rows)
      rw [hE, hpk] at RB8
      have HMR : Hid (mlen (DL :: dataL (Q.set k ⟨pk.d, NR⟩)) ≤ 900000) := Lib.hid (by
        refine Nat.le_trans (mlen_bound (b := 300) fun l hl => ?_) (by omega)
        rcases List.mem_cons.1 hl with rfl | hl
        · exact BY.out.2.2.2
        · obtain ⟨p, hp, rfl⟩ := List.mem_map.1 hl
          rcases List.mem_or_eq_of_mem_set hp with hp | rfl
          · have h_ := (HP6.out p (hQm p hp)).2.1; omega
          · have h_ := (HP6.out pk hpm).2.1; show pk.d.l.length ≤ 300; omega)
      have hRn : (Q.set k ⟨pk.d, NR⟩).length = na := by rw [List.length_set]; exact hQl
      obtain ⟨R, hR⟩ : ∃ R, Q.set k ⟨pk.d, NR⟩ = R := ⟨_, rfl⟩
      rw [hR] at RA8 RB8 HMR hRn
      have hwa : w.heap.size ≤ ga := by have h_ := ZE.out; omega
      have hwb : w.heap.size ≤ gb := by have h_ := ZE.out; omega
      have TF := Lib.hid (bl_set (bl_set T6.out (p := ⟨ga, 2 + k * 2 + 1, none⟩) hwa (.slice An 64 cn)) (p := ⟨gb, 2 + k * 2 + 1, none⟩) hwb (.slice An 64 cn))
      have DF := Lib.hid (((D6.out.base (b' := w2.heap.size) (by omega)).setT ga6 (by decide) (2 + k * 2 + 1) (.slice An 64 cn)).setT gb7 (by decide) (2 + k * 2 + 1) (.slice An 64 cn))
      have OF := Lib.hid (((O6.out.base (b' := w2.heap.size) (by omega)).setT ga6 (by decide) (2 + k * 2 + 1) (.slice An 64 cn)).setT gb7 (by decide) (2 + k * 2 + 1) (.slice An 64 cn))
      have RA := Lib.hid RA8
      have RB := Lib.hid RB8
      clear RA7 RB7 RA8 RB8 N7 N8 hP7 hP8 hE hNR hR hwa hwb ga6 gb6 ga7 gb7 hab hQl hQm hpk hpm T6 D6 O6 HP6 RQ6 N6 HXX
      obtain ⟨wF, hwF⟩ : ∃ wF, ((w6.setCell ⟨ga, 2 + k * 2 + 1, none⟩ (.slice An 64 cn)).setCell ⟨gb, 2 + k * 2 + 1, none⟩ (.slice An 64 cn)) = wF := ⟨_, rfl⟩
      rw [hwF] at TF DF OF RA RB GPF G9F ⊢
      obtain ⟨Aa1, hAa⟩ : ∃ A' : Option Addr, A' = some ⟨ga, 2, none⟩ := ⟨_, rfl⟩
      obtain ⟨Ab1, hAb⟩ : ∃ A' : Option Addr, A' = some ⟨gb, 2, none⟩ := ⟨_, rfl⟩
      rw [← hAa] at RA ⊢
      rw [← hAb] at RB ⊢
      clear hwF hAa hAb
      have hmi := Missing_any DL OL R A1 A2 Aa1 DL.length c1 64 c2 (ca - 1) wF DF.out.reads.1 DF.out.reads.2 BY.out.1 OF.out.reads.1 OF.out.reads.2 BY.out.2.1 RA.out HMR.out (by omega)
      have hr9 : ∀ W, OwnN W w2.heap.size A1 DL.length c1 DL → OwnN W w2.heap.size A2 64 c2 OL → RdPages W Ab1 R → _ := fun W g1 g2 g3 => rMissing_any DL OL R A1 A2 Ab1 DL.length c1 64 c2 (cb - 1) W g1.reads.1 g1.reads.2 BY.out.1 g2.reads.1 g2.reads.2 BY.out.2.1 g3 HMR.out (by omega)
      rw [hRn] at hmi
      simp only [hRn] at hr9
      have hE : (missB DL OL R = true ∧ missE DL OL R = 0) ∨ (missB DL OL R = false ∧ missE DL OL R = 63) := by
        cases hB : missB DL OL R
        · exact .inr ⟨rfl, (miss_no hB).2.2⟩
        · exact .inl ⟨rfl, (miss_yes hB).2.2⟩
      generalize missD DL OL R = MD at hmi hr9
      generalize missO DL OL R = MO at hmi hr9
      generalize missB DL OL R = mB at hE hr9
      generalize missE DL OL R = mE at hE hmi
      have HMI := Lib.hid hmi
      have HR9 := Lib.hid hr9
      clear hmi hr9
      rcases hE with ⟨rfl, rfl⟩ | ⟨rfl, rfl⟩
      · refine HMI.out.mono ?_
        rintro e w7 ⟨A3, c3, A5, c5, rfl, hr3, hr5, hb7⟩
        have T7 := Lib.hid (bl_seq TF.out hb7)
        have G97 := Lib.hid (blk_below G9F.out hb7)
        have D7 := Lib.hid (DF.out.below hb7)
        have O7 := Lib.hid (OF.out.below hb7)
        have RB7 := Lib.hid (RB.out.below hb7)
        have R37 := Lib.hid hr3
        have R57 := Lib.hid hr5
        clear hr3 hr5 hb7 HMI
        have q0 : ∀ o, (w7.alloc o).cell? ⟨gP + 1, 0, none⟩ = some (.slice A1 DL.length c1) := fun o => (blk_cell (blk_alloc G97.out o) 0).trans rfl
        have q1_ : ∀ o, (w7.alloc o).cell? ⟨gP + 1, 1, none⟩ = some (.slice A2 64 c2) := fun o => (blk_cell (blk_alloc G97.out o) 1).trans rfl
        go_wp2_with fail
        clear q0 q1_
        have bA : Below w7.heap.size w7 (w7.alloc (.cells #[.slice A3 MD.length c3, .slice A5 MO.length c5] 43)) := bl_alloc (Below.refl _ _) _
        have QG := Lib.hid (heap_alloc_new w7 (.cells #[.slice A3 MD.length c3, .slice A5 MO.length c5] 43))
        refine (HR9.out _ (D7.out.below bA) (O7.out.below bA) (RB7.out.below bA)).mono ?_
        rintro e w8 ⟨A6, c6, A7, c7, rfl, hr6, hr7, hb8⟩
        have T8 := Lib.hid (bl_seq (bl_seq T7.out bA) hb8)
        have QG8 := Lib.hid (blk_below QG.out hb8)
        have R38 := Lib.hid ((R37.out.below bA).below hb8)
        have R58 := Lib.hid ((R57.out.below bA).below hb8)
        have R68 := Lib.hid hr6
        have R78 := Lib.hid hr7
        clear hr6 hr7 hb8 bA T7 QG R37 R57 D7 O7 RB7 G97 HR9
        obtain ⟨gQ, hgQ⟩ : ∃ gQ, w7.heap.size = gQ := ⟨_, rfl⟩
        rw [hgQ] at QG8 ⊢
        clear hgQ
        have q0 : ∀ o, (w8.alloc o).cell? ⟨gQ, 0, none⟩ = some (.slice A3 MD.length c3) := fun o => (blk_cell (blk_alloc QG8.out o) 0).trans rfl
        go_wp2_with fail
        clear q0
        have bA : Below w8.heap.size w8 (w8.alloc (.cells #[.slice A6 MD.length c6, .slice A7 MO.length c7] 45)) := bl_alloc (Below.refl _ _) _
        refine (rSame_any MD MD A3 A6 MD.length MD.length c3 c6 _ (R38.out.below bA).2.1 (R68.out.below bA).2.1 R38.out.2.2 R68.out.2.2).mono ?_
        rintro e w9 ⟨he, hn9⟩
        rw [decide_eq_true rfl] at he
        subst he
        have T9 := Lib.hid (bl_seq (bl_seq T8.out bA) hn9.below)
        have q1_ : w9.cell? ⟨gQ, 1, none⟩ = some (.slice A5 MO.length c5) := (blk_cell (blk_below (blk_below QG8.out bA) hn9.below) 1).trans rfl
        have q2_ : w9.cell? ⟨w8.heap.size, 1, none⟩ = some (.slice A7 MO.length c7) := (blk_cell (blk_below (heap_alloc_new w8 (.cells #[.slice A6 MD.length c6, .slice A7 MO.length c7] 45)) hn9.below) 1).trans rfl
        have R59 := Lib.hid ((R58.out.below bA).below hn9.below)
        have R79 := Lib.hid ((R78.out.below bA).below hn9.below)
        clear hn9 bA T8 QG8 R38 R58 R68 R78
        go_wp2_with fail
        refine (rSame_any MO MO A5 A7 MO.length MO.length c5 c7 w9 R59.out.2.1 R79.out.2.1 R59.out.2.2 R79.out.2.2).mono ?_
        rintro e w10 ⟨he, hn10⟩
        rw [decide_eq_true rfl] at he
        subst he
        have T10 := Lib.hid (bl_seq T9.out hn10.below)
        clear hn10 q1_ q2_
        go_wp2_with fail
        go_ret
        exact ⟨rfl, T10.out⟩
      · refine HMI.out.mono ?_
        rintro e w7 ⟨A3, c3, A5, c5, rfl, hr3, hr5, hb7⟩
        have T7 := Lib.hid (bl_seq TF.out hb7)
        have G97 := Lib.hid (blk_below G9F.out hb7)
        have D7 := Lib.hid (DF.out.below hb7)
        have O7 := Lib.hid (OF.out.below hb7)
        have RB7 := Lib.hid (RB.out.below hb7)
        have R37 := Lib.hid hr3
        have R57 := Lib.hid hr5
        clear hr3 hr5 hb7 HMI
        have q0 : ∀ o, (w7.alloc o).cell? ⟨gP + 1, 0, none⟩ = some (.slice A1 DL.length c1) := fun o => (blk_cell (blk_alloc G97.out o) 0).trans rfl
        have q1_ : ∀ o, (w7.alloc o).cell? ⟨gP + 1, 1, none⟩ = some (.slice A2 64 c2) := fun o => (blk_cell (blk_alloc G97.out o) 1).trans rfl
        go_wp2_with fail
        clear q0 q1_
        have bA : Below w7.heap.size w7 (w7.alloc (.cells #[.slice A3 MD.length c3, .slice A5 MO.length c5] 43)) := bl_alloc (Below.refl _ _) _
        have QG := Lib.hid (heap_alloc_new w7 (.cells #[.slice A3 MD.length c3, .slice A5 MO.length c5] 43))
        refine (HR9.out _ (D7.out.below bA) (O7.out.below bA) (RB7.out.below bA)).mono ?_
        rintro e w8 ⟨A6, c6, A7, c7, rfl, hr6, hr7, hb8⟩
        have T8 := Lib.hid (bl_seq (bl_seq T7.out bA) hb8)
        have QG8 := Lib.hid (blk_below QG.out hb8)
        have R38 := Lib.hid ((R37.out.below bA).below hb8)
        have R58 := Lib.hid ((R57.out.below bA).below hb8)
        have R68 := Lib.hid hr6
        have R78 := Lib.hid hr7
        clear hr6 hr7 hb8 bA T7 QG R37 R57 D7 O7 RB7 G97 HR9
        obtain ⟨gQ, hgQ⟩ : ∃ gQ, w7.heap.size = gQ := ⟨_, rfl⟩
        rw [hgQ] at QG8 ⊢
        clear hgQ
        have q0 : ∀ o, (w8.alloc o).cell? ⟨gQ, 0, none⟩ = some (.slice A3 MD.length c3) := fun o => (blk_cell (blk_alloc QG8.out o) 0).trans rfl
        go_wp2_with fail
        clear q0
        have bA : Below w8.heap.size w8 (w8.alloc (.cells #[.slice A6 MD.length c6, .slice A7 MO.length c7] 45)) := bl_alloc (Below.refl _ _) _
        refine (rSame_any MD MD A3 A6 MD.length MD.length c3 c6 _ (R38.out.below bA).2.1 (R68.out.below bA).2.1 R38.out.2.2 R68.out.2.2).mono ?_
        rintro e w9 ⟨he, hn9⟩
        rw [decide_eq_true rfl] at he
        subst he
        have T9 := Lib.hid (bl_seq (bl_seq T8.out bA) hn9.below)
        have q1_ : w9.cell? ⟨gQ, 1, none⟩ = some (.slice A5 MO.length c5) := (blk_cell (blk_below (blk_below QG8.out bA) hn9.below) 1).trans rfl
        have q2_ : w9.cell? ⟨w8.heap.size, 1, none⟩ = some (.slice A7 MO.length c7) := (blk_cell (blk_below (heap_alloc_new w8 (.cells #[.slice A6 MD.length c6, .slice A7 MO.length c7] 45)) hn9.below) 1).trans rfl
        have R59 := Lib.hid ((R58.out.below bA).below hn9.below)
        have R79 := Lib.hid ((R78.out.below bA).below hn9.below)
        clear hn9 bA T8 QG8 R38 R58 R68 R78
        go_wp2_with fail
        refine (rSame_any MO MO A5 A7 MO.length MO.length c5 c7 w9 R59.out.2.1 R79.out.2.1 R59.out.2.2 R79.out.2.2).mono ?_
        rintro e w10 ⟨he, hn10⟩
        rw [decide_eq_true rfl] at he
        subst he
        have T10 := Lib.hid (bl_seq T9.out hn10.below)
        clear hn10 q1_ q2_
        go_wp2_with fail
        go_ret
        exact ⟨rfl, T10.out⟩
end Go.Proofs.Ytkbjndfmbimjiaa
