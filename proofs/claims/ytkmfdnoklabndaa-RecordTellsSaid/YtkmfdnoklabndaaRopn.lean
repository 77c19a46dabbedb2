import Derived.Test.YtkmfdnoklabndaaRop1
/-! record.Open. -/
set_option linter.unusedVariables false
set_option linter.unusedSimpArgs false
namespace Go.Proofs.Ytkmfdnoklabndaa
open Go.RowKit Go.Proofs.YtkmfdnoklabndaaW.PrintWords Go.Proofs.YtkmfdnoklabndaaW.PrintLast
theorem makeFunc_ (fn : Fn) (first cap : Array Value) (w : World) : (Instr.makeFunc fn first cap).run Try.prog w = .ok (.func fn first cap) w := rfl
theorem bel7 {w w5 : World} {g : Nat} (h : Below w.heap.size w w5) (hg : w.heap.size ≤ g) (v0 v1 v2 v3 v4 v5 v6 : Value) : Below w.heap.size w (((((((w5.setCell ⟨g, 0, none⟩ v0).setCell ⟨g, 1, none⟩ v1).setCell ⟨g, 2, none⟩ v2).setCell ⟨g, 3, none⟩ v3).setCell ⟨g, 4, none⟩ v4).setCell ⟨g, 5, none⟩ v5).setCell ⟨g, 6, none⟩ v6) := by
  have h0 := bl_set h (p := ⟨g, 0, none⟩) hg v0
  have h1 := bl_set h0 (p := ⟨g, 1, none⟩) hg v1
  have h2 := bl_set h1 (p := ⟨g, 2, none⟩) hg v2
  have h3 := bl_set h2 (p := ⟨g, 3, none⟩) hg v3
  have h4 := bl_set h3 (p := ⟨g, 4, none⟩) hg v4
  have h5 := bl_set h4 (p := ⟨g, 5, none⟩) hg v5
  have h6 := bl_set h5 (p := ⟨g, 6, none⟩) hg v6
  exact h6
theorem put7 {w : World} {g : Nat} {t : TypeId} {a0 a1 a2 a3 a4 a5 a6 : Value} (h : w.heap[g]? = some (.cells #[a0, a1, a2, a3, a4, a5, a6] t (0, 0))) (v0 v1 v2 v3 v4 v5 v6 : Value) : (((((((w.setCell ⟨g, 0, none⟩ v0).setCell ⟨g, 1, none⟩ v1).setCell ⟨g, 2, none⟩ v2).setCell ⟨g, 3, none⟩ v3).setCell ⟨g, 4, none⟩ v4).setCell ⟨g, 5, none⟩ v5).setCell ⟨g, 6, none⟩ v6).heap[g]? = some (.cells #[v0, v1, v2, v3, v4, v5, v6] t (0, 0)) := by
  have h0 := blk_put h 0 v0 (cs' := #[v0, a1, a2, a3, a4, a5, a6]) (by simp)
  have h1 := blk_put h0 1 v1 (cs' := #[v0, v1, a2, a3, a4, a5, a6]) (by simp)
  have h2 := blk_put h1 2 v2 (cs' := #[v0, v1, v2, a3, a4, a5, a6]) (by simp)
  have h3 := blk_put h2 3 v3 (cs' := #[v0, v1, v2, v3, a4, a5, a6]) (by simp)
  have h4 := blk_put h3 4 v4 (cs' := #[v0, v1, v2, v3, v4, a5, a6]) (by simp)
  have h5 := blk_put h4 5 v5 (cs' := #[v0, v1, v2, v3, v4, v5, a6]) (by simp)
  have h6 := blk_put h5 6 v6 (cs' := #[v0, v1, v2, v3, v4, v5, v6]) (by simp)
  exact h6
theorem alloc5 (w : World) (c1 c2 c3 c4 c5 : Array Value) (t1 t2 t3 t4 t5 : TypeId) (W : World) (hW : W = ((((w.alloc (.cells c1 t1)).alloc (.cells c2 t2)).alloc (.cells c3 t3)).alloc (.cells c4 t4)).alloc (.cells c5 t5)) : W.heap[w.heap.size]? = some (.cells c1 t1 (0, 0)) ∧ W.heap[w.heap.size + 1]? = some (.cells c2 t2 (0, 0)) ∧ W.heap[w.heap.size + 1 + 1]? = some (.cells c3 t3 (0, 0)) ∧ W.heap[w.heap.size + 1 + 1 + 1]? = some (.cells c4 t4 (0, 0)) ∧ W.heap[w.heap.size + 1 + 1 + 1 + 1]? = some (.cells c5 t5 (0, 0)) ∧ Below w.heap.size w W ∧ W.heap.size = w.heap.size + 5 := by
  subst hW
  have h2 := heap_alloc_new (w.alloc (.cells c1 t1)) (.cells c2 t2)
  have h3 := heap_alloc_new ((w.alloc (.cells c1 t1)).alloc (.cells c2 t2)) (.cells c3 t3)
  have h4 := heap_alloc_new (((w.alloc (.cells c1 t1)).alloc (.cells c2 t2)).alloc (.cells c3 t3)) (.cells c4 t4)
  have h5 := heap_alloc_new ((((w.alloc (.cells c1 t1)).alloc (.cells c2 t2)).alloc (.cells c3 t3)).alloc (.cells c4 t4)) (.cells c5 t5)
  simp only [World.size_alloc] at h2 h3 h4 h5
  exact ⟨blk_alloc (blk_alloc (blk_alloc (blk_alloc (heap_alloc_new w _) _) _) _) _, blk_alloc (blk_alloc (blk_alloc h2 _) _) _, blk_alloc (blk_alloc h3 _) _, blk_alloc h4 _, h5, bl_alloc (bl_alloc (bl_alloc (bl_alloc (bl_alloc (Below.refl _ _) _) _) _) _) _, by simp⟩
theorem alloc3 (w : World) (c1 c2 c3 : Array Value) (t1 t2 t3 : TypeId) (W : World) (hW : W = ((w.alloc (.cells c1 t1)).alloc (.cells c2 t2)).alloc (.cells c3 t3)) : W.heap[w.heap.size]? = some (.cells c1 t1 (0, 0)) ∧ W.heap[w.heap.size + 1]? = some (.cells c2 t2 (0, 0)) ∧ W.heap[w.heap.size + 1 + 1]? = some (.cells c3 t3 (0, 0)) ∧ Below w.heap.size w W := by
  subst hW
  have h2 := heap_alloc_new (w.alloc (.cells c1 t1)) (.cells c2 t2)
  have h3 := heap_alloc_new ((w.alloc (.cells c1 t1)).alloc (.cells c2 t2)) (.cells c3 t3)
  simp only [World.size_alloc] at h2 h3
  exact ⟨blk_alloc (blk_alloc (heap_alloc_new w _) _) _, blk_alloc h2 _, h3, bl_alloc (bl_alloc (bl_alloc (Below.refl _ _) _) _) _⟩
/-- The header that Open answers. -/
def openR (ys xs : List Int) : Hd := if openB ys xs then openH xs else hd0
theorem openR_no {ys xs : List Int} (h : openB ys xs = false) : openR ys xs = hd0 := by rw [openR, h]; rfl
theorem openR_yes {ys xs : List Int} (h : openB ys xs = true) : openR ys xs = openH xs := by rw [openR, h]; rfl
set_option maxHeartbeats 4000000 in
set_option maxRecDepth 100000 in
theorem open_any (A B : Option Addr) (c n d m : Nat) (xs ys : List Int) (w : World) (hr : ReadsInt w .u8 A m xs) (hb : Byt xs) (hc : m ≤ c) (hs : ReadsInt w .u8 B n ys) (by_ : Byt ys) (hd : n ≤ d) :
    Calls Try.prog 12 #[.slice B n d, .slice A m c] w fun e w' => Below w.heap.size w w' ∧ e = .returned (.tuple #[.agg (hdC (openR ys xs)), .bool (openB ys xs)]) := by
  have HR := Lib.hid hr
  have HB := Lib.hid hb
  have HS := Lib.hid hs
  have HY := Lib.hid by_
  have HL := Lib.hid hr.1
  have hm := hr.2.1
  have hmf := makeFunc_
  clear hr hb hs by_
  by_cases h64 : m = 64
  · subst h64
    have b64 : (((64 : Nat) : Int) != 64) = false := by simp
    go_enter Try.func12, Try.ntmps12
    go_wp2_with fail
    have ha := alloc5 w #[.slice B n d] #[.slice A 64 c] #[.int .u8 0, .int .u32 0, .int .u32 0, .int .u16 0, .int .u16 0, .int .u32 0, .int .u32 0] #[.int .u8 0, .int .u32 0, .int .u32 0, .int .u16 0, .int .u16 0, .int .u32 0, .int .u32 0] #[.bool false] 26 26 25 25 4 _ rfl
    obtain ⟨W, hW⟩ : ∃ W, (((((w.alloc (.cells #[.slice B n d] 26)).alloc (.cells #[.slice A 64 c] 26)).alloc (.cells #[.int .u8 0, .int .u32 0, .int .u32 0, .int .u16 0, .int .u16 0, .int .u32 0, .int .u32 0] 25)).alloc (.cells #[.int .u8 0, .int .u32 0, .int .u32 0, .int .u16 0, .int .u16 0, .int .u32 0, .int .u32 0] 25)).alloc (.cells #[.bool false] 4)) = W := ⟨_, rfl⟩
    rw [hW] at ha ⊢
    have HW := Lib.hid ha
    clear hW ha
    refine (read_mods A 64 c 31 #[.pointer (some ⟨w.heap.size + 1 + 1 + 1, 0, none⟩), .pointer (some ⟨w.heap.size + 1, 0, none⟩), .pointer (some ⟨w.heap.size, 0, none⟩), .pointer (some ⟨w.heap.size + 1 + 1 + 1 + 1, 0, none⟩)] W (fun i => i = w.heap.size + 1 + 1 + 1 ∨ i = w.heap.size + 1 + 1 + 1 + 1)
      (fun w' => w'.heap[w.heap.size + 1 + 1 + 1]? = some (.cells (hdC (openH xs)) 25 (0, 0)) ∧ w'.heap[w.heap.size + 1 + 1 + 1 + 1]? = some (.cells #[.bool (rightO ys xs)] 4 (0, 0))) (fun _ => False)
      Try.f31 Try.func31 (by kernel_rfl) (by kernel_rfl) (by have h_ := HW.out.2.2.2.2.2.2; rintro i (rfl | rfl) <;> omega) (fun wa wb h k => by have h_ := HW.out.2.2.2.2.2.2; exact ⟨k.blk h.1 (by omega) (by simp), k.blk h.2 (by omega) (by simp)⟩) (fun _ _ h _ => h.elim) ?_).mono ?_
    · intro w2 he hrd hbl hsz
      have h_ := HW.out.2.2.2.2.2.2
      refine (op1_any (W.heap.size + 1) (w.heap.size + 1 + 1 + 1) (w.heap.size + 1) (w.heap.size) (w.heap.size + 1 + 1 + 1 + 1) A B c n d xs ys w2 hrd ((HR.out.below HW.out.2.2.2.2.2.1).below hbl) HB.out hc ((HS.out.below HW.out.2.2.2.2.2.1).below hbl) HY.out hd
        (fun a ha => by have := reads_lt HR.out (by omega) a ha; omega) (fun h0 a ha => by have := reads_lt HS.out h0 a ha; omega)
        (blk_below HW.out.2.1 hbl) (blk_below HW.out.1 hbl) (blk_below HW.out.2.2.2.1 hbl) (blk_below HW.out.2.2.2.2.1 hbl) (by omega) (by omega) (by omega) (by omega) (by omega)).mono ?_
      rintro e w' ⟨hM, he2, hq2, hq3⟩
      exact ⟨hM, .inl ⟨he2, hq2, hq3⟩⟩
    · rintro e w5 ⟨hM, ⟨rfl, hP1, hP2⟩ | ⟨rfl, hF⟩⟩
      case inr => exact hF.elim
      have hR5 := hM.blk HW.out.2.2.1 (by rintro (e | e) <;> omega)
      have T5 : Hid (Below w.heap.size w w5) := Lib.hid (HW.out.2.2.2.2.2.1.trans (hM.below (B := w.heap.size) (by have h_ := HW.out.2.2.2.2.2.2; omega) (by rintro i (rfl | rfl) <;> omega)))
      have HP := Lib.hid (And.intro hR5 (And.intro hP1 hP2))
      clear hM hP1 hP2 hR5
      have zr : w5.cell? ⟨w.heap.size + 1 + 1 + 1 + 1, 0, none⟩ = some (.bool (rightO ys xs)) := (blk_cell HP.out.2.2 0).trans rfl
      have z0 : w5.cell? ⟨w.heap.size + 1 + 1 + 1, 0, none⟩ = some (.int .u8 (openH xs).k) := (blk_cell HP.out.2.1 0).trans rfl
      have z1 : w5.cell? ⟨w.heap.size + 1 + 1 + 1, 1, none⟩ = some (.int .u32 (openH xs).e) := (blk_cell HP.out.2.1 1).trans rfl
      have z2 : w5.cell? ⟨w.heap.size + 1 + 1 + 1, 2, none⟩ = some (.int .u32 (openH xs).b) := (blk_cell HP.out.2.1 2).trans rfl
      have z3 : w5.cell? ⟨w.heap.size + 1 + 1 + 1, 3, none⟩ = some (.int .u16 (openH xs).i) := (blk_cell HP.out.2.1 3).trans rfl
      have z4 : w5.cell? ⟨w.heap.size + 1 + 1 + 1, 4, none⟩ = some (.int .u16 (openH xs).c) := (blk_cell HP.out.2.1 4).trans rfl
      have z5 : w5.cell? ⟨w.heap.size + 1 + 1 + 1, 5, none⟩ = some (.int .u32 (openH xs).l) := (blk_cell HP.out.2.1 5).trans rfl
      have z6 : w5.cell? ⟨w.heap.size + 1 + 1 + 1, 6, none⟩ = some (.int .u32 (openH xs).m) := (blk_cell HP.out.2.1 6).trans rfl
      have y0 := (blk_cell HP.out.1 0).trans rfl
      have q0 := blk_frozen HP.out.1 0
      have y1 := (blk_cell HP.out.1 1).trans rfl
      have q1 := blk_frozen HP.out.1 1
      have y2 := (blk_cell HP.out.1 2).trans rfl
      have q2 := blk_frozen HP.out.1 2
      have y3 := (blk_cell HP.out.1 3).trans rfl
      have q3 := blk_frozen HP.out.1 3
      have y4 := (blk_cell HP.out.1 4).trans rfl
      have q4 := blk_frozen HP.out.1 4
      have y5 := (blk_cell HP.out.1 5).trans rfl
      have q5 := blk_frozen HP.out.1 5
      have y6 := (blk_cell HP.out.1 6).trans rfl
      have q6 := blk_frozen HP.out.1 6
      have hob : openB ys xs = (rightO ys xs && (decide (1 ≤ (openH xs).k) && decide ((openH xs).k ≤ 6))) := by rw [openB, HL.out]; rfl
      have hk0 := (openH_ok HB.out).k0
      cases hrb : rightO ys xs
      · have HO : Hid (openB ys xs = false) := Lib.hid (by rw [hob, hrb]; rfl)
        rw [hrb] at zr
        clear hob
        go_wp2_with fail
        have hf := put7 (show w5.heap[w.heap.size + 1 + 1]? = some (.cells #[.int .u8 0, .int .u32 0, .int .u32 0, .int .u16 0, .int .u16 0, .int .u32 0, .int .u32 0] 25 (0, 0)) from HP.out.1) (.int .u8 0) (.int .u32 0) (.int .u32 0) (.int .u16 0) (.int .u16 0) (.int .u32 0) (.int .u32 0)
        have T9 := bel7 T5.out (show w.heap.size ≤ w.heap.size + 1 + 1 by omega) (.int .u8 0) (.int .u32 0) (.int .u32 0) (.int .u16 0) (.int .u16 0) (.int .u32 0) (.int .u32 0)
        obtain ⟨w9, hw9⟩ : ∃ w9, (((((((w5.setCell ⟨w.heap.size + 1 + 1, 0, none⟩ (.int .u8 0)).setCell ⟨w.heap.size + 1 + 1, 1, none⟩ (.int .u32 0)).setCell ⟨w.heap.size + 1 + 1, 2, none⟩ (.int .u32 0)).setCell ⟨w.heap.size + 1 + 1, 3, none⟩ (.int .u16 0)).setCell ⟨w.heap.size + 1 + 1, 4, none⟩ (.int .u16 0)).setCell ⟨w.heap.size + 1 + 1, 5, none⟩ (.int .u32 0)).setCell ⟨w.heap.size + 1 + 1, 6, none⟩ (.int .u32 0)) = w9 := ⟨_, rfl⟩
        rw [hw9] at hf T9 ⊢
        have c0 : w9.cell? ⟨w.heap.size + 1 + 1, 0, none⟩ = some (.int .u8 0) := (blk_cell hf 0).trans rfl
        have c1 : w9.cell? ⟨w.heap.size + 1 + 1, 1, none⟩ = some (.int .u32 0) := (blk_cell hf 1).trans rfl
        have c2 : w9.cell? ⟨w.heap.size + 1 + 1, 2, none⟩ = some (.int .u32 0) := (blk_cell hf 2).trans rfl
        have c3 : w9.cell? ⟨w.heap.size + 1 + 1, 3, none⟩ = some (.int .u16 0) := (blk_cell hf 3).trans rfl
        have c4 : w9.cell? ⟨w.heap.size + 1 + 1, 4, none⟩ = some (.int .u16 0) := (blk_cell hf 4).trans rfl
        have c5 : w9.cell? ⟨w.heap.size + 1 + 1, 5, none⟩ = some (.int .u32 0) := (blk_cell hf 5).trans rfl
        have c6 : w9.cell? ⟨w.heap.size + 1 + 1, 6, none⟩ = some (.int .u32 0) := (blk_cell hf 6).trans rfl
        clear hw9 hf
        refine bodyPost_ret (v := .tuple #[.agg #[.int .u8 0, .int .u32 0, .int .u32 0, .int .u16 0, .int .u16 0, .int .u32 0, .int .u32 0], .bool false]) (by simp [results, Try.results12, go_sem, c0, c1, c2, c3, c4, c5, c6]) rfl ⟨T9, ?_⟩
        rw [HO.out, openR_no HO.out]
        rfl
      · rw [hrb] at zr hob
        obtain ⟨kd, hkd⟩ : ∃ kd, (openH xs).k = kd := ⟨_, rfl⟩
        have HK := Lib.hid hkd
        rw [hkd] at hob z0 hk0
        clear hkd
        by_cases h1 : kd < 1
        · have HO : Hid (openB ys xs = false) := Lib.hid (by rw [hob]; simp; omega)
          clear hob
          go_wp2_with fail
          have hf := put7 (show w5.heap[w.heap.size + 1 + 1]? = some (.cells #[.int .u8 0, .int .u32 0, .int .u32 0, .int .u16 0, .int .u16 0, .int .u32 0, .int .u32 0] 25 (0, 0)) from HP.out.1) (.int .u8 0) (.int .u32 0) (.int .u32 0) (.int .u16 0) (.int .u16 0) (.int .u32 0) (.int .u32 0)
          have T9 := bel7 T5.out (show w.heap.size ≤ w.heap.size + 1 + 1 by omega) (.int .u8 0) (.int .u32 0) (.int .u32 0) (.int .u16 0) (.int .u16 0) (.int .u32 0) (.int .u32 0)
          obtain ⟨w9, hw9⟩ : ∃ w9, (((((((w5.setCell ⟨w.heap.size + 1 + 1, 0, none⟩ (.int .u8 0)).setCell ⟨w.heap.size + 1 + 1, 1, none⟩ (.int .u32 0)).setCell ⟨w.heap.size + 1 + 1, 2, none⟩ (.int .u32 0)).setCell ⟨w.heap.size + 1 + 1, 3, none⟩ (.int .u16 0)).setCell ⟨w.heap.size + 1 + 1, 4, none⟩ (.int .u16 0)).setCell ⟨w.heap.size + 1 + 1, 5, none⟩ (.int .u32 0)).setCell ⟨w.heap.size + 1 + 1, 6, none⟩ (.int .u32 0)) = w9 := ⟨_, rfl⟩
          rw [hw9] at hf T9 ⊢
          have c0 : w9.cell? ⟨w.heap.size + 1 + 1, 0, none⟩ = some (.int .u8 0) := (blk_cell hf 0).trans rfl
          have c1 : w9.cell? ⟨w.heap.size + 1 + 1, 1, none⟩ = some (.int .u32 0) := (blk_cell hf 1).trans rfl
          have c2 : w9.cell? ⟨w.heap.size + 1 + 1, 2, none⟩ = some (.int .u32 0) := (blk_cell hf 2).trans rfl
          have c3 : w9.cell? ⟨w.heap.size + 1 + 1, 3, none⟩ = some (.int .u16 0) := (blk_cell hf 3).trans rfl
          have c4 : w9.cell? ⟨w.heap.size + 1 + 1, 4, none⟩ = some (.int .u16 0) := (blk_cell hf 4).trans rfl
          have c5 : w9.cell? ⟨w.heap.size + 1 + 1, 5, none⟩ = some (.int .u32 0) := (blk_cell hf 5).trans rfl
          have c6 : w9.cell? ⟨w.heap.size + 1 + 1, 6, none⟩ = some (.int .u32 0) := (blk_cell hf 6).trans rfl
          clear hw9 hf
          refine bodyPost_ret (v := .tuple #[.agg #[.int .u8 0, .int .u32 0, .int .u32 0, .int .u16 0, .int .u16 0, .int .u32 0, .int .u32 0], .bool false]) (by simp [results, Try.results12, go_sem, c0, c1, c2, c3, c4, c5, c6]) rfl ⟨T9, ?_⟩
          rw [HO.out, openR_no HO.out]
          rfl
        · by_cases h6 : 6 < kd
          · have HO : Hid (openB ys xs = false) := Lib.hid (by rw [hob]; simp; omega)
            clear hob
            go_wp2_with fail
            have hf := put7 (show w5.heap[w.heap.size + 1 + 1]? = some (.cells #[.int .u8 0, .int .u32 0, .int .u32 0, .int .u16 0, .int .u16 0, .int .u32 0, .int .u32 0] 25 (0, 0)) from HP.out.1) (.int .u8 0) (.int .u32 0) (.int .u32 0) (.int .u16 0) (.int .u16 0) (.int .u32 0) (.int .u32 0)
            have T9 := bel7 T5.out (show w.heap.size ≤ w.heap.size + 1 + 1 by omega) (.int .u8 0) (.int .u32 0) (.int .u32 0) (.int .u16 0) (.int .u16 0) (.int .u32 0) (.int .u32 0)
            obtain ⟨w9, hw9⟩ : ∃ w9, (((((((w5.setCell ⟨w.heap.size + 1 + 1, 0, none⟩ (.int .u8 0)).setCell ⟨w.heap.size + 1 + 1, 1, none⟩ (.int .u32 0)).setCell ⟨w.heap.size + 1 + 1, 2, none⟩ (.int .u32 0)).setCell ⟨w.heap.size + 1 + 1, 3, none⟩ (.int .u16 0)).setCell ⟨w.heap.size + 1 + 1, 4, none⟩ (.int .u16 0)).setCell ⟨w.heap.size + 1 + 1, 5, none⟩ (.int .u32 0)).setCell ⟨w.heap.size + 1 + 1, 6, none⟩ (.int .u32 0)) = w9 := ⟨_, rfl⟩
            rw [hw9] at hf T9 ⊢
            have c0 : w9.cell? ⟨w.heap.size + 1 + 1, 0, none⟩ = some (.int .u8 0) := (blk_cell hf 0).trans rfl
            have c1 : w9.cell? ⟨w.heap.size + 1 + 1, 1, none⟩ = some (.int .u32 0) := (blk_cell hf 1).trans rfl
            have c2 : w9.cell? ⟨w.heap.size + 1 + 1, 2, none⟩ = some (.int .u32 0) := (blk_cell hf 2).trans rfl
            have c3 : w9.cell? ⟨w.heap.size + 1 + 1, 3, none⟩ = some (.int .u16 0) := (blk_cell hf 3).trans rfl
            have c4 : w9.cell? ⟨w.heap.size + 1 + 1, 4, none⟩ = some (.int .u16 0) := (blk_cell hf 4).trans rfl
            have c5 : w9.cell? ⟨w.heap.size + 1 + 1, 5, none⟩ = some (.int .u32 0) := (blk_cell hf 5).trans rfl
            have c6 : w9.cell? ⟨w.heap.size + 1 + 1, 6, none⟩ = some (.int .u32 0) := (blk_cell hf 6).trans rfl
            clear hw9 hf
            refine bodyPost_ret (v := .tuple #[.agg #[.int .u8 0, .int .u32 0, .int .u32 0, .int .u16 0, .int .u16 0, .int .u32 0, .int .u32 0], .bool false]) (by simp [results, Try.results12, go_sem, c0, c1, c2, c3, c4, c5, c6]) rfl ⟨T9, ?_⟩
            rw [HO.out, openR_no HO.out]
            rfl
          · have HO : Hid (openB ys xs = true) := Lib.hid (by rw [hob]; simp; omega)
            clear hob
            go_wp2_with fail
            have hf := put7 (show w5.heap[w.heap.size + 1 + 1]? = some (.cells #[.int .u8 0, .int .u32 0, .int .u32 0, .int .u16 0, .int .u16 0, .int .u32 0, .int .u32 0] 25 (0, 0)) from HP.out.1) (.int .u8 kd) (.int .u32 (openH xs).e) (.int .u32 (openH xs).b) (.int .u16 (openH xs).i) (.int .u16 (openH xs).c) (.int .u32 (openH xs).l) (.int .u32 (openH xs).m)
            have T9 := bel7 T5.out (show w.heap.size ≤ w.heap.size + 1 + 1 by omega) (.int .u8 kd) (.int .u32 (openH xs).e) (.int .u32 (openH xs).b) (.int .u16 (openH xs).i) (.int .u16 (openH xs).c) (.int .u32 (openH xs).l) (.int .u32 (openH xs).m)
            obtain ⟨w9, hw9⟩ : ∃ w9, (((((((w5.setCell ⟨w.heap.size + 1 + 1, 0, none⟩ (.int .u8 kd)).setCell ⟨w.heap.size + 1 + 1, 1, none⟩ (.int .u32 (openH xs).e)).setCell ⟨w.heap.size + 1 + 1, 2, none⟩ (.int .u32 (openH xs).b)).setCell ⟨w.heap.size + 1 + 1, 3, none⟩ (.int .u16 (openH xs).i)).setCell ⟨w.heap.size + 1 + 1, 4, none⟩ (.int .u16 (openH xs).c)).setCell ⟨w.heap.size + 1 + 1, 5, none⟩ (.int .u32 (openH xs).l)).setCell ⟨w.heap.size + 1 + 1, 6, none⟩ (.int .u32 (openH xs).m)) = w9 := ⟨_, rfl⟩
            rw [hw9] at hf T9 ⊢
            have c0 : w9.cell? ⟨w.heap.size + 1 + 1, 0, none⟩ = some (.int .u8 kd) := (blk_cell hf 0).trans rfl
            have c1 : w9.cell? ⟨w.heap.size + 1 + 1, 1, none⟩ = some (.int .u32 (openH xs).e) := (blk_cell hf 1).trans rfl
            have c2 : w9.cell? ⟨w.heap.size + 1 + 1, 2, none⟩ = some (.int .u32 (openH xs).b) := (blk_cell hf 2).trans rfl
            have c3 : w9.cell? ⟨w.heap.size + 1 + 1, 3, none⟩ = some (.int .u16 (openH xs).i) := (blk_cell hf 3).trans rfl
            have c4 : w9.cell? ⟨w.heap.size + 1 + 1, 4, none⟩ = some (.int .u16 (openH xs).c) := (blk_cell hf 4).trans rfl
            have c5 : w9.cell? ⟨w.heap.size + 1 + 1, 5, none⟩ = some (.int .u32 (openH xs).l) := (blk_cell hf 5).trans rfl
            have c6 : w9.cell? ⟨w.heap.size + 1 + 1, 6, none⟩ = some (.int .u32 (openH xs).m) := (blk_cell hf 6).trans rfl
            clear hw9 hf
            refine bodyPost_ret (v := .tuple #[.agg #[.int .u8 kd, .int .u32 (openH xs).e, .int .u32 (openH xs).b, .int .u16 (openH xs).i, .int .u16 (openH xs).c, .int .u32 (openH xs).l, .int .u32 (openH xs).m], .bool true]) (by simp [results, Try.results12, go_sem, c0, c1, c2, c3, c4, c5, c6]) rfl ⟨T9, ?_⟩
            rw [HO.out, openR_yes HO.out]
            rw [← HK.out]
  · have b64 : ((m : Int) != 64) = true := by simp; omega
    have hob : openB ys xs = false := by rw [openB, HL.out, decide_eq_false h64]; rfl
    have HO := Lib.hid hob
    clear hob
    go_enter Try.func12, Try.ntmps12
    go_wp2_with fail
    have ha := alloc3 w #[.slice B n d] #[.slice A m c] #[.int .u8 0, .int .u32 0, .int .u32 0, .int .u16 0, .int .u16 0, .int .u32 0, .int .u32 0] 26 26 25 _ rfl
    obtain ⟨w9, hw9⟩ : ∃ w9, (((w.alloc (.cells #[.slice B n d] 26)).alloc (.cells #[.slice A m c] 26)).alloc (.cells #[.int .u8 0, .int .u32 0, .int .u32 0, .int .u16 0, .int .u16 0, .int .u32 0, .int .u32 0] 25)) = w9 := ⟨_, rfl⟩
    rw [hw9] at ha ⊢
    have hf := ha.2.2.1
    have T9 := ha.2.2.2
    have c0 : w9.cell? ⟨w.heap.size + 1 + 1, 0, none⟩ = some (.int .u8 0) := (blk_cell hf 0).trans rfl
    have c1 : w9.cell? ⟨w.heap.size + 1 + 1, 1, none⟩ = some (.int .u32 0) := (blk_cell hf 1).trans rfl
    have c2 : w9.cell? ⟨w.heap.size + 1 + 1, 2, none⟩ = some (.int .u32 0) := (blk_cell hf 2).trans rfl
    have c3 : w9.cell? ⟨w.heap.size + 1 + 1, 3, none⟩ = some (.int .u16 0) := (blk_cell hf 3).trans rfl
    have c4 : w9.cell? ⟨w.heap.size + 1 + 1, 4, none⟩ = some (.int .u16 0) := (blk_cell hf 4).trans rfl
    have c5 : w9.cell? ⟨w.heap.size + 1 + 1, 5, none⟩ = some (.int .u32 0) := (blk_cell hf 5).trans rfl
    have c6 : w9.cell? ⟨w.heap.size + 1 + 1, 6, none⟩ = some (.int .u32 0) := (blk_cell hf 6).trans rfl
    clear hw9 hf ha
    refine bodyPost_ret (v := .tuple #[.agg #[.int .u8 0, .int .u32 0, .int .u32 0, .int .u16 0, .int .u16 0, .int .u32 0, .int .u32 0], .bool false]) (by simp [results, Try.results12, go_sem, c0, c1, c2, c3, c4, c5, c6]) rfl ⟨T9, ?_⟩
    rw [HO.out, openR_no HO.out]
    rfl
end Go.Proofs.Ytkmfdnoklabndaa
