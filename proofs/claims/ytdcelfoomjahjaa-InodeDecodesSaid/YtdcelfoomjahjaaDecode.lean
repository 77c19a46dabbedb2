import Derived.Test.YtdcelfoomjahjaaDec
/-! inode.Decode. -/
set_option linter.unusedVariables false
set_option linter.unusedSimpArgs false
namespace Go.Proofs.Ytdcelfoomjahjaa
open Go.RowKit Go.Proofs.YtdcelfoomjahjaaW.PrintWords
/-- An inode's cells, by a list of 13 numbers. -/
def inoA (k l s : Int) (d : Nat → Int) (a b : Int) : Value := .agg (decA k l s d a b)
def inoEq (k l s : Int) (d : Nat → Int) (a b : Int) (k' l' s' : Int) (d' : Nat → Int) (a' b' : Int) : Bool := (k == k' && (l == l' && (s == s' && ((d 0 == d' 0 && d 1 == d' 1 && d 2 == d' 2 && d 3 == d' 3 && d 4 == d' 4 && d 5 == d' 5 && d 6 == d' 6 && d 7 == d' 7) && (a == a' && b == b')))))
set_option maxHeartbeats 2000000 in
theorem eqInIno (k l s : Int) (d : Nat → Int) (a b : Int) (k' l' s' : Int) (d' : Nat → Int) (a' b' : Int) (w : World) :
    (Op.equalIn 10000 48 (.agg (decA k l s d a b)) (.agg (decA k' l' s' d' a' b'))).run Try.prog w = .ok (inoEq k l s d a b k' l' s' d' a' b') w := by
  have hi : ∃ i, Try.prog.info? 35 = some i := by
    have h : (Try.prog.info? 35).isSome = true := by kernel_rfl
    exact Option.isSome_iff_exists.1 h
  obtain ⟨i, hi⟩ := hi
  rw [run_equalIn_struct _ 9999 48 _ _ (by kernel_rfl) (by kernel_rfl)]
  rw [show (Try.prog.fieldsOf 48).toList = _ from by simp [Program.fieldsOf, Try.underlying48]; rfl]
  simp only [Op.eqFields]
  have ha : ∀ w : World, (Op.equalIn 9999 46 (.agg #[.int .u32 (d 0), .int .u32 (d 1), .int .u32 (d 2), .int .u32 (d 3), .int .u32 (d 4), .int .u32 (d 5), .int .u32 (d 6), .int .u32 (d 7)]) (.agg #[.int .u32 (d' 0), .int .u32 (d' 1), .int .u32 (d' 2), .int .u32 (d' 3), .int .u32 (d' 4), .int .u32 (d' 5), .int .u32 (d' 6), .int .u32 (d' 7)])).run Try.prog w = .ok (d 0 == d' 0 && d 1 == d' 1 && d 2 == d' 2 && d 3 == d' 3 && d 4 == d' 4 && d 5 == d' 5 && d 6 == d' 6 && d 7 == d' 7) w := by
    intro w
    rw [run_equalIn_array w 9998 _ _ Try.underlying46 hi]
    have hc : Try.prog.cellsOf 35 = 1 := by kernel_rfl
    rw [hc]
    generalize d 0 = e0, d 1 = e1, d 2 = e2, d 3 = e3, d 4 = e4, d 5 = e5, d 6 = e6, d 7 = e7
    generalize d' 0 = g0, d' 1 = g1, d' 2 = g2, d' 3 = g3, d' 4 = g4, d' 5 = g5, d' 6 = g6, d' 7 = g7
    simp [Op.eqItems, List.range_succ, go_sem]
    by_cases h0 : e0 = g0
    case neg => simp [h0]
    by_cases h1 : e1 = g1
    case neg => simp [h0, h1]
    by_cases h2 : e2 = g2
    case neg => simp [h0, h1, h2]
    by_cases h3 : e3 = g3
    case neg => simp [h0, h1, h2, h3]
    by_cases h4 : e4 = g4
    case neg => simp [h0, h1, h2, h3, h4]
    by_cases h5 : e5 = g5
    case neg => simp [h0, h1, h2, h3, h4, h5]
    by_cases h6 : e6 = g6
    case neg => simp [h0, h1, h2, h3, h4, h5, h6]
    by_cases h7 : e7 = g7
    case neg => simp [h0, h1, h2, h3, h4, h5, h6, h7]
    simp [h0, h1, h2, h3, h4, h5, h6, h7]
  simp [go_sem, ha, decA, inoEq]
  generalize (d 0 == d' 0 && d 1 == d' 1 && d 2 == d' 2 && d 3 == d' 3 && d 4 == d' 4 && d 5 == d' 5 && d 6 == d' 6 && d 7 == d' 7) = z
  by_cases h0 : k = k' <;> by_cases h1 : l = l' <;> by_cases h2 : s = s' <;> by_cases h4 : a = a' <;> by_cases h5 : b = b' <;> cases z <;> simp [h0, h1, h2, h4, h5]
theorem eqIno (k l s : Int) (d : Nat → Int) (a b : Int) (k' l' s' : Int) (d' : Nat → Int) (a' b' : Int) (w : World) :
    (binOp .eql 48 (.agg (decA k l s d a b)) (.agg (decA k' l' s' d' a' b'))).run Try.prog w = .ok (.bool (inoEq k l s d a b k' l' s' d' a' b')) w := by
  rw [run_eql_struct, eqInIno]; rfl
theorem neIno (k l s : Int) (d : Nat → Int) (a b : Int) (k' l' s' : Int) (d' : Nat → Int) (a' b' : Int) (w : World) :
    (binOp .neq 48 (.agg (decA k l s d a b)) (.agg (decA k' l' s' d' a' b'))).run Try.prog w = .ok (.bool (!inoEq k l s d a b k' l' s' d' a' b')) w := by
  rw [run_neq_struct, eqInIno]; rfl
/-- The inode that bytes are: its cells; an error. -/
def dirN : Nat → Int := fun _ => 0
def rightB (xs : List Int) : Bool := at_ xs 1 1 == 0 && (xs.drop 48).all (· == 0) && decide (at_ xs 0 1 ≤ 2)
def dirX (xs : List Int) : Nat → Int := dirA xs 8
def emptyB (xs : List Int) : Bool := inoEq (at_ xs 0 1) (at_ xs 2 2) (at_ xs 4 4) (dirX xs) (at_ xs 40 4) (at_ xs 44 4) 0 0 0 dirN 0 0
def decB (xs : List Int) : Bool := decide (xs.length = 64) && rightB xs && (!(at_ xs 0 1 == 0) || emptyB xs)
def DecP (w : World) (xs : List Int) (e : Ending) (w' : World) : Prop :=
  Below w.heap.size w w' ∧ ((decB xs = true ∧ e = .returned (.tuple #[.agg (decA (at_ xs 0 1) (at_ xs 2 2) (at_ xs 4 4) (dirX xs) (at_ xs 40 4) (at_ xs 44 4)), .int .i64 0])) ∨ (decB xs = false ∧ e = .returned (.tuple #[.agg (decA 0 0 0 dirN 0 0), .int .i64 62])))
theorem makeFunc_ (fn : Fn) (first cap : Array Value) (w : World) : (Instr.makeFunc fn first cap).run Try.prog w = .ok (.func fn first cap) w := rfl
theorem A_lt {w : World} {k : IntKind} {A : Option Addr} {n : Nat} {xs : List Int} (h : ReadsInt w k A n xs) (hn : 0 < n) : ∀ a, A = some a → a.block < w.heap.size := by
  intro a ha
  obtain ⟨ad, e2, hc2⟩ := h.2.2 hn
  obtain rfl := Option.some.inj (ha.symm.trans e2)
  have h_ := World.block_lt_of_cell? w _ (hc2 0 hn)
  have hb0 : (a.add 0).block = a.block := by unfold Addr.add; split <;> rfl
  rwa [hb0] at h_
theorem alloc3 (w : World) (c1 c2 c3 : Array Value) (t1 t2 t3 : TypeId) : (((w.alloc (.cells c1 t1)).alloc (.cells c2 t2)).alloc (.cells c3 t3)).heap[w.heap.size]? = some (.cells c1 t1 (0, 0)) ∧ (((w.alloc (.cells c1 t1)).alloc (.cells c2 t2)).alloc (.cells c3 t3)).heap[w.heap.size + 1]? = some (.cells c2 t2 (0, 0)) ∧
    (((w.alloc (.cells c1 t1)).alloc (.cells c2 t2)).alloc (.cells c3 t3)).heap[w.heap.size + 1 + 1]? = some (.cells c3 t3 (0, 0)) ∧ Below w.heap.size w (((w.alloc (.cells c1 t1)).alloc (.cells c2 t2)).alloc (.cells c3 t3)) ∧ (((w.alloc (.cells c1 t1)).alloc (.cells c2 t2)).alloc (.cells c3 t3)).heap.size = w.heap.size + 3 := by
  have h2 := heap_alloc_new (w.alloc (.cells c1 t1)) (.cells c2 t2)
  have h3 := heap_alloc_new ((w.alloc (.cells c1 t1)).alloc (.cells c2 t2)) (.cells c3 t3)
  simp only [World.size_alloc] at h2 h3
  exact ⟨blk_alloc (blk_alloc (heap_alloc_new w _) _) _, blk_alloc h2 _, h3, bl_alloc (bl_alloc (bl_alloc (Below.refl _ _) _) _) _, by simp⟩
theorem bel13 {w w5 : World} {g : Nat} (h : Below w.heap.size w w5) (hg : w.heap.size ≤ g) (v0 v1 v2 v3 v4 v5 v6 v7 v8 v9 v10 v11 v12 : Value) : Below w.heap.size w (((((((((((((w5.setCell ⟨g, 0, none⟩ v0).setCell ⟨g, 1, none⟩ v1).setCell ⟨g, 2, none⟩ v2).setCell ⟨g, 3, none⟩ v3).setCell ⟨g, 4, none⟩ v4).setCell ⟨g, 5, none⟩ v5).setCell ⟨g, 6, none⟩ v6).setCell ⟨g, 7, none⟩ v7).setCell ⟨g, 8, none⟩ v8).setCell ⟨g, 9, none⟩ v9).setCell ⟨g, 10, none⟩ v10).setCell ⟨g, 11, none⟩ v11).setCell ⟨g, 12, none⟩ v12) := by
  have h0 := bl_set h (p := ⟨g, 0, none⟩) hg v0
  have h1 := bl_set h0 (p := ⟨g, 1, none⟩) hg v1
  have h2 := bl_set h1 (p := ⟨g, 2, none⟩) hg v2
  have h3 := bl_set h2 (p := ⟨g, 3, none⟩) hg v3
  have h4 := bl_set h3 (p := ⟨g, 4, none⟩) hg v4
  have h5 := bl_set h4 (p := ⟨g, 5, none⟩) hg v5
  have h6 := bl_set h5 (p := ⟨g, 6, none⟩) hg v6
  have h7 := bl_set h6 (p := ⟨g, 7, none⟩) hg v7
  have h8 := bl_set h7 (p := ⟨g, 8, none⟩) hg v8
  have h9 := bl_set h8 (p := ⟨g, 9, none⟩) hg v9
  have h10 := bl_set h9 (p := ⟨g, 10, none⟩) hg v10
  have h11 := bl_set h10 (p := ⟨g, 11, none⟩) hg v11
  have h12 := bl_set h11 (p := ⟨g, 12, none⟩) hg v12
  exact h12
theorem put13 {w : World} {g : Nat} {t : TypeId} {a0 a1 a2 a3 a4 a5 a6 a7 a8 a9 a10 a11 a12 : Value} (h : w.heap[g]? = some (.cells #[a0, a1, a2, a3, a4, a5, a6, a7, a8, a9, a10, a11, a12] t (0, 0))) (v0 v1 v2 v3 v4 v5 v6 v7 v8 v9 v10 v11 v12 : Value) : (((((((((((((w.setCell ⟨g, 0, none⟩ v0).setCell ⟨g, 1, none⟩ v1).setCell ⟨g, 2, none⟩ v2).setCell ⟨g, 3, none⟩ v3).setCell ⟨g, 4, none⟩ v4).setCell ⟨g, 5, none⟩ v5).setCell ⟨g, 6, none⟩ v6).setCell ⟨g, 7, none⟩ v7).setCell ⟨g, 8, none⟩ v8).setCell ⟨g, 9, none⟩ v9).setCell ⟨g, 10, none⟩ v10).setCell ⟨g, 11, none⟩ v11).setCell ⟨g, 12, none⟩ v12).heap[g]? = some (.cells #[v0, v1, v2, v3, v4, v5, v6, v7, v8, v9, v10, v11, v12] t (0, 0)) := by
  have h0 := blk_put h 0 v0 (cs' := #[v0, a1, a2, a3, a4, a5, a6, a7, a8, a9, a10, a11, a12]) (by simp)
  have h1 := blk_put h0 1 v1 (cs' := #[v0, v1, a2, a3, a4, a5, a6, a7, a8, a9, a10, a11, a12]) (by simp)
  have h2 := blk_put h1 2 v2 (cs' := #[v0, v1, v2, a3, a4, a5, a6, a7, a8, a9, a10, a11, a12]) (by simp)
  have h3 := blk_put h2 3 v3 (cs' := #[v0, v1, v2, v3, a4, a5, a6, a7, a8, a9, a10, a11, a12]) (by simp)
  have h4 := blk_put h3 4 v4 (cs' := #[v0, v1, v2, v3, v4, a5, a6, a7, a8, a9, a10, a11, a12]) (by simp)
  have h5 := blk_put h4 5 v5 (cs' := #[v0, v1, v2, v3, v4, v5, a6, a7, a8, a9, a10, a11, a12]) (by simp)
  have h6 := blk_put h5 6 v6 (cs' := #[v0, v1, v2, v3, v4, v5, v6, a7, a8, a9, a10, a11, a12]) (by simp)
  have h7 := blk_put h6 7 v7 (cs' := #[v0, v1, v2, v3, v4, v5, v6, v7, a8, a9, a10, a11, a12]) (by simp)
  have h8 := blk_put h7 8 v8 (cs' := #[v0, v1, v2, v3, v4, v5, v6, v7, v8, a9, a10, a11, a12]) (by simp)
  have h9 := blk_put h8 9 v9 (cs' := #[v0, v1, v2, v3, v4, v5, v6, v7, v8, v9, a10, a11, a12]) (by simp)
  have h10 := blk_put h9 10 v10 (cs' := #[v0, v1, v2, v3, v4, v5, v6, v7, v8, v9, v10, a11, a12]) (by simp)
  have h11 := blk_put h10 11 v11 (cs' := #[v0, v1, v2, v3, v4, v5, v6, v7, v8, v9, v10, v11, a12]) (by simp)
  have h12 := blk_put h11 12 v12 (cs' := #[v0, v1, v2, v3, v4, v5, v6, v7, v8, v9, v10, v11, v12]) (by simp)
  exact h12
set_option maxHeartbeats 4000000 in
set_option maxRecDepth 100000 in
theorem decode_any (A : Option Addr) (c : Nat) (xs : List Int) (w : World) (hr : ReadsInt w .u8 A xs.length xs) (hb : Byt xs) (hc : xs.length ≤ c) (hA : ∀ a, A = some a → a.block < w.heap.size) :
    Calls Try.prog 19 #[.slice A xs.length c] w (DecP w xs) := by
  have HR := Lib.hid hr
  have HB := Lib.hid hb
  have HA := Lib.hid hA
  have hm := hr.2.1
  have hmf := makeFunc_
  clear hr hb hA
  go_enter Try.func19, Try.ntmps19
  go_wp2_with fail
  have h3 := alloc3 w #[.int .u8 0, .int .u16 0, .int .u32 0, .int .u32 0, .int .u32 0, .int .u32 0, .int .u32 0, .int .u32 0, .int .u32 0, .int .u32 0, .int .u32 0, .int .u32 0, .int .u32 0] #[.int .u8 0, .int .u16 0, .int .u32 0, .int .u32 0, .int .u32 0, .int .u32 0, .int .u32 0, .int .u32 0, .int .u32 0, .int .u32 0, .int .u32 0, .int .u32 0, .int .u32 0] #[.bool false] 48 48 4
  obtain ⟨W, hW⟩ : ∃ W, (((w.alloc (.cells #[.int .u8 0, .int .u16 0, .int .u32 0, .int .u32 0, .int .u32 0, .int .u32 0, .int .u32 0, .int .u32 0, .int .u32 0, .int .u32 0, .int .u32 0, .int .u32 0, .int .u32 0] 48)).alloc (.cells #[.int .u8 0, .int .u16 0, .int .u32 0, .int .u32 0, .int .u32 0, .int .u32 0, .int .u32 0, .int .u32 0, .int .u32 0, .int .u32 0, .int .u32 0, .int .u32 0, .int .u32 0] 48)).alloc (.cells #[.bool false] 4)) = W := ⟨_, rfl⟩
  rw [hW] at h3 ⊢
  have HW := Lib.hid h3
  clear hW h3
  refine (read_mods A xs.length c 30 #[.pointer (some ⟨w.heap.size + 1, 0, none⟩), .pointer (some ⟨w.heap.size + 1 + 1, 0, none⟩)] W (fun i => i = w.heap.size + 1 ∨ i = w.heap.size + 1 + 1)
    (fun w' => 48 ≤ xs.length ∧ w'.heap[w.heap.size + 1]? = some (.cells (decA (at_ xs 0 1) (at_ xs 2 2) (at_ xs 4 4) (dirX xs) (at_ xs 40 4) (at_ xs 44 4)) 48 (0, 0)) ∧ w'.heap[w.heap.size + 1 + 1]? = some (.cells #[.bool (rightB xs)] 4 (0, 0))) (fun _ => xs.length < 48)
    Try.f30 Try.func30 (by kernel_rfl) (by kernel_rfl) (by have h_ := HW.out.2.2.2.2; rintro i (rfl | rfl) <;> omega) (fun wa wb h k => by have h_ := HW.out.2.2.2.2; exact ⟨h.1, k.blk h.2.1 (by omega) (by simp), k.blk h.2.2 (by omega) (by simp)⟩) (fun _ _ h _ => h) ?_).mono ?_
  · intro w2 he hrd hbl hsz
    have h_ := HW.out.2.2.2.2
    refine (dec1_any (W.heap.size + 1) (w.heap.size + 1) (w.heap.size + 1 + 1) A xs.length c xs w2 hrd ((HR.out.below HW.out.2.2.2.1).below hbl) HB.out hc (fun a ha => by have := HA.out a ha; omega) (blk_below HW.out.2.1 hbl) (blk_below HW.out.2.2.1 hbl) (by omega) (by omega) (by omega)).mono ?_
    rintro e w' ⟨hM, ⟨h48, he2, hq2, hq3⟩ | ⟨h48, k, he2⟩⟩
    · exact ⟨hM, .inl ⟨he2, h48, hq2, hq3⟩⟩
    · exact ⟨hM, .inr ⟨k, he2, h48⟩⟩
  · rintro e w5 ⟨hM, ⟨rfl, h48, hP1, hP2⟩ | ⟨rfl, h48⟩⟩
    · have hR5 := hM.blk HW.out.1 (by rintro (e | e) <;> omega)
      have T5 : Hid (Below w.heap.size w w5) := Lib.hid (HW.out.2.2.2.1.trans (hM.below (B := w.heap.size) (by have h_ := HW.out.2.2.2.2; omega) (by rintro i (rfl | rfl) <;> omega)))
      have HP := Lib.hid (And.intro hR5 (And.intro hP1 hP2))
      clear hM hP1 hP2 hR5
      have zr : w5.cell? ⟨w.heap.size + 1 + 1, 0, none⟩ = some (.bool (rightB xs)) := (blk_cell HP.out.2.2 0).trans rfl
      have z0 : w5.cell? ⟨w.heap.size + 1, 0, none⟩ = some (.int .u8 (at_ xs 0 1)) := (blk_cell HP.out.2.1 0).trans rfl
      have z1 : w5.cell? ⟨w.heap.size + 1, 1, none⟩ = some (.int .u16 (at_ xs 2 2)) := (blk_cell HP.out.2.1 1).trans rfl
      have z2 : w5.cell? ⟨w.heap.size + 1, 2, none⟩ = some (.int .u32 (at_ xs 4 4)) := (blk_cell HP.out.2.1 2).trans rfl
      have z3 : w5.cell? ⟨w.heap.size + 1, 3, none⟩ = some (.int .u32 (dirX xs 0)) := (blk_cell HP.out.2.1 3).trans rfl
      have z4 : w5.cell? ⟨w.heap.size + 1, 4, none⟩ = some (.int .u32 (dirX xs 1)) := (blk_cell HP.out.2.1 4).trans rfl
      have z5 : w5.cell? ⟨w.heap.size + 1, 5, none⟩ = some (.int .u32 (dirX xs 2)) := (blk_cell HP.out.2.1 5).trans rfl
      have z6 : w5.cell? ⟨w.heap.size + 1, 6, none⟩ = some (.int .u32 (dirX xs 3)) := (blk_cell HP.out.2.1 6).trans rfl
      have z7 : w5.cell? ⟨w.heap.size + 1, 7, none⟩ = some (.int .u32 (dirX xs 4)) := (blk_cell HP.out.2.1 7).trans rfl
      have z8 : w5.cell? ⟨w.heap.size + 1, 8, none⟩ = some (.int .u32 (dirX xs 5)) := (blk_cell HP.out.2.1 8).trans rfl
      have z9 : w5.cell? ⟨w.heap.size + 1, 9, none⟩ = some (.int .u32 (dirX xs 6)) := (blk_cell HP.out.2.1 9).trans rfl
      have z10 : w5.cell? ⟨w.heap.size + 1, 10, none⟩ = some (.int .u32 (dirX xs 7)) := (blk_cell HP.out.2.1 10).trans rfl
      have z11 : w5.cell? ⟨w.heap.size + 1, 11, none⟩ = some (.int .u32 (at_ xs 40 4)) := (blk_cell HP.out.2.1 11).trans rfl
      have z12 : w5.cell? ⟨w.heap.size + 1, 12, none⟩ = some (.int .u32 (at_ xs 44 4)) := (blk_cell HP.out.2.1 12).trans rfl
      have y0 := (blk_cell HP.out.1 0).trans rfl
      have q0 := blk_frozen HP.out.1 0
      have y1 := (blk_cell HP.out.1 1).trans rfl
      have q1 := blk_frozen HP.out.1 1
      have y2 := (blk_cell HP.out.1 2).trans rfl
      have q2 := blk_frozen HP.out.1 2
      have y3 := (blk_cell HP.out.1 3).trans rfl
      have q3 := blk_frozen HP.out.1 3
      have y4 := (blk_cell HP.out.1 4).trans rfl
      have q4 := blk_frozen HP.out.1 4
      have y5 := (blk_cell HP.out.1 5).trans rfl
      have q5 := blk_frozen HP.out.1 5
      have y6 := (blk_cell HP.out.1 6).trans rfl
      have q6 := blk_frozen HP.out.1 6
      have y7 := (blk_cell HP.out.1 7).trans rfl
      have q7 := blk_frozen HP.out.1 7
      have y8 := (blk_cell HP.out.1 8).trans rfl
      have q8 := blk_frozen HP.out.1 8
      have y9 := (blk_cell HP.out.1 9).trans rfl
      have q9 := blk_frozen HP.out.1 9
      have y10 := (blk_cell HP.out.1 10).trans rfl
      have q10 := blk_frozen HP.out.1 10
      have y11 := (blk_cell HP.out.1 11).trans rfl
      have q11 := blk_frozen HP.out.1 11
      have y12 := (blk_cell HP.out.1 12).trans rfl
      have q12 := blk_frozen HP.out.1 12
      have hne := neIno (at_ xs 0 1) (at_ xs 2 2) (at_ xs 4 4) (dirX xs) (at_ xs 40 4) (at_ xs 44 4) 0 0 0 dirN 0 0
      have hemp : inoEq (at_ xs 0 1) (at_ xs 2 2) (at_ xs 4 4) (dirX xs) (at_ xs 40 4) (at_ xs 44 4) 0 0 0 dirN 0 0 = emptyB xs := rfl
      simp only [hemp] at hne
      simp only [decA, dirN] at hne
      clear hemp
      cases hrb : rightB xs
      · have HD : Hid (decB xs = false) := Lib.hid (by simp [decB, hrb])
        go_wp2_with fail
        have hf := put13 (show w5.heap[w.heap.size]? = some (.cells #[.int .u8 0, .int .u16 0, .int .u32 0, .int .u32 0, .int .u32 0, .int .u32 0, .int .u32 0, .int .u32 0, .int .u32 0, .int .u32 0, .int .u32 0, .int .u32 0, .int .u32 0] 48 (0, 0)) from HP.out.1) (.int .u8 0) (.int .u16 0) (.int .u32 0) (.int .u32 0) (.int .u32 0) (.int .u32 0) (.int .u32 0) (.int .u32 0) (.int .u32 0) (.int .u32 0) (.int .u32 0) (.int .u32 0) (.int .u32 0)
        have T9 := bel13 T5.out (Nat.le_refl _) (.int .u8 0) (.int .u16 0) (.int .u32 0) (.int .u32 0) (.int .u32 0) (.int .u32 0) (.int .u32 0) (.int .u32 0) (.int .u32 0) (.int .u32 0) (.int .u32 0) (.int .u32 0) (.int .u32 0)
        obtain ⟨w9, hw9⟩ : ∃ w9, (((((((((((((w5.setCell ⟨w.heap.size, 0, none⟩ (.int .u8 0)).setCell ⟨w.heap.size, 1, none⟩ (.int .u16 0)).setCell ⟨w.heap.size, 2, none⟩ (.int .u32 0)).setCell ⟨w.heap.size, 3, none⟩ (.int .u32 0)).setCell ⟨w.heap.size, 4, none⟩ (.int .u32 0)).setCell ⟨w.heap.size, 5, none⟩ (.int .u32 0)).setCell ⟨w.heap.size, 6, none⟩ (.int .u32 0)).setCell ⟨w.heap.size, 7, none⟩ (.int .u32 0)).setCell ⟨w.heap.size, 8, none⟩ (.int .u32 0)).setCell ⟨w.heap.size, 9, none⟩ (.int .u32 0)).setCell ⟨w.heap.size, 10, none⟩ (.int .u32 0)).setCell ⟨w.heap.size, 11, none⟩ (.int .u32 0)).setCell ⟨w.heap.size, 12, none⟩ (.int .u32 0)) = w9 := ⟨_, rfl⟩
        rw [hw9] at hf T9 ⊢
        have c0 : w9.cell? ⟨w.heap.size, 0, none⟩ = some (.int .u8 0) := (blk_cell hf 0).trans rfl
        have c1 : w9.cell? ⟨w.heap.size, 1, none⟩ = some (.int .u16 0) := (blk_cell hf 1).trans rfl
        have c2 : w9.cell? ⟨w.heap.size, 2, none⟩ = some (.int .u32 0) := (blk_cell hf 2).trans rfl
        have c3 : w9.cell? ⟨w.heap.size, 3, none⟩ = some (.int .u32 0) := (blk_cell hf 3).trans rfl
        have c4 : w9.cell? ⟨w.heap.size, 4, none⟩ = some (.int .u32 0) := (blk_cell hf 4).trans rfl
        have c5 : w9.cell? ⟨w.heap.size, 5, none⟩ = some (.int .u32 0) := (blk_cell hf 5).trans rfl
        have c6 : w9.cell? ⟨w.heap.size, 6, none⟩ = some (.int .u32 0) := (blk_cell hf 6).trans rfl
        have c7 : w9.cell? ⟨w.heap.size, 7, none⟩ = some (.int .u32 0) := (blk_cell hf 7).trans rfl
        have c8 : w9.cell? ⟨w.heap.size, 8, none⟩ = some (.int .u32 0) := (blk_cell hf 8).trans rfl
        have c9 : w9.cell? ⟨w.heap.size, 9, none⟩ = some (.int .u32 0) := (blk_cell hf 9).trans rfl
        have c10 : w9.cell? ⟨w.heap.size, 10, none⟩ = some (.int .u32 0) := (blk_cell hf 10).trans rfl
        have c11 : w9.cell? ⟨w.heap.size, 11, none⟩ = some (.int .u32 0) := (blk_cell hf 11).trans rfl
        have c12 : w9.cell? ⟨w.heap.size, 12, none⟩ = some (.int .u32 0) := (blk_cell hf 12).trans rfl
        clear hw9 hf
        exact bodyPost_ret (v := .tuple #[.agg #[.int .u8 0, .int .u16 0, .int .u32 0, .int .u32 0, .int .u32 0, .int .u32 0, .int .u32 0, .int .u32 0, .int .u32 0, .int .u32 0, .int .u32 0, .int .u32 0, .int .u32 0], .int .i64 62]) (by simp [results, Try.results19, go_sem, c0, c1, c2, c3, c4, c5, c6, c7, c8, c9, c10, c11, c12]) rfl ⟨T9, .inr ⟨HD.out, rfl⟩⟩
      · by_cases h64 : xs.length = 64
        · have b64 : ((xs.length : Int) != 64) = false := by simp; omega
          by_cases hk0 : at_ xs 0 1 = 0
          · have bk : (at_ xs 0 1 == 0) = true := by simpa using hk0
            clear hk0
            cases hem : emptyB xs
            · have HD : Hid (decB xs = false) := Lib.hid (by simp [decB, hrb, bk, hem])
              go_wp2_with fail
              have hf := put13 (show w5.heap[w.heap.size]? = some (.cells #[.int .u8 0, .int .u16 0, .int .u32 0, .int .u32 0, .int .u32 0, .int .u32 0, .int .u32 0, .int .u32 0, .int .u32 0, .int .u32 0, .int .u32 0, .int .u32 0, .int .u32 0] 48 (0, 0)) from HP.out.1) (.int .u8 0) (.int .u16 0) (.int .u32 0) (.int .u32 0) (.int .u32 0) (.int .u32 0) (.int .u32 0) (.int .u32 0) (.int .u32 0) (.int .u32 0) (.int .u32 0) (.int .u32 0) (.int .u32 0)
              have T9 := bel13 T5.out (Nat.le_refl _) (.int .u8 0) (.int .u16 0) (.int .u32 0) (.int .u32 0) (.int .u32 0) (.int .u32 0) (.int .u32 0) (.int .u32 0) (.int .u32 0) (.int .u32 0) (.int .u32 0) (.int .u32 0) (.int .u32 0)
              obtain ⟨w9, hw9⟩ : ∃ w9, (((((((((((((w5.setCell ⟨w.heap.size, 0, none⟩ (.int .u8 0)).setCell ⟨w.heap.size, 1, none⟩ (.int .u16 0)).setCell ⟨w.heap.size, 2, none⟩ (.int .u32 0)).setCell ⟨w.heap.size, 3, none⟩ (.int .u32 0)).setCell ⟨w.heap.size, 4, none⟩ (.int .u32 0)).setCell ⟨w.heap.size, 5, none⟩ (.int .u32 0)).setCell ⟨w.heap.size, 6, none⟩ (.int .u32 0)).setCell ⟨w.heap.size, 7, none⟩ (.int .u32 0)).setCell ⟨w.heap.size, 8, none⟩ (.int .u32 0)).setCell ⟨w.heap.size, 9, none⟩ (.int .u32 0)).setCell ⟨w.heap.size, 10, none⟩ (.int .u32 0)).setCell ⟨w.heap.size, 11, none⟩ (.int .u32 0)).setCell ⟨w.heap.size, 12, none⟩ (.int .u32 0)) = w9 := ⟨_, rfl⟩
              rw [hw9] at hf T9 ⊢
              have c0 : w9.cell? ⟨w.heap.size, 0, none⟩ = some (.int .u8 0) := (blk_cell hf 0).trans rfl
              have c1 : w9.cell? ⟨w.heap.size, 1, none⟩ = some (.int .u16 0) := (blk_cell hf 1).trans rfl
              have c2 : w9.cell? ⟨w.heap.size, 2, none⟩ = some (.int .u32 0) := (blk_cell hf 2).trans rfl
              have c3 : w9.cell? ⟨w.heap.size, 3, none⟩ = some (.int .u32 0) := (blk_cell hf 3).trans rfl
              have c4 : w9.cell? ⟨w.heap.size, 4, none⟩ = some (.int .u32 0) := (blk_cell hf 4).trans rfl
              have c5 : w9.cell? ⟨w.heap.size, 5, none⟩ = some (.int .u32 0) := (blk_cell hf 5).trans rfl
              have c6 : w9.cell? ⟨w.heap.size, 6, none⟩ = some (.int .u32 0) := (blk_cell hf 6).trans rfl
              have c7 : w9.cell? ⟨w.heap.size, 7, none⟩ = some (.int .u32 0) := (blk_cell hf 7).trans rfl
              have c8 : w9.cell? ⟨w.heap.size, 8, none⟩ = some (.int .u32 0) := (blk_cell hf 8).trans rfl
              have c9 : w9.cell? ⟨w.heap.size, 9, none⟩ = some (.int .u32 0) := (blk_cell hf 9).trans rfl
              have c10 : w9.cell? ⟨w.heap.size, 10, none⟩ = some (.int .u32 0) := (blk_cell hf 10).trans rfl
              have c11 : w9.cell? ⟨w.heap.size, 11, none⟩ = some (.int .u32 0) := (blk_cell hf 11).trans rfl
              have c12 : w9.cell? ⟨w.heap.size, 12, none⟩ = some (.int .u32 0) := (blk_cell hf 12).trans rfl
              clear hw9 hf
              exact bodyPost_ret (v := .tuple #[.agg #[.int .u8 0, .int .u16 0, .int .u32 0, .int .u32 0, .int .u32 0, .int .u32 0, .int .u32 0, .int .u32 0, .int .u32 0, .int .u32 0, .int .u32 0, .int .u32 0, .int .u32 0], .int .i64 62]) (by simp [results, Try.results19, go_sem, c0, c1, c2, c3, c4, c5, c6, c7, c8, c9, c10, c11, c12]) rfl ⟨T9, .inr ⟨HD.out, rfl⟩⟩
            · have HD : Hid (decB xs = true) := Lib.hid (by simp [decB, hrb, bk, hem, h64])
              go_wp2_with fail
              have hf := put13 (show w5.heap[w.heap.size]? = some (.cells #[.int .u8 0, .int .u16 0, .int .u32 0, .int .u32 0, .int .u32 0, .int .u32 0, .int .u32 0, .int .u32 0, .int .u32 0, .int .u32 0, .int .u32 0, .int .u32 0, .int .u32 0] 48 (0, 0)) from HP.out.1) (.int .u8 (at_ xs 0 1)) (.int .u16 (at_ xs 2 2)) (.int .u32 (at_ xs 4 4)) (.int .u32 (dirX xs 0)) (.int .u32 (dirX xs 1)) (.int .u32 (dirX xs 2)) (.int .u32 (dirX xs 3)) (.int .u32 (dirX xs 4)) (.int .u32 (dirX xs 5)) (.int .u32 (dirX xs 6)) (.int .u32 (dirX xs 7)) (.int .u32 (at_ xs 40 4)) (.int .u32 (at_ xs 44 4))
              have T9 := bel13 T5.out (Nat.le_refl _) (.int .u8 (at_ xs 0 1)) (.int .u16 (at_ xs 2 2)) (.int .u32 (at_ xs 4 4)) (.int .u32 (dirX xs 0)) (.int .u32 (dirX xs 1)) (.int .u32 (dirX xs 2)) (.int .u32 (dirX xs 3)) (.int .u32 (dirX xs 4)) (.int .u32 (dirX xs 5)) (.int .u32 (dirX xs 6)) (.int .u32 (dirX xs 7)) (.int .u32 (at_ xs 40 4)) (.int .u32 (at_ xs 44 4))
              obtain ⟨w9, hw9⟩ : ∃ w9, (((((((((((((w5.setCell ⟨w.heap.size, 0, none⟩ (.int .u8 (at_ xs 0 1))).setCell ⟨w.heap.size, 1, none⟩ (.int .u16 (at_ xs 2 2))).setCell ⟨w.heap.size, 2, none⟩ (.int .u32 (at_ xs 4 4))).setCell ⟨w.heap.size, 3, none⟩ (.int .u32 (dirX xs 0))).setCell ⟨w.heap.size, 4, none⟩ (.int .u32 (dirX xs 1))).setCell ⟨w.heap.size, 5, none⟩ (.int .u32 (dirX xs 2))).setCell ⟨w.heap.size, 6, none⟩ (.int .u32 (dirX xs 3))).setCell ⟨w.heap.size, 7, none⟩ (.int .u32 (dirX xs 4))).setCell ⟨w.heap.size, 8, none⟩ (.int .u32 (dirX xs 5))).setCell ⟨w.heap.size, 9, none⟩ (.int .u32 (dirX xs 6))).setCell ⟨w.heap.size, 10, none⟩ (.int .u32 (dirX xs 7))).setCell ⟨w.heap.size, 11, none⟩ (.int .u32 (at_ xs 40 4))).setCell ⟨w.heap.size, 12, none⟩ (.int .u32 (at_ xs 44 4))) = w9 := ⟨_, rfl⟩
              rw [hw9] at hf T9 ⊢
              have c0 : w9.cell? ⟨w.heap.size, 0, none⟩ = some (.int .u8 (at_ xs 0 1)) := (blk_cell hf 0).trans rfl
              have c1 : w9.cell? ⟨w.heap.size, 1, none⟩ = some (.int .u16 (at_ xs 2 2)) := (blk_cell hf 1).trans rfl
              have c2 : w9.cell? ⟨w.heap.size, 2, none⟩ = some (.int .u32 (at_ xs 4 4)) := (blk_cell hf 2).trans rfl
              have c3 : w9.cell? ⟨w.heap.size, 3, none⟩ = some (.int .u32 (dirX xs 0)) := (blk_cell hf 3).trans rfl
              have c4 : w9.cell? ⟨w.heap.size, 4, none⟩ = some (.int .u32 (dirX xs 1)) := (blk_cell hf 4).trans rfl
              have c5 : w9.cell? ⟨w.heap.size, 5, none⟩ = some (.int .u32 (dirX xs 2)) := (blk_cell hf 5).trans rfl
              have c6 : w9.cell? ⟨w.heap.size, 6, none⟩ = some (.int .u32 (dirX xs 3)) := (blk_cell hf 6).trans rfl
              have c7 : w9.cell? ⟨w.heap.size, 7, none⟩ = some (.int .u32 (dirX xs 4)) := (blk_cell hf 7).trans rfl
              have c8 : w9.cell? ⟨w.heap.size, 8, none⟩ = some (.int .u32 (dirX xs 5)) := (blk_cell hf 8).trans rfl
              have c9 : w9.cell? ⟨w.heap.size, 9, none⟩ = some (.int .u32 (dirX xs 6)) := (blk_cell hf 9).trans rfl
              have c10 : w9.cell? ⟨w.heap.size, 10, none⟩ = some (.int .u32 (dirX xs 7)) := (blk_cell hf 10).trans rfl
              have c11 : w9.cell? ⟨w.heap.size, 11, none⟩ = some (.int .u32 (at_ xs 40 4)) := (blk_cell hf 11).trans rfl
              have c12 : w9.cell? ⟨w.heap.size, 12, none⟩ = some (.int .u32 (at_ xs 44 4)) := (blk_cell hf 12).trans rfl
              clear hw9 hf
              exact bodyPost_ret (v := .tuple #[.agg #[.int .u8 (at_ xs 0 1), .int .u16 (at_ xs 2 2), .int .u32 (at_ xs 4 4), .int .u32 (dirX xs 0), .int .u32 (dirX xs 1), .int .u32 (dirX xs 2), .int .u32 (dirX xs 3), .int .u32 (dirX xs 4), .int .u32 (dirX xs 5), .int .u32 (dirX xs 6), .int .u32 (dirX xs 7), .int .u32 (at_ xs 40 4), .int .u32 (at_ xs 44 4)], .int .i64 0]) (by simp [results, Try.results19, go_sem, c0, c1, c2, c3, c4, c5, c6, c7, c8, c9, c10, c11, c12]) rfl ⟨T9, .inl ⟨HD.out, rfl⟩⟩
          · have bk : (at_ xs 0 1 == 0) = false := by simpa using hk0
            clear hk0
            have HD : Hid (decB xs = true) := Lib.hid (by simp [decB, hrb, bk, h64])
            go_wp2_with fail
            have hf := put13 (show w5.heap[w.heap.size]? = some (.cells #[.int .u8 0, .int .u16 0, .int .u32 0, .int .u32 0, .int .u32 0, .int .u32 0, .int .u32 0, .int .u32 0, .int .u32 0, .int .u32 0, .int .u32 0, .int .u32 0, .int .u32 0] 48 (0, 0)) from HP.out.1) (.int .u8 (at_ xs 0 1)) (.int .u16 (at_ xs 2 2)) (.int .u32 (at_ xs 4 4)) (.int .u32 (dirX xs 0)) (.int .u32 (dirX xs 1)) (.int .u32 (dirX xs 2)) (.int .u32 (dirX xs 3)) (.int .u32 (dirX xs 4)) (.int .u32 (dirX xs 5)) (.int .u32 (dirX xs 6)) (.int .u32 (dirX xs 7)) (.int .u32 (at_ xs 40 4)) (.int .u32 (at_ xs 44 4))
            have T9 := bel13 T5.out (Nat.le_refl _) (.int .u8 (at_ xs 0 1)) (.int .u16 (at_ xs 2 2)) (.int .u32 (at_ xs 4 4)) (.int .u32 (dirX xs 0)) (.int .u32 (dirX xs 1)) (.int .u32 (dirX xs 2)) (.int .u32 (dirX xs 3)) (.int .u32 (dirX xs 4)) (.int .u32 (dirX xs 5)) (.int .u32 (dirX xs 6)) (.int .u32 (dirX xs 7)) (.int .u32 (at_ xs 40 4)) (.int .u32 (at_ xs 44 4))
            obtain ⟨w9, hw9⟩ : ∃ w9, (((((((((((((w5.setCell ⟨w.heap.size, 0, none⟩ (.int .u8 (at_ xs 0 1))).setCell ⟨w.heap.size, 1, none⟩ (.int .u16 (at_ xs 2 2))).setCell ⟨w.heap.size, 2, none⟩ (.int .u32 (at_ xs 4 4))).setCell ⟨w.heap.size, 3, none⟩ (.int .u32 (dirX xs 0))).setCell ⟨w.heap.size, 4, none⟩ (.int .u32 (dirX xs 1))).setCell ⟨w.heap.size, 5, none⟩ (.int .u32 (dirX xs 2))).setCell ⟨w.heap.size, 6, none⟩ (.int .u32 (dirX xs 3))).setCell ⟨w.heap.size, 7, none⟩ (.int .u32 (dirX xs 4))).setCell ⟨w.heap.size, 8, none⟩ (.int .u32 (dirX xs 5))).setCell ⟨w.heap.size, 9, none⟩ (.int .u32 (dirX xs 6))).setCell ⟨w.heap.size, 10, none⟩ (.int .u32 (dirX xs 7))).setCell ⟨w.heap.size, 11, none⟩ (.int .u32 (at_ xs 40 4))).setCell ⟨w.heap.size, 12, none⟩ (.int .u32 (at_ xs 44 4))) = w9 := ⟨_, rfl⟩
            rw [hw9] at hf T9 ⊢
            have c0 : w9.cell? ⟨w.heap.size, 0, none⟩ = some (.int .u8 (at_ xs 0 1)) := (blk_cell hf 0).trans rfl
            have c1 : w9.cell? ⟨w.heap.size, 1, none⟩ = some (.int .u16 (at_ xs 2 2)) := (blk_cell hf 1).trans rfl
            have c2 : w9.cell? ⟨w.heap.size, 2, none⟩ = some (.int .u32 (at_ xs 4 4)) := (blk_cell hf 2).trans rfl
            have c3 : w9.cell? ⟨w.heap.size, 3, none⟩ = some (.int .u32 (dirX xs 0)) := (blk_cell hf 3).trans rfl
            have c4 : w9.cell? ⟨w.heap.size, 4, none⟩ = some (.int .u32 (dirX xs 1)) := (blk_cell hf 4).trans rfl
            have c5 : w9.cell? ⟨w.heap.size, 5, none⟩ = some (.int .u32 (dirX xs 2)) := (blk_cell hf 5).trans rfl
            have c6 : w9.cell? ⟨w.heap.size, 6, none⟩ = some (.int .u32 (dirX xs 3)) := (blk_cell hf 6).trans rfl
            have c7 : w9.cell? ⟨w.heap.size, 7, none⟩ = some (.int .u32 (dirX xs 4)) := (blk_cell hf 7).trans rfl
            have c8 : w9.cell? ⟨w.heap.size, 8, none⟩ = some (.int .u32 (dirX xs 5)) := (blk_cell hf 8).trans rfl
            have c9 : w9.cell? ⟨w.heap.size, 9, none⟩ = some (.int .u32 (dirX xs 6)) := (blk_cell hf 9).trans rfl
            have c10 : w9.cell? ⟨w.heap.size, 10, none⟩ = some (.int .u32 (dirX xs 7)) := (blk_cell hf 10).trans rfl
            have c11 : w9.cell? ⟨w.heap.size, 11, none⟩ = some (.int .u32 (at_ xs 40 4)) := (blk_cell hf 11).trans rfl
            have c12 : w9.cell? ⟨w.heap.size, 12, none⟩ = some (.int .u32 (at_ xs 44 4)) := (blk_cell hf 12).trans rfl
            clear hw9 hf
            exact bodyPost_ret (v := .tuple #[.agg #[.int .u8 (at_ xs 0 1), .int .u16 (at_ xs 2 2), .int .u32 (at_ xs 4 4), .int .u32 (dirX xs 0), .int .u32 (dirX xs 1), .int .u32 (dirX xs 2), .int .u32 (dirX xs 3), .int .u32 (dirX xs 4), .int .u32 (dirX xs 5), .int .u32 (dirX xs 6), .int .u32 (dirX xs 7), .int .u32 (at_ xs 40 4), .int .u32 (at_ xs 44 4)], .int .i64 0]) (by simp [results, Try.results19, go_sem, c0, c1, c2, c3, c4, c5, c6, c7, c8, c9, c10, c11, c12]) rfl ⟨T9, .inl ⟨HD.out, rfl⟩⟩
        · have b64 : ((xs.length : Int) != 64) = true := by simp; omega
          have HD : Hid (decB xs = false) := Lib.hid (by simp [decB, h64])
          go_wp2_with fail
          have hf := put13 (show w5.heap[w.heap.size]? = some (.cells #[.int .u8 0, .int .u16 0, .int .u32 0, .int .u32 0, .int .u32 0, .int .u32 0, .int .u32 0, .int .u32 0, .int .u32 0, .int .u32 0, .int .u32 0, .int .u32 0, .int .u32 0] 48 (0, 0)) from HP.out.1) (.int .u8 0) (.int .u16 0) (.int .u32 0) (.int .u32 0) (.int .u32 0) (.int .u32 0) (.int .u32 0) (.int .u32 0) (.int .u32 0) (.int .u32 0) (.int .u32 0) (.int .u32 0) (.int .u32 0)
          have T9 := bel13 T5.out (Nat.le_refl _) (.int .u8 0) (.int .u16 0) (.int .u32 0) (.int .u32 0) (.int .u32 0) (.int .u32 0) (.int .u32 0) (.int .u32 0) (.int .u32 0) (.int .u32 0) (.int .u32 0) (.int .u32 0) (.int .u32 0)
          obtain ⟨w9, hw9⟩ : ∃ w9, (((((((((((((w5.setCell ⟨w.heap.size, 0, none⟩ (.int .u8 0)).setCell ⟨w.heap.size, 1, none⟩ (.int .u16 0)).setCell ⟨w.heap.size, 2, none⟩ (.int .u32 0)).setCell ⟨w.heap.size, 3, none⟩ (.int .u32 0)).setCell ⟨w.heap.size, 4, none⟩ (.int .u32 0)).setCell ⟨w.heap.size, 5, none⟩ (.int .u32 0)).setCell ⟨w.heap.size, 6, none⟩ (.int .u32 0)).setCell ⟨w.heap.size, 7, none⟩ (.int .u32 0)).setCell ⟨w.heap.size, 8, none⟩ (.int .u32 0)).setCell ⟨w.heap.size, 9, none⟩ (.int .u32 0)).setCell ⟨w.heap.size, 10, none⟩ (.int .u32 0)).setCell ⟨w.heap.size, 11, none⟩ (.int .u32 0)).setCell ⟨w.heap.size, 12, none⟩ (.int .u32 0)) = w9 := ⟨_, rfl⟩
          rw [hw9] at hf T9 ⊢
          have c0 : w9.cell? ⟨w.heap.size, 0, none⟩ = some (.int .u8 0) := (blk_cell hf 0).trans rfl
          have c1 : w9.cell? ⟨w.heap.size, 1, none⟩ = some (.int .u16 0) := (blk_cell hf 1).trans rfl
          have c2 : w9.cell? ⟨w.heap.size, 2, none⟩ = some (.int .u32 0) := (blk_cell hf 2).trans rfl
          have c3 : w9.cell? ⟨w.heap.size, 3, none⟩ = some (.int .u32 0) := (blk_cell hf 3).trans rfl
          have c4 : w9.cell? ⟨w.heap.size, 4, none⟩ = some (.int .u32 0) := (blk_cell hf 4).trans rfl
          have c5 : w9.cell? ⟨w.heap.size, 5, none⟩ = some (.int .u32 0) := (blk_cell hf 5).trans rfl
          have c6 : w9.cell? ⟨w.heap.size, 6, none⟩ = some (.int .u32 0) := (blk_cell hf 6).trans rfl
          have c7 : w9.cell? ⟨w.heap.size, 7, none⟩ = some (.int .u32 0) := (blk_cell hf 7).trans rfl
          have c8 : w9.cell? ⟨w.heap.size, 8, none⟩ = some (.int .u32 0) := (blk_cell hf 8).trans rfl
          have c9 : w9.cell? ⟨w.heap.size, 9, none⟩ = some (.int .u32 0) := (blk_cell hf 9).trans rfl
          have c10 : w9.cell? ⟨w.heap.size, 10, none⟩ = some (.int .u32 0) := (blk_cell hf 10).trans rfl
          have c11 : w9.cell? ⟨w.heap.size, 11, none⟩ = some (.int .u32 0) := (blk_cell hf 11).trans rfl
          have c12 : w9.cell? ⟨w.heap.size, 12, none⟩ = some (.int .u32 0) := (blk_cell hf 12).trans rfl
          clear hw9 hf
          exact bodyPost_ret (v := .tuple #[.agg #[.int .u8 0, .int .u16 0, .int .u32 0, .int .u32 0, .int .u32 0, .int .u32 0, .int .u32 0, .int .u32 0, .int .u32 0, .int .u32 0, .int .u32 0, .int .u32 0, .int .u32 0], .int .i64 62]) (by simp [results, Try.results19, go_sem, c0, c1, c2, c3, c4, c5, c6, c7, c8, c9, c10, c11, c12]) rfl ⟨T9, .inr ⟨HD.out, rfl⟩⟩
    · have hR5 := hM.blk HW.out.1 (by rintro (e | e) <;> omega)
      have T5 : Hid (Below w.heap.size w w5) := Lib.hid (HW.out.2.2.2.1.trans (hM.below (B := w.heap.size) (by have h_ := HW.out.2.2.2.2; omega) (by rintro i (rfl | rfl) <;> omega)))
      have HP := Lib.hid hR5
      clear hM hR5
      have y0 := (blk_cell HP.out 0).trans rfl
      have q0 := blk_frozen HP.out 0
      have y1 := (blk_cell HP.out 1).trans rfl
      have q1 := blk_frozen HP.out 1
      have y2 := (blk_cell HP.out 2).trans rfl
      have q2 := blk_frozen HP.out 2
      have y3 := (blk_cell HP.out 3).trans rfl
      have q3 := blk_frozen HP.out 3
      have y4 := (blk_cell HP.out 4).trans rfl
      have q4 := blk_frozen HP.out 4
      have y5 := (blk_cell HP.out 5).trans rfl
      have q5 := blk_frozen HP.out 5
      have y6 := (blk_cell HP.out 6).trans rfl
      have q6 := blk_frozen HP.out 6
      have y7 := (blk_cell HP.out 7).trans rfl
      have q7 := blk_frozen HP.out 7
      have y8 := (blk_cell HP.out 8).trans rfl
      have q8 := blk_frozen HP.out 8
      have y9 := (blk_cell HP.out 9).trans rfl
      have q9 := blk_frozen HP.out 9
      have y10 := (blk_cell HP.out 10).trans rfl
      have q10 := blk_frozen HP.out 10
      have y11 := (blk_cell HP.out 11).trans rfl
      have q11 := blk_frozen HP.out 11
      have y12 := (blk_cell HP.out 12).trans rfl
      have q12 := blk_frozen HP.out 12
      have h64 : ¬ xs.length = 64 := by omega
      have HD : Hid (decB xs = false) := Lib.hid (by simp [decB, h64])
      go_wp2_with fail
      have hf := put13 (show w5.heap[w.heap.size]? = some (.cells #[.int .u8 0, .int .u16 0, .int .u32 0, .int .u32 0, .int .u32 0, .int .u32 0, .int .u32 0, .int .u32 0, .int .u32 0, .int .u32 0, .int .u32 0, .int .u32 0, .int .u32 0] 48 (0, 0)) from HP.out) (.int .u8 0) (.int .u16 0) (.int .u32 0) (.int .u32 0) (.int .u32 0) (.int .u32 0) (.int .u32 0) (.int .u32 0) (.int .u32 0) (.int .u32 0) (.int .u32 0) (.int .u32 0) (.int .u32 0)
      have T9 := bel13 T5.out (Nat.le_refl _) (.int .u8 0) (.int .u16 0) (.int .u32 0) (.int .u32 0) (.int .u32 0) (.int .u32 0) (.int .u32 0) (.int .u32 0) (.int .u32 0) (.int .u32 0) (.int .u32 0) (.int .u32 0) (.int .u32 0)
      obtain ⟨w9, hw9⟩ : ∃ w9, (((((((((((((w5.setCell ⟨w.heap.size, 0, none⟩ (.int .u8 0)).setCell ⟨w.heap.size, 1, none⟩ (.int .u16 0)).setCell ⟨w.heap.size, 2, none⟩ (.int .u32 0)).setCell ⟨w.heap.size, 3, none⟩ (.int .u32 0)).setCell ⟨w.heap.size, 4, none⟩ (.int .u32 0)).setCell ⟨w.heap.size, 5, none⟩ (.int .u32 0)).setCell ⟨w.heap.size, 6, none⟩ (.int .u32 0)).setCell ⟨w.heap.size, 7, none⟩ (.int .u32 0)).setCell ⟨w.heap.size, 8, none⟩ (.int .u32 0)).setCell ⟨w.heap.size, 9, none⟩ (.int .u32 0)).setCell ⟨w.heap.size, 10, none⟩ (.int .u32 0)).setCell ⟨w.heap.size, 11, none⟩ (.int .u32 0)).setCell ⟨w.heap.size, 12, none⟩ (.int .u32 0)) = w9 := ⟨_, rfl⟩
      rw [hw9] at hf T9 ⊢
      have c0 : w9.cell? ⟨w.heap.size, 0, none⟩ = some (.int .u8 0) := (blk_cell hf 0).trans rfl
      have c1 : w9.cell? ⟨w.heap.size, 1, none⟩ = some (.int .u16 0) := (blk_cell hf 1).trans rfl
      have c2 : w9.cell? ⟨w.heap.size, 2, none⟩ = some (.int .u32 0) := (blk_cell hf 2).trans rfl
      have c3 : w9.cell? ⟨w.heap.size, 3, none⟩ = some (.int .u32 0) := (blk_cell hf 3).trans rfl
      have c4 : w9.cell? ⟨w.heap.size, 4, none⟩ = some (.int .u32 0) := (blk_cell hf 4).trans rfl
      have c5 : w9.cell? ⟨w.heap.size, 5, none⟩ = some (.int .u32 0) := (blk_cell hf 5).trans rfl
      have c6 : w9.cell? ⟨w.heap.size, 6, none⟩ = some (.int .u32 0) := (blk_cell hf 6).trans rfl
      have c7 : w9.cell? ⟨w.heap.size, 7, none⟩ = some (.int .u32 0) := (blk_cell hf 7).trans rfl
      have c8 : w9.cell? ⟨w.heap.size, 8, none⟩ = some (.int .u32 0) := (blk_cell hf 8).trans rfl
      have c9 : w9.cell? ⟨w.heap.size, 9, none⟩ = some (.int .u32 0) := (blk_cell hf 9).trans rfl
      have c10 : w9.cell? ⟨w.heap.size, 10, none⟩ = some (.int .u32 0) := (blk_cell hf 10).trans rfl
      have c11 : w9.cell? ⟨w.heap.size, 11, none⟩ = some (.int .u32 0) := (blk_cell hf 11).trans rfl
      have c12 : w9.cell? ⟨w.heap.size, 12, none⟩ = some (.int .u32 0) := (blk_cell hf 12).trans rfl
      clear hw9 hf
      exact bodyPost_ret (v := .tuple #[.agg #[.int .u8 0, .int .u16 0, .int .u32 0, .int .u32 0, .int .u32 0, .int .u32 0, .int .u32 0, .int .u32 0, .int .u32 0, .int .u32 0, .int .u32 0, .int .u32 0, .int .u32 0], .int .i64 62]) (by simp [results, Try.results19, go_sem, c0, c1, c2, c3, c4, c5, c6, c7, c8, c9, c10, c11, c12]) rfl ⟨T9, .inr ⟨HD.out, rfl⟩⟩
end Go.Proofs.Ytdcelfoomjahjaa
