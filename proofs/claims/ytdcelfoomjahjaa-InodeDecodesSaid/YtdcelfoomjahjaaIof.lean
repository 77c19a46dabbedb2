import Derived.Test.YtdcelfoomjahjaaDecode
import Derived.Deep.RegionHeld3
import Derived.Deep.RegionLaw
import Derived.Deep.DrawnRows
/-! gabionlaw17.of: the document's inode. -/
set_option linter.unusedVariables false
set_option linter.unusedSimpArgs false
namespace Go.Proofs.Ytdcelfoomjahjaa
open Go.RowKit Go.Proofs.YtdcelfoomjahjaaW.PrintWords
attribute [local go_sem ↓] Go.wp_at_zero Go.wp_at_succ
theorem infoI64 : (Try.prog.info? 2).map (fun i => (i.zero, i.size, i.bytes)) = some (some (.int .i64 0), 1, 8) := by kernel_rfl
theorem decA_at (k l s : Int) (d : Nat → Int) (a b : Int) (j : Nat) (hj : j < 8) : (decA k l s d a b)[3 + j]? = some (.int .u32 (d j)) := by
  have h : j = 0 ∨ j = 1 ∨ j = 2 ∨ j = 3 ∨ j = 4 ∨ j = 5 ∨ j = 6 ∨ j = 7 := by omega
  rcases h with rfl | rfl | rfl | rfl | rfl | rfl | rfl | rfl <;> simp [decA]
theorem nums_one' (k : IntKind) (x : Int) : ∀ u ∈ [Value.int k x], u.oneCell' = true := by
  intro u hu
  rw [List.mem_singleton] at hu
  subst hu
  rfl
def dL (d : Nat → Int) (j : Nat) : List Int := (List.range j).map d
theorem dL_snoc (d : Nat → Int) (j : Nat) : dL d (j + 1) = dL d j ++ [d j] := by simp [dL, List.range_succ]
theorem dL_len (d : Nat → Int) (j : Nat) : (dL d j).length = j := by simp [dL]
/-- The numbers that the document's inode names. -/
def ats (d : Nat → Int) (a b : Int) : List Int := dL d 8 ++ [a, b]
def OfG (w : World) (k l s : Int) (d : Nat → Int) (a b : Int) (xs : List Int) (v : Value) (W : World) : Prop :=
  Below w.heap.size w W ∧ W.heap[w.heap.size]? = some (.cells (decA k l s d a b) 48 (0, 0)) ∧ W.heap[w.heap.size + 1]? = some (.cells #[.int .i64 0, .int .i64 0, .int .i64 0, .slice none 0 0] 55 (0, 0)) ∧
  W.heap[w.heap.size + 1 + 1]? = some (.cells #[.int .i64 k, .int .i64 l, .int .i64 s, v] 55 (0, 0)) ∧ W.ownsRow w.heap.size 2 1 v xs.length (nums .i64 xs)
theorem OfG.put {w W W' : World} {k l s : Int} {d : Nat → Int} {a b : Int} {xs ys : List Int} {v v' : Value} (h : OfG w k l s d a b xs v W) (ho : W'.ownsRow w.heap.size 2 1 v' ys.length (nums .i64 ys)) (hg : W.grownBy W' v.ownBlock) (hb : Below w.heap.size W W') :
    OfG w k l s d a b ys v' (W'.setCell ⟨w.heap.size + 1 + 1, 3, none⟩ v') := by
  obtain ⟨h1, h2, h3, h4, h5⟩ := h
  have g2 := blk_grown h2 hg (own_ne h5 h2 (by decide))
  have g3 := blk_grown h3 hg (own_ne h5 h3 (by decide))
  have g4 := blk_grown h4 hg (own_ne h5 h4 (by decide))
  refine ⟨(h1.trans hb).setCell (by simp; omega) _, blk_far g2 (p := ⟨w.heap.size + 1 + 1, 3, none⟩) (by simp; omega) _, blk_far g3 (p := ⟨w.heap.size + 1 + 1, 3, none⟩) (by simp) _, blk_put g4 3 _ (by simp), own_setCell ho (own_ne ho g4 (by decide)) _⟩
theorem OfG.alloc {w W : World} {k l s : Int} {d : Nat → Int} {a b : Int} {xs : List Int} {v : Value} (h : OfG w k l s d a b xs v W) (o : Obj) : OfG w k l s d a b xs v (W.alloc o) :=
  ⟨bl_alloc h.1 _, blk_alloc h.2.1 _, blk_alloc h.2.2.1 _, blk_alloc h.2.2.2.1 _, h.2.2.2.2.alloc _⟩
theorem bl_undrew {B : Nat} {w W : World} (h : Below B w W) : Below B w.drew W := ⟨h.os, h.tape, h.output, h.size, h.block⟩
theorem OfG.drew {w W : World} {k l s : Int} {d : Nat → Int} {a b : Int} {xs : List Int} {v : Value} (h : OfG w k l s d a b xs v W) : OfG w k l s d a b xs v W.drew :=
  ⟨bl_drew h.1, h.2.1, h.2.2.1, h.2.2.2.1, h.2.2.2.2⟩
theorem OfG.drewN {w W : World} {k l s : Int} {d : Nat → Int} {a b : Int} {xs : List Int} {v : Value} (h : OfG w k l s d a b xs v W) (n : Nat) : OfG w k l s d a b xs v (W.drewN n) :=
  ⟨bl_drewN h.1 n, h.2.1, h.2.2.1, h.2.2.2.1, h.2.2.2.2⟩
set_option maxHeartbeats 4000000 in
set_option maxRecDepth 100000 in
theorem of_any (k l s : Int) (d : Nat → Int) (a b : Int) (w : World) (k0 : 0 ≤ k) (k1 : k < 256) (l0 : 0 ≤ l) (l1 : l < 65536) (s0 : 0 ≤ s) (s1 : s < 4294967296) (d0 : ∀ j, 0 ≤ d j ∧ d j < 4294967296) (a0 : 0 ≤ a) (a1 : a < 4294967296) (b0 : 0 ≤ b) (b1 : b < 4294967296) :
    Calls Try.prog 18 #[.agg (decA k l s d a b)] w fun e w' => ∃ v, e = .returned (.agg #[.int .i64 k, .int .i64 l, .int .i64 s, v]) ∧ w'.ownsRow w.heap.size 2 1 v 10 (nums .i64 (ats d a b)) ∧ Below w.heap.size w w' := by
  have hu := Try.underlying53
  obtain ⟨i0, hi0, hz0, hs0, hb0⟩ := info_parts infoI64
  have HD := Lib.hid d0
  clear d0
  simp only [decA]
  go_enter Try.func18, Try.ntmps18
  go_wp2
  have h3 := alloc3 w (decA k l s d a b) #[.int .i64 0, .int .i64 0, .int .i64 0, .slice none 0 0] #[.int .i64 k, .int .i64 l, .int .i64 s, .slice none 0 0] 48 55 55
  have G0 := Lib.hid (show OfG w k l s d a b [] (.slice none 0 0) _ from ⟨h3.2.2.2.1, h3.1, h3.2.1, h3.2.2.1, own_nil _ _ _ _⟩)
  clear h3
  go_loopw [4] (fun i wr => ∃ (j : Nat) (v : Value), j ≤ 8 ∧ i = .int .i64 (j : Int) ∧ Hid (OfG w k l s d a b (dL d j) v wr)) (fun i _ => 8 - (intOf i).toNat)
  case atStart => exact ⟨0, _, Nat.zero_le _, rfl, G0⟩
  case round =>
    clear G0
    obtain ⟨j, v, hj, rfl, G⟩ := hrel
    obtain ⟨A, q, c, rfl⟩ := own_slice' G.out.2.2.2.2
    have z1 : wr.cell? ⟨w.heap.size + 1 + 1, 3, none⟩ = some (.slice A q c) := (blk_cell G.out.2.2.2.1 3).trans rfl
    have f1 := blk_frozen G.out.2.2.2.1 3
    by_cases hlt : j < 8
    · have z2 := (blk_cell G.out.2.1 (3 + j)).trans (decA_at k l s d a b j hlt)
      obtain ⟨e0, e1⟩ := HD.out j
      obtain ⟨x, hx⟩ : ∃ x, d j = x := ⟨_, rfl⟩
      have HX := Lib.hid hx
      rw [hx] at z2 e0 e1
      have HZ := Lib.hid ((decA_at k l s d a b j hlt).trans (by rw [HX.out]))
      have HA : Hid (wr.drew.ownsRow w.heap.size 2 1 (.slice A q c) j (nums .i64 (dL d j)) ∧ Below w.heap.size wr wr.drew ∧ w.heap.size ≤ wr.drew.heap.size) := Lib.hid ⟨by have h_ := G.out.2.2.2.2; rw [dL_len] at h_; exact h_, bl_drew (Below.refl _ _), G.out.1.size⟩
      have hj8 : (j + 1) * 8 ≤ 140737488355328 := by omega
      have hwx : IntKind.i64.wrap x = x := by rw [IntKind.wrap_i64]; omega
      have i0' : (0 : Int) ≤ (j : Int) := by omega
      have i1' : (j : Int) < 8 := by omega
      clear hx
      go_wp2
      have n1 : ∀ o, (wr.alloc o).cell? ⟨w.heap.size + 1 + 1, 3, none⟩ = some (.slice A q c) := fun o => (blk_cell (blk_alloc G.out.2.2.2.1 o) 3).trans rfl
      have n2 : ∀ o, (wr.alloc o).cell? ⟨w.heap.size, 3 + j, none⟩ = some (.int .u32 x) := fun o => (blk_cell (blk_alloc G.out.2.1 o) (3 + j)).trans HZ.out
      go_region_law
        (first | (refine step_append_cells (w0 := wr) (W := wr.drew) w.heap.size (by simp [Region.wanted]) (.tmp 20) (.tmp 26) 53 2 (.int .i64 0) 1 8 (by rfl) hu infoI64 rfl (by decide) (by decide) (.slice A q c) j (nums .i64 (dL d j)) [.int .i64 x] (by rfl) (by rfl) rfl (nums_one' _ _) HA.out.1 HA.out.2.1 HA.out.2.2 hj8 ?_; intro v1 w1 ho hb hg hat; obtain ⟨A2, q2, c2, rfl⟩ := own_slice' ho; have b4 := blk_grown (w := wr.drew) G.out.2.2.2.1 hg (own_ne G.out.2.2.2.2 G.out.2.2.2.1 (by decide)); have z9 : w1.cell? ⟨w.heap.size + 1 + 1, 3, none⟩ = some (.slice A q c) := (blk_cell b4 3).trans rfl; have f9 := blk_frozen b4 3; have z8 : w1.cell? ⟨w.heap.size, 3 + j, none⟩ = some (.int .u32 x) := (blk_cell (blk_grown (w := wr.drew) G.out.2.1 hg (own_ne G.out.2.2.2.2 G.out.2.1 (by decide))) (3 + j)).trans HZ.out; have G2 := Lib.hid (And.intro ho (And.intro hb hg)); clear ho hb hg hat b4) | fail)
      all_goals
        go_wp2
        go_roundw
        case rel =>
          refine ⟨j + 1, _, by omega, by go_num, Lib.hid (G.out.drew.put (ys := dL d (j + 1)) ?_ G2.out.2.2 (bl_undrew G2.out.2.1))⟩
          have h_ := G2.out.1
          rw [dL_snoc, HX.out, List.length_append, dL_len]
          simpa [nums] using h_
        case measure => simp [intOf]; omega
    · have hj8 : j = 8 := by omega
      subst hj8
      have za : wr.cell? ⟨w.heap.size, 11, none⟩ = some (.int .u32 a) := (blk_cell G.out.2.1 11).trans rfl
      have zb : wr.cell? ⟨w.heap.size, 12, none⟩ = some (.int .u32 b) := (blk_cell G.out.2.1 12).trans rfl
      have hwa : IntKind.i64.wrap a = a := by rw [IntKind.wrap_i64]; omega
      have hwb : IntKind.i64.wrap b = b := by rw [IntKind.wrap_i64]; omega
      clear i0 hi0 hz0 hs0 hb0
      go_wp2_with (at_builtin; refine print_append_row (w0 := wr) w.heap.size rfl (.tmp 30) (.tmp 37) 53 2 .i64 8 rfl hu infoI64 (by decide) (.slice A q c) (dL d 8) [a, b] (some ⟨wr.heap.size, 0, none⟩) 2 2 rfl rfl (G.out.2.2.2.2.alloc _) (reads_box wr .i64 [a, b] 2 2 rfl (by omega)) ((Below.refl _ _).alloc G.out.1.size _) (by have h_ := G.out.1.size; simp; omega) (by rw [dL_len]; omega) ?_; intro v2 w2 ho hb hg hat; obtain ⟨A2, q2, c2, rfl⟩ := own_slice' ho; have G9 := G.out.alloc (.cells #[.int .i64 a, .int .i64 b] 2); have b4 := blk_grown G9.2.2.2.1 hg (own_ne G9.2.2.2.2 G9.2.2.2.1 (by decide)); have b3 := blk_grown G9.2.2.1 hg (own_ne G9.2.2.2.2 G9.2.2.1 (by decide)); have z9 : w2.cell? ⟨w.heap.size + 1 + 1, 3, none⟩ = some (.slice A q c) := (blk_cell b4 3).trans rfl; have f9 := blk_frozen b4 3; have x0 : w2.cell? ⟨w.heap.size + 1 + 1, 0, none⟩ = some (.int .i64 k) := (blk_cell b4 0).trans rfl; have x1 : w2.cell? ⟨w.heap.size + 1 + 1, 1, none⟩ = some (.int .i64 l) := (blk_cell b4 1).trans rfl; have x2 : w2.cell? ⟨w.heap.size + 1 + 1, 2, none⟩ = some (.int .i64 s) := (blk_cell b4 2).trans rfl; have r0 : w2.cell? ⟨w.heap.size + 1, 0, none⟩ = some (.int .i64 0) := (blk_cell b3 0).trans rfl; have r1 : w2.cell? ⟨w.heap.size + 1, 1, none⟩ = some (.int .i64 0) := (blk_cell b3 1).trans rfl; have r2 : w2.cell? ⟨w.heap.size + 1, 2, none⟩ = some (.int .i64 0) := (blk_cell b3 2).trans rfl; have r3 : w2.cell? ⟨w.heap.size + 1, 3, none⟩ = some (.slice none 0 0) := (blk_cell b3 3).trans rfl; have t0 := blk_frozen b3 0; have t1 := blk_frozen b3 1; have t2 := blk_frozen b3 2; have t3 := blk_frozen b3 3; have G2 := Lib.hid (And.intro ho (And.intro hb (And.intro b3 b4))); clear ho hb hg hat b4 b3 G9)
      have e3 := blk_far G2.out.2.2.1 (p := ⟨w.heap.size + 1 + 1, 3, none⟩) (by simp) (.slice A2 q2 c2)
      have e4 := blk_put (blk_put (blk_put (blk_put e3 0 (.int .i64 k) (cs' := #[.int .i64 k, .int .i64 0, .int .i64 0, .slice none 0 0]) (by simp)) 1 (.int .i64 l) (cs' := #[.int .i64 k, .int .i64 l, .int .i64 0, .slice none 0 0]) (by simp)) 2 (.int .i64 s) (cs' := #[.int .i64 k, .int .i64 l, .int .i64 s, .slice none 0 0]) (by simp)) 3 (.slice A2 q2 c2) (cs' := #[.int .i64 k, .int .i64 l, .int .i64 s, .slice A2 q2 c2]) (by simp)
      have o4 : (((((w2.setCell ⟨w.heap.size + 1 + 1, 3, none⟩ (.slice A2 q2 c2)).setCell ⟨w.heap.size + 1, 0, none⟩ (.int .i64 k)).setCell ⟨w.heap.size + 1, 1, none⟩ (.int .i64 l)).setCell ⟨w.heap.size + 1, 2, none⟩ (.int .i64 s)).setCell ⟨w.heap.size + 1, 3, none⟩ (.slice A2 q2 c2)).ownsRow w.heap.size 2 1 (.slice A2 q2 c2) (dL d 8 ++ [a, b]).length (nums .i64 (dL d 8 ++ [a, b])) := own_setCell (own_setCell (own_setCell (own_setCell (own_setCell G2.out.1 (own_ne G2.out.1 G2.out.2.2.2 (by decide)) _) (own_ne G2.out.1 G2.out.2.2.1 (by decide)) _) (own_ne G2.out.1 G2.out.2.2.1 (by decide)) _) (own_ne G2.out.1 G2.out.2.2.1 (by decide)) _) (own_ne G2.out.1 G2.out.2.2.1 (by decide)) _
      have T4 : Below w.heap.size w (((((w2.setCell ⟨w.heap.size + 1 + 1, 3, none⟩ (.slice A2 q2 c2)).setCell ⟨w.heap.size + 1, 0, none⟩ (.int .i64 k)).setCell ⟨w.heap.size + 1, 1, none⟩ (.int .i64 l)).setCell ⟨w.heap.size + 1, 2, none⟩ (.int .i64 s)).setCell ⟨w.heap.size + 1, 3, none⟩ (.slice A2 q2 c2)) := (((((G.out.1.trans G2.out.2.1).setCell (by simp; omega) _).setCell (by simp) _).setCell (by simp) _).setCell (by simp) _).setCell (by simp) _
      obtain ⟨w9, hw9⟩ : ∃ w9, ((((w2.setCell ⟨w.heap.size + 1 + 1, 3, none⟩ (.slice A2 q2 c2)).setCell ⟨w.heap.size + 1, 0, none⟩ (.int .i64 k)).setCell ⟨w.heap.size + 1, 1, none⟩ (.int .i64 l)).setCell ⟨w.heap.size + 1, 2, none⟩ (.int .i64 s)).setCell ⟨w.heap.size + 1, 3, none⟩ (.slice A2 q2 c2) = w9 := ⟨_, rfl⟩
      rw [hw9] at e4 o4 T4 ⊢
      have c0 : w9.cell? ⟨w.heap.size + 1, 0, none⟩ = some (.int .i64 k) := (blk_cell e4 0).trans rfl
      have c1 : w9.cell? ⟨w.heap.size + 1, 1, none⟩ = some (.int .i64 l) := (blk_cell e4 1).trans rfl
      have c2' : w9.cell? ⟨w.heap.size + 1, 2, none⟩ = some (.int .i64 s) := (blk_cell e4 2).trans rfl
      have c3 : w9.cell? ⟨w.heap.size + 1, 3, none⟩ = some (.slice A2 q2 c2) := (blk_cell e4 3).trans rfl
      have O4 := Lib.hid (And.intro o4 T4)
      clear hw9 e3 e4 o4 T4
      exact bodyPost_ret (v := .agg #[.int .i64 k, .int .i64 l, .int .i64 s, .slice A2 q2 c2]) (by simp [results, Try.results18, go_sem, c0, c1, c2', c3]) rfl ⟨_, rfl, by simpa [ats, dL_len] using O4.out.1, O4.out.2⟩
end Go.Proofs.Ytdcelfoomjahjaa
