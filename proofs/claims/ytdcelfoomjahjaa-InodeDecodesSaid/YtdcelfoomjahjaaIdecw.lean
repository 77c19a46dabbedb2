import Derived.Test.YtdcelfoomjahjaaIdec2
import Derived.Test.YtdcelfoomjahjaaChain
import Derived.Deep.RegionHeld3
import Derived.Deep.DrawnRows
import Derived.Deep.RegionWith
/-! The law InodeDecodes: its walk. -/
set_option linter.unusedVariables false
set_option linter.unusedSimpArgs false
namespace Go.Proofs.Ytdcelfoomjahjaa
open Go.RowKit Go.Proofs.YtdcelfoomjahjaaW.PrintWords Go.Proofs.YtdcelfoomjahjaaW.PrintLast Go.Proofs.Ytdcelfoomjahjaa.PInodeDecodes
attribute [local go_sem ↓] Go.wp_at_zero Go.wp_at_succ
def IdcR.T6 : Bool × List (List Nat × List Nat) := (true, [([], []), ([], []), ([0, 1], [0, 1]), ([2], [2]), ([3], [3]), ([4, 3], [3, 4]), ([5, 3, 3], [3, 5]), ([6], [6]), ([7, 6, 6], [6, 7]), ([8, 8, 6], [6, 8]), ([6], [6]), ([10, 9, 6], [6, 10]), ([9, 11, 11, 6], [6, 9, 11]), ([12, 6], [6, 12]), ([6, 13, 3], [3, 6, 13]), ([3, 14], [3, 14]), ([15, 12], [15]), ([16], [16]), ([17, 16], [16, 17]), ([18, 16, 16], [16, 18]), ([19], [19]), ([19], [19]), ([20, 21, 19], [19, 20, 21]), ([19, 22, 16], [16, 19, 22]), ([16, 23], [16, 23])])
def IdcR.B6 : List Nat := [0, 0, 3, 7, 15, 31, 63, 127, 255, 511, 127, 2047, 4095, 8191, 16383, 32767, 65535, 131071, 262143, 524287, 1048575, 1048575, 4194303, 8388607, 16777215]
theorem IdcR.tab6 : rtab .any (opsOf Try.f8 6) = IdcR.T6 := by kernel_rfl
theorem IdcR.bits6 : waitsOk IdcR.T6.2 IdcR.B6 = true := by kernel_rfl
theorem dec17_ok (xs : List Int) (k l s : Int) (L : List Int) (hL : L.length = 10) (A : Option Addr) (n c : Nat) (w : World) (hn : xs.length = n) (hr : ReadsInt w .u8 A n xs) (hc : n ≤ c) (hb : Byt xs) (h : dec17 xs = (k, l, s, L, 0)) :
    Calls Try.prog 20 #[.slice A n c] w fun e w' => ∃ B q, e = .returned (.tuple #[.agg #[.int .i64 k, .int .i64 l, .int .i64 s, .slice B 10 q], .int .i64 0]) ∧ 10 ≤ q ∧ ReadsInt w' .i64 B 10 L ∧ Below w.heap.size w w' := by
  subst hn
  have h1 := rDecode17 xs A c w hr hc hb
  rw [h] at h1
  refine h1.mono ?_
  rintro e w' ⟨v, he, ho, hb⟩
  obtain ⟨B, q, rfl⟩ := own_slice ho
  have hq := own_le ho
  rw [hL] at hq
  simp only [hL] at he ho
  exact ⟨B, q, he, hq, own_reads' ho, hb⟩
theorem dec17_no (xs : List Int) (A : Option Addr) (n c : Nat) (w : World) (hn : xs.length = n) (hr : ReadsInt w .u8 A n xs) (hc : n ≤ c) (hb : Byt xs) (h : dec17 xs = (0, 0, 0, [], 62)) :
    Calls Try.prog 20 #[.slice A n c] w fun e w' => ∃ B m q, e = .returned (.tuple #[.agg #[.int .i64 0, .int .i64 0, .int .i64 0, .slice B m q], .int .i64 62]) ∧ Below w.heap.size w w' := by
  subst hn
  have h1 := rDecode17 xs A c w hr hc hb
  rw [h] at h1
  refine h1.mono ?_
  rintro e w' ⟨v, he, ho, hb⟩
  obtain ⟨B, q, rfl⟩ := own_slice ho
  exact ⟨B, _, q, he, hb⟩
theorem same_self (xs : List Int) (A B : Option Addr) (n m c d : Nat) (w : World) (hx : ReadsInt w .u8 A n xs) (hy : ReadsInt w .u8 B m xs) (hb : Byt xs) :
    Calls Try.prog 16 #[.slice A n c, .slice B m d] w fun e w' => e = .returned (.bool true) ∧ Drawn0 w w' := by
  refine (rSame_any xs xs A B n m c d w hx hy hb hb).mono ?_
  rintro e w' ⟨he, hd⟩
  exact ⟨by rw [he]; simp, hd⟩
theorem mods13 {S : Nat → Prop} {w w5 : World} {g : Nat} (h : Mods S w w5) (hg : S g) (v0 v1 v2 v3 v4 v5 v6 v7 v8 v9 v10 v11 v12 : Value) : Mods S w (((((((((((((w5.setCell ⟨g, 0, none⟩ v0).setCell ⟨g, 1, none⟩ v1).setCell ⟨g, 2, none⟩ v2).setCell ⟨g, 3, none⟩ v3).setCell ⟨g, 4, none⟩ v4).setCell ⟨g, 5, none⟩ v5).setCell ⟨g, 6, none⟩ v6).setCell ⟨g, 7, none⟩ v7).setCell ⟨g, 8, none⟩ v8).setCell ⟨g, 9, none⟩ v9).setCell ⟨g, 10, none⟩ v10).setCell ⟨g, 11, none⟩ v11).setCell ⟨g, 12, none⟩ v12) := (Mods.at_ (Mods.at_ (Mods.at_ (Mods.at_ (Mods.at_ (Mods.at_ (Mods.at_ (Mods.at_ (Mods.at_ (Mods.at_ (Mods.at_ (Mods.at_ (Mods.at_ h (.inl hg) 0 v0) (.inl hg) 1 v1) (.inl hg) 2 v2) (.inl hg) 3 v3) (.inl hg) 4 v4) (.inl hg) 5 v5) (.inl hg) 6 v6) (.inl hg) 7 v7) (.inl hg) 8 v8) (.inl hg) 9 v9) (.inl hg) 10 v10) (.inl hg) 11 v11) (.inl hg) 12 v12)
theorem eq8z (w : World) : (Op.equalIn 9999 46 (.agg #[.int .u32 (dirN 0), .int .u32 (dirN 1), .int .u32 (dirN 2), .int .u32 (dirN 3), .int .u32 (dirN 4), .int .u32 (dirN 5), .int .u32 (dirN 6), .int .u32 (dirN 7)]) (.agg #[.int .u32 0, .int .u32 0, .int .u32 0, .int .u32 0, .int .u32 0, .int .u32 0, .int .u32 0, .int .u32 0])).run Try.prog w = .ok true w := by
  have hi : ∃ i, Try.prog.info? 35 = some i := by
    have h : (Try.prog.info? 35).isSome = true := by kernel_rfl
    exact Option.isSome_iff_exists.1 h
  obtain ⟨i, hi⟩ := hi
  rw [run_equalIn_array w 9998 _ _ Try.underlying46 hi]
  have hc : Try.prog.cellsOf 35 = 1 := by kernel_rfl
  rw [hc]
  simp [Op.eqItems, List.range_succ, go_sem, dirN]
def LpR (wb wr : World) (A' : Option Addr) (c' : Nat) (L : List Int) : Prop := L.length = 64 ∧ Byt L ∧ 64 ≤ c' ∧ ReadsInt wr .u8 A' 64 L ∧ ∀ a, A' = some a → wb.heap.size < a.block ∧ a.block < wr.heap.size
theorem rem64 (t : Int) : ∃ p : Int, (IntKind.u64.wrap t).tmod 64 = p ∧ 0 ≤ p ∧ p < 64 := by
  have h0 : 0 ≤ IntKind.u64.wrap t := by rw [IntKind.wrap_u64]; omega
  refine ⟨_, rfl, ?_, ?_⟩
  · rw [Int.tmod_eq_emod_of_nonneg h0]; omega
  · rw [Int.tmod_eq_emod_of_nonneg h0]; omega
set_option maxHeartbeats 1000000 in
theorem with64 (L : List Int) (u : Int) (A' : Option Addr) (c' : Nat) (wb : World) (p0 : Nat) (wr W : World) (HL : LpR wb wr A' c' L) (hwb : wb.heap.size ≤ wr.heap.size) (bu : 0 ≤ u ∧ u < 256) (hp : p0 < 64) (hW : W = (wr.alloc (.cells #[.int .u8 u] 5)).drew) :
    Calls Try.prog 21 #[.slice A' 64 c', .int .i64 (p0 : Int), .slice (some ⟨wr.heap.size, 0, none⟩) 1 1] W fun e w' => ∃ A13 c13, e = .returned (.slice A13 64 c13) ∧ LpR wb w' A13 c13 (L.take p0 ++ [u] ++ L.drop (p0 + 1)) ∧ Below wr.heap.size wr w' := by
  obtain ⟨h1, h2, h3, h4, h5⟩ := HL
  have hb : Below wr.heap.size wr W := by rw [hW]; exact bl_drew (bl_alloc (Below.refl _ _) _)
  have hrow : ReadsInt W .u8 (some ⟨wr.heap.size, 0, none⟩) 1 [u] := by rw [hW]; exact reads_box wr .u8 [u] 1 5 rfl (by omega)
  have hlen : (L.take p0 ++ [u] ++ L.drop (p0 + 1)).length = 64 := by simp only [List.length_append, List.length_take, List.length_drop, List.length_cons, List.length_nil]; omega
  have hc := rWith_any L [u] A' (some ⟨wr.heap.size, 0, none⟩) c' 1 1 (p0 : Int) W (by rw [h1]; exact h4.below hb) (by omega) hrow (by omega) (by omega) (by omega)
  rw [h1] at hc
  refine hc.mono ?_
  rintro e w' ⟨v, rfl, hn⟩
  rw [Int.toNat_natCast, show ((p0 : Int) + ((1 : Nat) : Int)).toNat = p0 + 1 by omega] at hn
  obtain ⟨A13, c13, rfl, hc13⟩ := hn.slice
  have hr := hn.reads
  have hfar := fun q hq => hn.far (k := q) hq
  have hlt := fun q hq => (hn.1.lt q hq).2
  rw [hlen] at hc13 hr ⊢
  refine ⟨A13, c13, rfl, ⟨hlen, ?_, hc13, hr, fun a ha => ?_⟩, bl_seq hb hn.bel⟩
  · intro x hx
    simp only [List.mem_append, List.mem_singleton] at hx
    rcases hx with (hx | rfl) | hx
    · exact h2 x (List.mem_of_mem_take hx)
    · exact bu
    · exact h2 x (List.mem_of_mem_drop hx)
  · have e1 := hfar a.block (by rw [ha]; rfl)
    have e2 := hlt a.block (by rw [ha]; rfl)
    have e3 : W.heap.size = wr.heap.size + 1 := by rw [hW]; simp
    omega
theorem put4 {w : World} {g : Nat} {t : TypeId} {b0 b1 b2 b3 : Value} (h : w.heap[g]? = some (.cells #[b0, b1, b2, b3] t (0, 0))) (v0 v1 v2 v3 : Value) : ((((w.setCell ⟨g, 0, none⟩ v0).setCell ⟨g, 1, none⟩ v1).setCell ⟨g, 2, none⟩ v2).setCell ⟨g, 3, none⟩ v3).heap[g]? = some (.cells #[v0, v1, v2, v3] t (0, 0)) := by
  have h0 := blk_put h 0 v0 (cs' := #[v0, b1, b2, b3]) (by simp)
  have h1 := blk_put h0 1 v1 (cs' := #[v0, v1, b2, b3]) (by simp)
  have h2 := blk_put h1 2 v2 (cs' := #[v0, v1, v2, b3]) (by simp)
  have h3 := blk_put h2 3 v3 (cs' := #[v0, v1, v2, v3]) (by simp)
  exact h3
theorem mods4 {S : Nat → Prop} {w w5 : World} {g : Nat} (h : Mods S w w5) (hg : S g) (v0 v1 v2 v3 : Value) : Mods S w ((((w5.setCell ⟨g, 0, none⟩ v0).setCell ⟨g, 1, none⟩ v1).setCell ⟨g, 2, none⟩ v2).setCell ⟨g, 3, none⟩ v3) := (Mods.at_ (Mods.at_ (Mods.at_ (Mods.at_ h (.inl hg) 0 v0) (.inl hg) 1 v1) (.inl hg) 2 v2) (.inl hg) 3 v3)
theorem cellsXW {W : World} {x g : Nat} {k2 l2 s2 : Int} {d2 : Nat → Int} {a2 b2 : Int} {A3 : Option Addr} {c3 : Nat} (h1 : W.heap[x]? = some (.cells #[.int .u8 k2, .int .u16 l2, .int .u32 s2, .int .u32 (d2 0), .int .u32 (d2 1), .int .u32 (d2 2), .int .u32 (d2 3), .int .u32 (d2 4), .int .u32 (d2 5), .int .u32 (d2 6), .int .u32 (d2 7), .int .u32 a2, .int .u32 b2] 48 (0, 0))) (h2 : W.heap[g]? = some (.cells #[.int .i64 k2, .int .i64 l2, .int .i64 s2, .slice A3 10 c3] 55 (0, 0))) : W.cell? ⟨x, 0, none⟩ = some (.int .u8 k2) ∧ W.cell? ⟨x, 1, none⟩ = some (.int .u16 l2) ∧ W.cell? ⟨x, 2, none⟩ = some (.int .u32 s2) ∧ W.cell? ⟨x, 3, none⟩ = some (.int .u32 (d2 0)) ∧ W.cell? ⟨x, 4, none⟩ = some (.int .u32 (d2 1)) ∧ W.cell? ⟨x, 5, none⟩ = some (.int .u32 (d2 2)) ∧ W.cell? ⟨x, 6, none⟩ = some (.int .u32 (d2 3)) ∧ W.cell? ⟨x, 7, none⟩ = some (.int .u32 (d2 4)) ∧ W.cell? ⟨x, 8, none⟩ = some (.int .u32 (d2 5)) ∧ W.cell? ⟨x, 9, none⟩ = some (.int .u32 (d2 6)) ∧ W.cell? ⟨x, 10, none⟩ = some (.int .u32 (d2 7)) ∧ W.cell? ⟨x, 11, none⟩ = some (.int .u32 a2) ∧ W.cell? ⟨x, 12, none⟩ = some (.int .u32 b2) ∧ W.cell? ⟨g, 0, none⟩ = some (.int .i64 k2) ∧ W.cell? ⟨g, 1, none⟩ = some (.int .i64 l2) ∧ W.cell? ⟨g, 2, none⟩ = some (.int .i64 s2) ∧ W.cell? ⟨g, 3, none⟩ = some (.slice A3 10 c3) := ⟨(blk_cell h1 0).trans rfl, (blk_cell h1 1).trans rfl, (blk_cell h1 2).trans rfl, (blk_cell h1 3).trans rfl, (blk_cell h1 4).trans rfl, (blk_cell h1 5).trans rfl, (blk_cell h1 6).trans rfl, (blk_cell h1 7).trans rfl, (blk_cell h1 8).trans rfl, (blk_cell h1 9).trans rfl, (blk_cell h1 10).trans rfl, (blk_cell h1 11).trans rfl, (blk_cell h1 12).trans rfl, (blk_cell h2 0).trans rfl, (blk_cell h2 1).trans rfl, (blk_cell h2 2).trans rfl, (blk_cell h2 3).trans rfl⟩
end Go.Proofs.Ytdcelfoomjahjaa
