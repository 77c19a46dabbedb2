/- What the proof of TopSealed leans on: Base Cur Cub Cuc Ref Reg Take Rdr Rds Read Mods Rdm Ta Tb Tc Td. -/
import Derived.Test.YtffalemndjampaaRows
import Derived.Test.YtffalemndjampaaQaa
import Derived.WalkKit
import Derived.WalkSpells
import Derived.Lib.Hide
import Derived.Deep.QuietTactic
import Derived.BigQuiet
import Derived.Laws.StructEq
import Derived.ChangeKeysEq
import Derived.Lib.Strings
import Derived.Defers
import Derived.Recover
import Derived.WalkSmall
import Derived.Laws.BitsAllLaws
import Derived.Laws.Pointers
import Derived.Test.YtffalemndjampaaQab
import Derived.Deep.RegionHeld3
section
namespace Go.Proofs.Ytffalemndjampaa
open Go.RowKit
theorem bl_alloc {w W : World} (h : Below w.heap.size w W) (o : Obj) : Below w.heap.size w (W.alloc o) := h.alloc h.size o
theorem bl_drew {B : Nat} {w W : World} (h : Below B w W) : Below B w W.drew := ⟨h.os, h.tape, h.output, h.size, h.block⟩
theorem bl_drewN {B : Nat} {w W : World} (h : Below B w W) (n : Nat) : Below B w (W.drewN n) := ⟨h.os, h.tape, h.output, h.size, h.block⟩
theorem bl_seq {w w1 w2 : World} (h : Below w.heap.size w w1) (k : Below w1.heap.size w1 w2) : Below w.heap.size w w2 :=
 h.trans ⟨k.os, k.tape, k.output, k.size, fun i hi => k.block i (Nat.lt_of_lt_of_le hi h.size)⟩
theorem bl_step {w w1 w2 : World} {B : Nat} (h : Below w.heap.size w w1) (k : Below B w1 w2) (hB : w.heap.size ≤ B) : Below w.heap.size w w2 :=
 h.trans (k.mono hB)
theorem bl_set {w W : World} (h : Below w.heap.size w W) {p : Addr} (hp : w.heap.size ≤ p.block) (u : Value) : Below w.heap.size w (W.setCell p u) := h.setCell hp u
end Go.Proofs.Ytffalemndjampaa
end
section
namespace Go.Proofs.Ytffalemndjampaa
open Go.RowKit Go.Proofs.YtffalemndjampaaW.PrintWords
def le (x : Int) : Nat → List Int
 | 0 => []
 | n + 1 => x % 256 :: le (x / 256) n
theorem le_length (x : Int) (n : Nat) : (le x n).length = n := by induction n generalizing x <;> simp [le, *]
theorem own_slice' {w : World} {base n : Nat} {e : TypeId} {size : Nat} {v : Value} {xs : List Value} (h : w.ownsRow base e size v n xs) : ∃ A m c, v = .slice A m c := by
 obtain ⟨A, c, h⟩ := own_slice h
 exact ⟨A, n, c, h⟩
theorem info5' : (Try.prog.info? 5).map (fun i => (i.zero, i.size, i.bytes)) = some (some (.int .u8 0), 1, 1) := by kernel_rfl
structure WrV (w : World) (base p : Nat) (v : Value) (l : List Int) : Prop where
 blk : w.heap[p]? = some (.cells #[v] 29 (0, 0))
 own : w.ownsRow base 5 1 v l.length (nums .u8 l)
theorem WrV.ne {w : World} {base p : Nat} {v : Value} {l : List Int} (h : WrV w base p v l) : some p ≠ v.ownBlock := own_ne h.own h.blk (by decide)
theorem WrV.cell {w : World} {base p : Nat} {v : Value} {l : List Int} (h : WrV w base p v l) : w.cell? ⟨p, 0, none⟩ = some v := by rw [blk_cell h.blk]; rfl
theorem WrV.free {w : World} {base p : Nat} {v : Value} {l : List Int} (h : WrV w base p v l) : w.frozen? ⟨p, 0, none⟩ = false := blk_frozen h.blk 0
theorem WrV.lt {w : World} {base p : Nat} {v : Value} {l : List Int} (h : WrV w base p v l) : p < w.heap.size := blk_lt h.blk
theorem WrV.slice {w : World} {base p : Nat} {v : Value} {l : List Int} (h : WrV w base p v l) : ∃ A c, v = .slice A l.length c := own_slice h.own
def WrS (w : World) (base p : Nat) (v : Value) (l : List Int) (w' : World) : Prop :=
 ∃ v', WrV w' base p v' l ∧ KeepBut w w' p v.ownBlock ∧ (v'.ownBlock = v.ownBlock ∨ ∃ b, v'.ownBlock = some b ∧ w.heap.size ≤ b) ∧ Below base w w'
theorem WrS.refl {w : World} {base p : Nat} {v : Value} {l : List Int} (h : WrV w base p v l) : WrS w base p v l w := ⟨v, h, KeepBut.refl _ _ _, .inl rfl, Below.refl _ _⟩
theorem WrV.alloc {w : World} {base p : Nat} {v : Value} {l : List Int} (h : WrV w base p v l) (o : Obj) : WrV (w.alloc o) base p v l := ⟨(Below.heap_alloc w o p h.lt).trans h.blk, h.own.alloc o⟩
theorem WrV.drew {w : World} {base p : Nat} {v : Value} {l : List Int} (h : WrV w base p v l) : WrV w.drew base p v l := ⟨h.blk, h.own⟩
theorem WrV.below {w w' : World} {base p : Nat} {v : Value} {l : List Int} (h : WrV w base p v l) (hb : Below w.heap.size w w') : WrV w' base p v l :=
 ⟨(hb.block p h.lt).trans h.blk, own_move h.own fun k hk => hb.block k (h.own.lt k hk).2⟩
theorem WrS.to {w w1 w2 : World} {base p : Nat} {v v1 : Value} {l1 l2 : List Int} (h : WrV w1 base p v1 l1 ∧ KeepBut w w1 p v.ownBlock ∧ (v1.ownBlock = v.ownBlock ∨ ∃ b, v1.ownBlock = some b ∧ w.heap.size ≤ b) ∧ Below base w w1)
  (k : WrS w1 base p v1 l2 w2) : WrS w base p v l2 w2 := by
 obtain ⟨_, k1, r1, b1⟩ := h
 obtain ⟨v2, h2, k2, r2, b2⟩ := k
 refine ⟨v2, h2, k1.trans k2 r1, ?_, b1.trans b2⟩
 rcases r2 with r2 | ⟨b, r2, hb⟩
 ·rw [r2]; exact r1
 ·exact .inr ⟨b, r2, Nat.le_trans k1.1 hb⟩
theorem WrS.after {w w1 w2 : World} {base p : Nat} {v : Value} {l l2 : List Int} (h : WrV w base p v l) (hb : Below w.heap.size w w1) (hB : base ≤ w.heap.size) (k : WrS w1 base p v l2 w2) : WrS w base p v l2 w2 :=
 WrS.to ⟨h.below hb, KeepBut.of_below hb _ _, .inl rfl, hb.mono hB⟩ k
theorem WrS.put {w wr w2 : World} {base p : Nat} {v v1 v2 : Value} {m l : List Int} (g : WrV wr base p v1 m ∧ KeepBut w wr p v.ownBlock ∧ (v1.ownBlock = v.ownBlock ∨ ∃ b, v1.ownBlock = some b ∧ w.heap.size ≤ b) ∧ Below base w wr)
  (hbp : base ≤ p) (ho : w2.ownsRow base 5 1 v2 l.length (nums .u8 l)) (hb : Below base wr w2) (hg : wr.grownBy w2 v1.ownBlock) (hat : v2.ownBlock = v1.ownBlock ∨ ∃ b, v2.ownBlock = some b ∧ wr.heap.size ≤ b) :
  WrS w base p v l (w2.setCell ⟨p, 0, none⟩ v2) := by
 have h1 := blk_grown g.1.blk hg g.1.ne
 refine WrS.to g ⟨v2, ⟨blk_set h1 0 v2, own_setCell ho (own_ne ho h1 (by decide)) v2⟩, (KeepBut.of_grown hg p).set_ 0 v2, hat, hb.setCell hbp v2⟩
set_option maxHeartbeats 1000000 in
theorem num_any (base p : Nat) (v : Value) (l : List Int) (x : Int) (n : Nat) (w : World) (h : WrV w base p v l) (hbp : base ≤ p) (hB : base ≤ w.heap.size) (h0 : 0 ≤ x) (h1 : x < 18446744073709551616) (hl : l.length + n ≤ 1099511627776) :
  Calls Try.prog 28 #[.pointer (some ⟨p, 0, none⟩), .int .u64 x, .int .i64 (n : Int)] w fun e w' => e = .returned (.pointer (some ⟨p, 0, none⟩)) ∧ WrS w base p v (l ++ le x n) w' := by
 have HP := Lib.hid (WrS.refl h); clear h
 have hn : n ≤ 1099511627776 := by omega
 have HL := Lib.hid hl; clear hl
 go_enter Try.func28, Try.ntmps28
 go_wp2
 go_loopw [1, 10] (fun a i wr => ∃ (k : Nat) (y : Int) (m : List Int), k ≤ n ∧ i = .int .i64 (k : Int) ∧ a = .int .u64 y ∧ 0 ≤ y ∧ y < 18446744073709551616 ∧ Hid (m ++ le y (n - k) = l ++ le x n) ∧ Hid (m.length = l.length + k) ∧ Hid (WrS w base p v m wr)) (fun _ i _ => n - (intOf i).toNat)
 case atStart => exact ⟨0, x, l, Nat.zero_le _, rfl, rfl, h0, h1, rfl, rfl, HP⟩
 case round =>
  obtain ⟨k, y, m, hk, rfl, rfl, hy0, hy1, HE, HM, HW⟩ := hrel
  clear HP
  by_cases hlt : k < n
  ·obtain ⟨v1, g1, g2, g3, g4⟩ := HW.out
   obtain ⟨A, c, rfl⟩ := g1.slice
   have hc := g1.cell
   have hf := g1.free
   have G := Lib.hid (And.intro g1 (And.intro g2 (And.intro g3 g4)))
   clear g1 g2 g3 g4
   go_wp2_with (at_builtin; refine print_append_num (w0 := wr) base rfl (.tmp 16) (.tmp 19) 27 5 .u8 1 rfl Try.underlying27 info5' (by decide) (.slice A m.length c) m (y % 256) rfl rfl ?aO (Below.refl _ _) ?aS ?aL ?_; (case aO => exact G.out.1.own); (case aS => have := G.out.2.2.2.size; omega); (case aL => have h1_ := HL.out; have h2_ := HM.out; omega); intro v2 w2 ho hb hg hat; obtain ⟨A2, n2, c2, rfl⟩ := own_slice' ho; have g1 := G.out.1; have hb2 := blk_grown g1.blk hg g1.ne; have hc2 := (blk_cell hb2 0).trans rfl; have hf2 := blk_frozen hb2 0; have G2 := Lib.hid (And.intro ho (And.intro hb (And.intro hg (And.intro hat hb2)))); clear ho hb hg hat g1 hb2)
   go_roundw
   case rel =>
    refine ⟨k + 1, y / 256, m ++ [y % 256], by omega, by go_num, by first | rfl | (simp [go_sem]; done), by omega, by omega, ?_, ?_, ?_⟩
    ·have e1 : n - k = (n - (k + 1)) + 1 := by omega
     have h_ := HE.out
     rw [e1, le] at h_
     exact Lib.hid (by simpa using h_)
    ·have h_ := HM.out
     exact Lib.hid (by simp; omega)
    ·obtain ⟨g1, g2, g3, g4⟩ := G.out
     obtain ⟨ho, hb, hg, hat, hb2⟩ := G2.out
     exact Lib.hid (WrS.put ⟨g1, g2, g3, g4⟩ hbp ho hb hg hat)
   case measure => simp [intOf]; omega
  ·have hkn : k = n := by omega
   have hfin : m = l ++ le x n := by have h_ := HE.out; rw [show n - k = 0 by omega, le, List.append_nil] at h_; exact h_
   have HF := Lib.hid hfin
   clear hfin hkn
   go_wp2
   go_ret
   exact ⟨rfl, HF.out ▸ HW.out⟩
theorem reads_keep {w w' : World} {k : IntKind} {A : Option Addr} {n g : Nat} {xs : List Int} {row : Option Nat} (h : ReadsInt w k A n xs) (hk : KeepBut w w' g row) (hne : 0 < n → ∀ a, A = some a → a.block ≠ g ∧ some a.block ≠ row) : ReadsInt w' k A n xs :=
 ⟨h.1, h.2.1, fun hn => by
  obtain ⟨ad, e, hc⟩ := h.2.2 hn
  refine ⟨ad, e, fun j hj => ?_⟩
  have hb : ((ad.add j).block) = ad.block := by unfold Addr.add; split <;> rfl
  have hlt := World.block_lt_of_cell? w _ (hc j hj)
  rw [World.cell?_of_block (w := w) (hk.2 _ hlt (by rw [hb]; exact (hne hn ad e).1) (by rw [hb]; exact (hne hn ad e).2))]
  exact hc j hj⟩
theorem rd_getD (xs : List Int) (k : Nat) : rd xs (k : Int) = xs.getD k 0 := by simp [rd]
def les (n : Nat) (xs : List Int) : List Int := xs.flatMap fun x => le x n
theorem les_length (n : Nat) (xs : List Int) : (les n xs).length = n * xs.length := by
 induction xs with
 | nil => simp [les]
 | cons x xs ih => simp only [les, List.flatMap_cons, List.length_append, le_length, List.length_cons] at ih ⊢; rw [ih, Nat.mul_add]; omega
theorem les_snoc (n : Nat) (xs : List Int) (k : Nat) (hk : k < xs.length) : les n (xs.take (k + 1)) = les n (xs.take k) ++ le (xs.getD k 0) n := by
 rw [List.take_succ_eq_append_getElem hk, les, les, List.flatMap_append]
 simp [List.getD_eq_getElem?_getD, List.getElem?_eq_getElem hk]
set_option maxHeartbeats 1000000 in
theorem U8_any (base p : Nat) (v : Value) (l xs : List Int) (A : Option Addr) (c : Nat) (w : World) (h : WrV w base p v l) (hbp : base ≤ p) (hB : base ≤ w.heap.size) (hr : ReadsInt w .u8 A xs.length xs) (hx : ∀ x ∈ xs, 0 ≤ x ∧ x < 256) (hne : 0 < xs.length → ∀ a, A = some a → a.block ≠ p ∧ some a.block ≠ v.ownBlock) (hl : l.length + 1 * xs.length ≤ 1099511627776) : Calls Try.prog 57 #[.pointer (some ⟨p, 0, none⟩), .slice A xs.length c] w fun e w' => e = .returned (.pointer (some ⟨p, 0, none⟩)) ∧ WrS w base p v (l ++ les 1 xs) w' := by
 have HP := Lib.hid (WrS.refl h)
 have HV := Lib.hid h
 have hn : xs.length ≤ 1099511627776 := by omega
 have HL := Lib.hid hl
 have HX := Lib.hid hx
 have HR := Lib.hid hr
 have HN := Lib.hid hne
 clear h hl hx hr hne
 go_enter Try.func57, Try.ntmps57
 go_wp2
 go_loopw [9] (fun i wr => ∃ k : Nat, k ≤ xs.length ∧ i = .int .i64 (k : Int) ∧ Hid (WrS w base p v (l ++ les 1 (xs.take k)) wr)) (fun i _ => xs.length - (intOf i).toNat)
 case atStart => exact ⟨0, Nat.zero_le _, rfl, by simpa [les] using HP⟩
 case round =>
  obtain ⟨k, hk, rfl, HW⟩ := hrel
  clear HP
  by_cases hlt : k < xs.length
  ·obtain ⟨v1, g1, g2, g3, g4⟩ := HW.out
   have hr1 := reads_keep HR.out g2 HN.out
   obtain ⟨ad, he, hc⟩ := hr1.at_ (k : Int) (by omega) (by omega)
   subst he
   rw [Int.toNat_natCast, rd_getD] at hc
   have hxb : 0 ≤ xs.getD k 0 ∧ xs.getD k 0 < 256 := HX.out _ (by rw [List.getD_eq_getElem?_getD, List.getElem?_eq_getElem hlt]; simp)
   have HS := Lib.hid (les_snoc 1 xs k hlt)
   have hle := (les_length 1 (xs.take k)); rw [List.length_take, Nat.min_eq_left hk] at hle
   have HLE := Lib.hid hle
   clear hle
   obtain ⟨x0, hx0⟩ : ∃ x0, xs.getD k 0 = x0 := ⟨_, rfl⟩
   rw [hx0] at hc hxb HS
   obtain ⟨hxa, hxc⟩ := hxb
   have G := Lib.hid (And.intro g1 (And.intro g2 (And.intro g3 g4)))
   clear g1 g2 g3 g4 hr1 hx0
   go_wp2_with fail
   refine (num_any base p v1 (l ++ les 1 (xs.take k)) x0 1 _ G.out.1 hbp (by have := G.out.2.2.2.size; omega) (by omega) (by omega) (by have h1_ := HL.out; have h2_ := HLE.out; rw [List.length_append, h2_]; have : 1 * (k + 1) ≤ 1 * xs.length := Nat.mul_le_mul_left _ hlt; omega)).mono ?_
   rintro e w2 ⟨rfl, hw2⟩
   have H2 := Lib.hid (WrS.to G.out hw2)
   clear hw2
   go_wp2_with fail
   go_roundw
   case rel => exact ⟨k + 1, by omega, by go_num, by have h_ := H2.out; rw [List.append_assoc, ← HS.out] at h_; exact Lib.hid h_⟩
   case measure => simp [intOf]; omega
  ·have hkn : xs.take k = xs := List.take_of_length_le (by omega)
   rw [hkn] at HW
   clear hkn
   go_wp2
   go_ret
   exact ⟨rfl, HW.out⟩
set_option maxHeartbeats 1000000 in
theorem U16_any (base p : Nat) (v : Value) (l xs : List Int) (A : Option Addr) (c : Nat) (w : World) (h : WrV w base p v l) (hbp : base ≤ p) (hB : base ≤ w.heap.size) (hr : ReadsInt w .u16 A xs.length xs) (hx : ∀ x ∈ xs, 0 ≤ x ∧ x < 65536) (hne : 0 < xs.length → ∀ a, A = some a → a.block ≠ p ∧ some a.block ≠ v.ownBlock) (hl : l.length + 2 * xs.length ≤ 1099511627776) : Calls Try.prog 5 #[.pointer (some ⟨p, 0, none⟩), .slice A xs.length c] w fun e w' => e = .returned (.pointer (some ⟨p, 0, none⟩)) ∧ WrS w base p v (l ++ les 2 xs) w' := by
 have HP := Lib.hid (WrS.refl h)
 have HV := Lib.hid h
 have hn : xs.length ≤ 1099511627776 := by omega
 have HL := Lib.hid hl
 have HX := Lib.hid hx
 have HR := Lib.hid hr
 have HN := Lib.hid hne
 clear h hl hx hr hne
 go_enter Try.func5, Try.ntmps5
 go_wp2
 go_loopw [9] (fun i wr => ∃ k : Nat, k ≤ xs.length ∧ i = .int .i64 (k : Int) ∧ Hid (WrS w base p v (l ++ les 2 (xs.take k)) wr)) (fun i _ => xs.length - (intOf i).toNat)
 case atStart => exact ⟨0, Nat.zero_le _, rfl, by simpa [les] using HP⟩
 case round =>
  obtain ⟨k, hk, rfl, HW⟩ := hrel
  clear HP
  by_cases hlt : k < xs.length
  ·obtain ⟨v1, g1, g2, g3, g4⟩ := HW.out
   have hr1 := reads_keep HR.out g2 HN.out
   obtain ⟨ad, he, hc⟩ := hr1.at_ (k : Int) (by omega) (by omega)
   subst he
   rw [Int.toNat_natCast, rd_getD] at hc
   have hxb : 0 ≤ xs.getD k 0 ∧ xs.getD k 0 < 65536 := HX.out _ (by rw [List.getD_eq_getElem?_getD, List.getElem?_eq_getElem hlt]; simp)
   have HS := Lib.hid (les_snoc 2 xs k hlt)
   have hle := (les_length 2 (xs.take k)); rw [List.length_take, Nat.min_eq_left hk] at hle
   have HLE := Lib.hid hle
   clear hle
   obtain ⟨x0, hx0⟩ : ∃ x0, xs.getD k 0 = x0 := ⟨_, rfl⟩
   rw [hx0] at hc hxb HS
   obtain ⟨hxa, hxc⟩ := hxb
   have G := Lib.hid (And.intro g1 (And.intro g2 (And.intro g3 g4)))
   clear g1 g2 g3 g4 hr1 hx0
   go_wp2_with fail
   refine (num_any base p v1 (l ++ les 2 (xs.take k)) x0 2 _ G.out.1 hbp (by have := G.out.2.2.2.size; omega) (by omega) (by omega) (by have h1_ := HL.out; have h2_ := HLE.out; rw [List.length_append, h2_]; have : 2 * (k + 1) ≤ 2 * xs.length := Nat.mul_le_mul_left _ hlt; omega)).mono ?_
   rintro e w2 ⟨rfl, hw2⟩
   have H2 := Lib.hid (WrS.to G.out hw2)
   clear hw2
   go_wp2_with fail
   go_roundw
   case rel => exact ⟨k + 1, by omega, by go_num, by have h_ := H2.out; rw [List.append_assoc, ← HS.out] at h_; exact Lib.hid h_⟩
   case measure => simp [intOf]; omega
  ·have hkn : xs.take k = xs := List.take_of_length_le (by omega)
   rw [hkn] at HW
   clear hkn
   go_wp2
   go_ret
   exact ⟨rfl, HW.out⟩
set_option maxHeartbeats 1000000 in
theorem U32_any (base p : Nat) (v : Value) (l xs : List Int) (A : Option Addr) (c : Nat) (w : World) (h : WrV w base p v l) (hbp : base ≤ p) (hB : base ≤ w.heap.size) (hr : ReadsInt w .u32 A xs.length xs) (hx : ∀ x ∈ xs, 0 ≤ x ∧ x < 4294967296) (hne : 0 < xs.length → ∀ a, A = some a → a.block ≠ p ∧ some a.block ≠ v.ownBlock) (hl : l.length + 4 * xs.length ≤ 1099511627776) : Calls Try.prog 7 #[.pointer (some ⟨p, 0, none⟩), .slice A xs.length c] w fun e w' => e = .returned (.pointer (some ⟨p, 0, none⟩)) ∧ WrS w base p v (l ++ les 4 xs) w' := by
 have HP := Lib.hid (WrS.refl h)
 have HV := Lib.hid h
 have hn : xs.length ≤ 1099511627776 := by omega
 have HL := Lib.hid hl
 have HX := Lib.hid hx
 have HR := Lib.hid hr
 have HN := Lib.hid hne
 clear h hl hx hr hne
 go_enter Try.func7, Try.ntmps7
 go_wp2
 go_loopw [9] (fun i wr => ∃ k : Nat, k ≤ xs.length ∧ i = .int .i64 (k : Int) ∧ Hid (WrS w base p v (l ++ les 4 (xs.take k)) wr)) (fun i _ => xs.length - (intOf i).toNat)
 case atStart => exact ⟨0, Nat.zero_le _, rfl, by simpa [les] using HP⟩
 case round =>
  obtain ⟨k, hk, rfl, HW⟩ := hrel
  clear HP
  by_cases hlt : k < xs.length
  ·obtain ⟨v1, g1, g2, g3, g4⟩ := HW.out
   have hr1 := reads_keep HR.out g2 HN.out
   obtain ⟨ad, he, hc⟩ := hr1.at_ (k : Int) (by omega) (by omega)
   subst he
   rw [Int.toNat_natCast, rd_getD] at hc
   have hxb : 0 ≤ xs.getD k 0 ∧ xs.getD k 0 < 4294967296 := HX.out _ (by rw [List.getD_eq_getElem?_getD, List.getElem?_eq_getElem hlt]; simp)
   have HS := Lib.hid (les_snoc 4 xs k hlt)
   have hle := (les_length 4 (xs.take k)); rw [List.length_take, Nat.min_eq_left hk] at hle
   have HLE := Lib.hid hle
   clear hle
   obtain ⟨x0, hx0⟩ : ∃ x0, xs.getD k 0 = x0 := ⟨_, rfl⟩
   rw [hx0] at hc hxb HS
   obtain ⟨hxa, hxc⟩ := hxb
   have G := Lib.hid (And.intro g1 (And.intro g2 (And.intro g3 g4)))
   clear g1 g2 g3 g4 hr1 hx0
   go_wp2_with fail
   refine (num_any base p v1 (l ++ les 4 (xs.take k)) x0 4 _ G.out.1 hbp (by have := G.out.2.2.2.size; omega) (by omega) (by omega) (by have h1_ := HL.out; have h2_ := HLE.out; rw [List.length_append, h2_]; have : 4 * (k + 1) ≤ 4 * xs.length := Nat.mul_le_mul_left _ hlt; omega)).mono ?_
   rintro e w2 ⟨rfl, hw2⟩
   have H2 := Lib.hid (WrS.to G.out hw2)
   clear hw2
   go_wp2_with fail
   go_roundw
   case rel => exact ⟨k + 1, by omega, by go_num, by have h_ := H2.out; rw [List.append_assoc, ← HS.out] at h_; exact Lib.hid h_⟩
   case measure => simp [intOf]; omega
  ·have hkn : xs.take k = xs := List.take_of_length_le (by omega)
   rw [hkn] at HW
   clear hkn
   go_wp2
   go_ret
   exact ⟨rfl, HW.out⟩
end Go.Proofs.Ytffalemndjampaa
end
section
namespace Go.Proofs.Ytffalemndjampaa
open Go.RowKit Go.Proofs.YtffalemndjampaaW.PrintWords
set_option maxHeartbeats 1000000 in
theorem Raw_any (base p : Nat) (v : Value) (l xs : List Int) (A : Option Addr) (n c : Nat) (w : World) (h : WrV w base p v l) (hbp : base ≤ p) (hB : base ≤ w.heap.size) (hr : ReadsInt w .u8 A n xs) (hl : l.length + n ≤ 1099511627776) : Calls Try.prog 9 #[.pointer (some ⟨p, 0, none⟩), .slice A n c] w fun e w' => e = .returned (.pointer (some ⟨p, 0, none⟩)) ∧ WrS w base p v (l ++ xs) w' := by
 obtain ⟨B, d, rfl⟩ := h.slice
 have hc := h.cell
 have hf := h.free
 have HV := Lib.hid h
 have HR := Lib.hid hr
 have HL := Lib.hid hl
 clear h hr hl
 go_enter Try.func9, Try.ntmps9
 go_wp2_with (at_builtin; refine print_append_row (w0 := w) base rfl (.tmp 11) (.tmp 12) 27 5 .u8 1 rfl Try.underlying27 info5' (by decide) (.slice B l.length d) l xs A n c rfl rfl ?aO ?aR (Below.refl _ _) hB ?aL ?_; (case aO => exact HV.out.own); (case aR => exact HR.out); (case aL => have := HL.out; omega); intro v2 w2 ho hb hg hat; obtain ⟨A2, n2, c2, rfl⟩ := own_slice' ho; have hb2 := blk_grown HV.out.blk hg HV.out.ne; have hc2 := (blk_cell hb2 0).trans rfl; have hf2 := blk_frozen hb2 0; have G2 := Lib.hid (And.intro ho (And.intro hb (And.intro hg hat))); clear ho hb hg hat hb2)
 go_ret
 exact ⟨rfl, WrS.put ⟨HV.out, KeepBut.refl _ _ _, .inl rfl, Below.refl _ _⟩ hbp G2.out.1 G2.out.2.1 G2.out.2.2.1 G2.out.2.2.2⟩
set_option maxHeartbeats 1000000 in
theorem Bytes_any (base p : Nat) (v : Value) (l : List Int) (w : World) (h : WrV w base p v l) (hl : l.length ≤ 1099511627776) : Calls Try.prog 6 #[.pointer (some ⟨p, 0, none⟩)] w fun e w' => ∃ v', e = .returned v' ∧ w'.ownsRow w.heap.size 5 1 v' l.length (nums .u8 l) ∧ Below w.heap.size w w' := by
 obtain ⟨B, d, rfl⟩ := h.slice
 have hc := h.cell
 have hr := own_reads' h.own
 have HV := Lib.hid h
 have HR := Lib.hid hr
 have HL := Lib.hid hl
 clear h hr hl
 go_enter Try.func6, Try.ntmps6
 go_wp2_with (at_builtin; refine print_append_row (w0 := w) w.heap.size rfl (.const (.slice none 0 0)) (.tmp 8) 27 5 .u8 1 rfl Try.underlying27 info5' (by decide) (.slice none 0 0) [] l B l.length d rfl rfl (own_nil _ _ _ _) ?aR (Below.refl _ _) (Nat.le_refl _) ?aL ?_; (case aR => exact HR.out); (case aL => have := HL.out; simp; omega); intro v2 w2 ho hb hg hat; have G2 := Lib.hid (And.intro ho hb); clear ho hb hg hat)
 go_ret
 exact ⟨_, rfl, G2.out.1, G2.out.2⟩
set_option maxHeartbeats 1000000 in
theorem Pad_any (base p : Nat) (v : Value) (l : List Int) (n : Int) (w : World) (h : WrV w base p v l) (hbp : base ≤ p) (hB : base ≤ w.heap.size) (hn : n ≤ 1099511627776) (hl : l.length ≤ 1099511627776) : Calls Try.prog 45 #[.pointer (some ⟨p, 0, none⟩), .int .i64 n] w fun e w' => e = .returned (.pointer (some ⟨p, 0, none⟩)) ∧ WrS w base p v (l ++ List.replicate (n.toNat - l.length) 0) w' := by
 have HP := Lib.hid (WrS.refl h)
 have HL := Lib.hid hl
 clear h hl
 go_enter Try.func45, Try.ntmps45
 go_wp2
 go_loopg [] (n.toNat - l.length) (fun kq wr => ∃ k : Nat, k + kq = n.toNat - l.length ∧ Hid (WrS w base p v (l ++ List.replicate k 0) wr))
 case atStart => exact ⟨0, by omega, by simpa using HP⟩
 case round =>
  obtain ⟨k, hk, HW⟩ := hrel
  clear HP
  obtain ⟨v1, g1, g2, g3, g4⟩ := HW.out
  obtain ⟨A, m, c, rfl⟩ := own_slice' g1.own
  have hc := g1.cell
  have hf := g1.free
  have hm : m = l.length + k := by
   obtain ⟨A', c', e⟩ := g1.slice
   injection e with e1 e2 e3
   rw [e2]; simp
  have HM := Lib.hid hm
  by_cases hlt : (m : Int) < n
  ·have G := Lib.hid (And.intro g1 (And.intro g2 (And.intro g3 g4)))
   clear g1 g2 g3 g4 hm
   obtain ⟨gk, rfl⟩ : ∃ g, gk = g + 1 := ⟨gk - 1, by have := HM.out; omega⟩
   have HK := Lib.hid hk
   clear hk
   go_wp2_with (at_builtin; refine print_append_num (w0 := wr) base rfl (.tmp 18) (.tmp 19) 27 5 .u8 1 rfl Try.underlying27 info5' (by decide) (.slice A m c) (l ++ List.replicate k 0) 0 rfl rfl ?aO (Below.refl _ _) ?aS ?aL ?_; (case aO => exact G.out.1.own); (case aS => have := G.out.2.2.2.size; omega); (case aL => have h1_ := HL.out; have h2_ := HM.out; have h3_ := HK.out; simp; omega); intro v2 w2 ho hb hg hat; obtain ⟨A2, n2, c2, rfl⟩ := own_slice' ho; have hb2 := blk_grown G.out.1.blk hg G.out.1.ne; have hc2 := (blk_cell hb2 0).trans rfl; have hf2 := blk_frozen hb2 0; have G2 := Lib.hid (And.intro ho (And.intro hb (And.intro hg hat))); clear ho hb hg hat hb2)
   go_roundg gk
   case measure => omega
   case rel => exact ⟨k + 1, by have := HK.out; omega, by have h_ := WrS.put G.out hbp G2.out.1 G2.out.2.1 G2.out.2.2.1 G2.out.2.2.2; rw [List.append_assoc, ← List.replicate_succ'] at h_; exact Lib.hid h_⟩
  ·have e : n.toNat - l.length = k := by omega
   have H2 := Lib.hid e
   clear e g1 g2 g3 g4 hk hm
   go_wp2
   go_ret
   exact ⟨rfl, by rw [H2.out]; exact HW.out⟩
end Go.Proofs.Ytffalemndjampaa
end
section
namespace Go.Proofs.Ytffalemndjampaa
open Go.RowKit Go.Proofs.YtffalemndjampaaW.PrintWords
theorem reads_box (w : World) (k : IntKind) (xs : List Int) (n : Nat) (e : TypeId) (hn : xs.length = n) (hm : n ≤ 9223372036854775807) : ReadsInt (w.alloc (.cells (nums k xs).toArray e)) k (some ⟨w.heap.size, 0, none⟩) n xs := by
 subst hn
 exact own_reads' (own_lit w w.heap.size e k xs (Nat.le_refl _) hm)
theorem WrV.fresh {w : World} {base p : Nat} {v : Value} {l : List Int} (h : WrV w base p v l) : ∀ a, some (⟨w.heap.size, 0, none⟩ : Addr) = some a → a.block ≠ p ∧ some a.block ≠ v.ownBlock := by
 intro a ha
 obtain rfl := Option.some.inj ha
 have h1 := h.lt
 refine ⟨by simp; omega, fun e => ?_⟩
 have := (h.own.lt _ e.symm).2
 simp at this
theorem U8_box (base p : Nat) (v : Value) (l xs : List Int) (n b : Nat) (w W : World) (hb : b = w.heap.size) (hW : W = w.alloc (.cells (nums .u8 xs).toArray 5)) (h : WrV w base p v l) (hbp : base ≤ p) (hB : base ≤ w.heap.size) (hn : xs.length = n) (hx : ∀ x ∈ xs, 0 ≤ x ∧ x < 256) (hl : l.length + 1 * n ≤ 1099511627776) :
  Calls Try.prog 57 #[.pointer (some ⟨p, 0, none⟩), .slice (some ⟨b, 0, none⟩) n n] W fun e w' => e = .returned (.pointer (some ⟨p, 0, none⟩)) ∧ WrS w base p v (l ++ les 1 xs) w' := by
 subst hn hb hW
 refine (U8_any base p v l xs _ xs.length _ (h.alloc _) hbp (by simp; omega) (reads_box w _ xs _ _ rfl (by omega)) hx (fun _ => h.fresh) hl).mono ?_
 rintro e w' ⟨he, hw⟩
 exact ⟨he, WrS.after h (bl_alloc (Below.refl _ _) _) hB hw⟩
theorem U32_box (base p : Nat) (v : Value) (l xs : List Int) (n b : Nat) (w W : World) (hb : b = w.heap.size) (hW : W = w.alloc (.cells (nums .u32 xs).toArray 23)) (h : WrV w base p v l) (hbp : base ≤ p) (hB : base ≤ w.heap.size) (hn : xs.length = n) (hx : ∀ x ∈ xs, 0 ≤ x ∧ x < 4294967296) (hl : l.length + 4 * n ≤ 1099511627776) :
  Calls Try.prog 7 #[.pointer (some ⟨p, 0, none⟩), .slice (some ⟨b, 0, none⟩) n n] W fun e w' => e = .returned (.pointer (some ⟨p, 0, none⟩)) ∧ WrS w base p v (l ++ les 4 xs) w' := by
 subst hn hb hW
 refine (U32_any base p v l xs _ xs.length _ (h.alloc _) hbp (by simp; omega) (reads_box w _ xs _ _ rfl (by omega)) hx (fun _ => h.fresh) hl).mono ?_
 rintro e w' ⟨he, hw⟩
 exact ⟨he, WrS.after h (bl_alloc (Below.refl _ _) _) hB hw⟩
end Go.Proofs.Ytffalemndjampaa
end
section
namespace Go.Proofs.Ytffalemndjampaa
open Go.RowKit Go.Proofs.YtffalemndjampaaW.PrintWords
def Byt (xs : List Int) : Prop := ∀ x ∈ xs, 0 ≤ x ∧ x < 256
theorem le_byt (x : Int) (n : Nat) : Byt (le x n) := by
 induction n generalizing x with
 | zero => intro y hy; simp [le] at hy
 | succ n ih =>
  intro y hy
  simp only [le, List.mem_cons] at hy
  rcases hy with rfl | hy
  ·omega
  ·exact ih _ y hy
def New (w w' : World) (v : Value) (xs : List Int) : Prop := w'.ownsRow w.heap.size 5 1 v xs.length (nums .u8 xs) ∧ Below w.heap.size w w'
theorem New.bel {w w' : World} {v : Value} {xs : List Int} (h : New w w' v xs) : Below w.heap.size w w' := h.2
theorem New.slice {w w' : World} {v : Value} {xs : List Int} (h : New w w' v xs) : ∃ A c, v = .slice A xs.length c ∧ xs.length ≤ c := by
 rcases h.1.2 with ⟨rfl, hn⟩ | ⟨g, cap, cur, rfl, _, _, hc, _⟩
 ·exact ⟨none, 0, by rw [hn], by omega⟩
 ·exact ⟨_, cap, rfl, hc⟩
theorem New.reads {w w' : World} {A : Option Addr} {c n : Nat} {xs : List Int} (h : New w w' (.slice A n c) xs) : ReadsInt w' .u8 A xs.length xs := by
 obtain ⟨A', c', e, _⟩ := h.slice
 injection e with e1 e2 e3
 subst e1 e2 e3
 exact own_reads' h.1
end Go.Proofs.Ytffalemndjampaa
end
section
namespace Go.Proofs.Ytffalemndjampaa
open Go.RowKit Go.Proofs.YtffalemndjampaaW.PrintWords
def padL (xs : List Int) (n : Int) : List Int := xs ++ List.replicate (n.toNat - xs.length) 0
def num : List Int → Int
 | [] => 0
 | x :: xs => x + 256 * num xs
theorem num_bound (xs : List Int) (h : Byt xs) : 0 ≤ num xs ∧ num xs < 256 ^ xs.length := by
 induction xs with
 | nil => simp [num]
 | cons x xs ih =>
  have h1 := h x (by simp)
  have h2 := ih fun y hy => h y (by simp [hy])
  simp only [num, List.length_cons, Int.pow_succ]
  omega
theorem num_snoc (xs : List Int) (x : Int) : num (xs ++ [x]) = num xs + x * 256 ^ xs.length := by
 induction xs with
 | nil => simp [num]
 | cons y xs ih => simp only [List.cons_append, num, ih, List.length_cons, Int.pow_succ, Int.mul_add]; rw [Int.mul_left_comm, Int.mul_comm 256 (256 ^ xs.length)]; omega
theorem num_le (x : Int) (n : Nat) (h0 : 0 ≤ x) (h1 : x < 256 ^ n) : num (le x n) = x := by
 induction n generalizing x with
 | zero => simp at h1; simp [le, num]; omega
 | succ n ih =>
  rw [Int.pow_succ] at h1
  simp only [le, num]
  rw [ih (x / 256) (by omega) (by omega)]
  omega
theorem pow256 {q : Nat} (k : Nat) (h : k ≤ q) (hq : q ≤ 4) : (256 : Int) ^ k ≤ 256 ^ q := by
 have h1 : q = 0 ∨ q = 1 ∨ q = 2 ∨ q = 3 ∨ q = 4 := by omega
 have h2 : k = 0 ∨ k = 1 ∨ k = 2 ∨ k = 3 ∨ k = 4 := by omega
 rcases h1 with rfl | rfl | rfl | rfl | rfl <;> rcases h2 with rfl | rfl | rfl | rfl | rfl <;> first | omega | decide
end Go.Proofs.Ytffalemndjampaa
end
section
set_option linter.unusedVariables false
set_option linter.unusedSimpArgs false
namespace Go.Proofs.Ytffalemndjampaa
open Go.RowKit Go.Proofs.YtffalemndjampaaW.PrintWords
abbrev RdV (w : World) (p : Nat) (A : Option Addr) (n c : Nat) (k : Int) : Prop := w.heap[p]? = some (.cells #[.slice A n c, .int .i64 k] 85 (0, 0))
abbrev shortP (k : Int) : List PanicEntry := [{ v := .iface 82 (.agg #[.int .i64 k]), recovered := false }]
theorem rd_set {w : World} {k : IntKind} {A : Option Addr} {n p : Nat} {xs : List Int} (h : ReadsInt w k A n xs) (hne : ∀ a, A = some a → a.block ≠ p) (q : Nat) (v : Value) : ReadsInt ((w.drewN q).setCell ⟨p, 1, none⟩ v) k A n xs :=
 reads_keep (h.drewN q) (KeepBut.set_ (KeepBut.refl (w.drewN q) p none) 1 v) (fun _ a ha => ⟨hne a ha, by simp⟩)
set_option maxHeartbeats 1000000 in
theorem take_yes (p : Nat) (A : Option Addr) (m c : Nat) (k n : Nat) (xs : List Int) (w : World) (h : RdV w p A m c k) (hr : ReadsInt w .u8 A m xs) (hc : m ≤ c) (hkn : k + n ≤ m) (hne : ∀ a, A = some a → a.block ≠ p) :
  Calls Try.prog 31 #[.pointer (some ⟨p, 0, none⟩), .int .i64 n] w fun e w' => ∃ B d, e = .returned (.slice B n d) ∧ ReadsInt w' .u8 B n ((xs.drop k).take n) ∧ n ≤ d ∧ (∀ b, B = some b → b.block ≠ p) ∧ ∃ q, w' = (w.drewN q).setCell ⟨p, 1, none⟩ (.int .i64 ((k : Int) + n)) := by
 have hm := hr.2.1
 have z0 := (blk_cell h 0).trans rfl
 have z1 := (blk_cell h 1).trans rfl
 have zf := blk_frozen h 1
 have hd := (hr.drop_ k (by omega) hc).take_ n (by omega)
 have HD := Lib.hid hd
 have e0 : ((k : Int) + (n : Int)).toNat - (k : Int).toNat = n := by omega
 have e1 : (k : Int).toNat = k := by omega
 clear hr hd
 by_cases ck : c = k
 ·subst ck
  rw [if_pos rfl] at HD
  have HN : Hid (∀ B : Option Addr, B = A → ∀ b, B = some b → b.block ≠ p) := Lib.hid (by rintro B rfl b hb; exact hne b hb)
  clear hne
  have e3 : c + n - c = n := by omega
  go_enter Try.func31, Try.ntmps31
  go_wp2
  have c0 : ¬ (n : Int) < 0 := by omega
  have c1 : ¬ (m : Int) - (c : Int) < n := by omega
  go_quiet (fail)
  go_wp2
  go_quiet (fail)
  go_wp2
  rw [e3]
  go_ret
  exact ⟨_, _, rfl, rd_set HD.out (HN.out _ rfl) _ _, by omega, HN.out _ rfl, _, rfl⟩
 ·rw [if_neg ck] at HD
  have HN : Hid (∀ b, A.map (fun x => x.add k) = some b → b.block ≠ p) := Lib.hid (by intro b hb; cases A with | none => cases hb | some a => (simp at hb; subst hb; have h_ := hne a rfl; unfold Addr.add; split <;> simpa using h_))
  clear hne
  have e3 : k + n - k = n := by omega
  go_enter Try.func31, Try.ntmps31
  go_wp2
  have c0 : ¬ (n : Int) < 0 := by omega
  have c1 : ¬ (m : Int) - (k : Int) < n := by omega
  go_quiet (fail)
  go_wp2
  go_quiet (fail)
  go_wp2
  rw [e3]
  go_ret
  exact ⟨_, _, rfl, rd_set HD.out HN.out _ _, by omega, HN.out, _, rfl⟩
set_option maxRecDepth 100000 in
theorem or_shift (a x : Int) (j : Nat) (ha : 0 ≤ a) (ha2 : a < 256 ^ j) (x0 : 0 ≤ x) (x1 : x < 256) (hj : j < 8) : Go.bits .or .u64 a (IntKind.u64.wrap (x * 2 ^ (8 * j))) = a + x * 256 ^ j := by
 obtain ⟨A, rfl⟩ := Int.eq_ofNat_of_zero_le ha
 obtain ⟨X, rfl⟩ := Int.eq_ofNat_of_zero_le x0
 have hp : (2 : Nat) ^ (8 * j) = 256 ^ j := by rw [Nat.pow_mul]
 have hA : A < 2 ^ (8 * j) := by rw [hp]; exact_mod_cast ha2
 have hX : X < 256 := by omega
 have hq : (256 : Nat) ^ j ≤ 256 ^ 7 := Nat.pow_le_pow_right (by omega) (by omega)
 have hm : X * 256 ^ j < 18446744073709551616 := by
  have h1 : X * 256 ^ j ≤ 255 * 256 ^ 7 := Nat.mul_le_mul (by omega) hq
  omega
 have e1 : ((X : Int) * 2 ^ (8 * j)) = ((X * 256 ^ j : Nat) : Int) := by rw [← hp]; push_cast; rfl
 have e2 : IntKind.u64.wrap ((X * 256 ^ j : Nat) : Int) = ((X * 256 ^ j : Nat) : Int) := by generalize X * 256 ^ j = Z at hm; rw [IntKind.wrap_u64]; omega
 have hA2 : A < 18446744073709551616 := by
  have : A < 256 ^ 7 := by rw [hp] at hA; omega
  omega
 rw [e1, e2, u64_or_nat A (X * 256 ^ j) hA2 hm]
 have h3 := Nat.shiftLeft_add_eq_or_of_lt hA X
 rw [Nat.shiftLeft_eq, hp] at h3
 rw [Nat.or_comm, ← h3]
 push_cast
 omega
set_option maxHeartbeats 2000000 in
set_option maxRecDepth 100000 in
theorem rnum_yes (p : Nat) (A : Option Addr) (m c : Nat) (k n : Nat) (xs : List Int) (w : World) (h : RdV w p A m c k) (hr : ReadsInt w .u8 A m xs) (hb : Byt xs) (hc : m ≤ c) (hkn : k + n ≤ m) (hn : n ≤ 8) (hne : ∀ a, A = some a → a.block ≠ p) :
  Calls Try.prog 30 #[.pointer (some ⟨p, 0, none⟩), .int .i64 n] w fun e w' => e = .returned (.int .u64 (num ((xs.drop k).take n))) ∧ ∃ q, w' = (w.drewN q).setCell ⟨p, 1, none⟩ (.int .i64 ((k : Int) + n)) := by
 have hcc := Lib.hid (take_yes p A m c k n xs w h hr hc hkn hne)
 have hl : ((xs.drop k).take n).length = n := by rw [List.length_take, List.length_drop, hr.1]; omega
 have hy : Byt ((xs.drop k).take n) := fun x hx => hb x (List.mem_of_mem_drop (List.mem_of_mem_take hx))
 obtain ⟨ys, hys⟩ : ∃ ys, (xs.drop k).take n = ys := ⟨_, rfl⟩
 rw [hys] at hcc hl hy ⊢
 have HY := Lib.hid hy
 clear hr hb hne hys hy h
 go_enter Try.func30, Try.ntmps30
 go_wp2_with fail
 refine hcc.out.mono ?_
 rintro e w1 ⟨B, d, rfl, hb, hd, _, q, hw⟩
 have HW := Lib.hid hw
 have HB := Lib.hid hb
 clear hcc hw hb
 go_wp2
 go_loopw [5, 12] (fun v i wr => ∃ (j : Nat), v = .int .u64 (num (ys.take j)) ∧ i = .int .i64 (j : Int) ∧ j ≤ n ∧ wr = w1) (fun _ i _ => n - (intOf i).toNat)
 case atStart => exact ⟨0, by simp [num], rfl, by omega, rfl⟩
 case round =>
  obtain ⟨j, rfl, rfl, hj, rfl⟩ := hrel
  by_cases hlt : j < n
  ·obtain ⟨ad, rfl, hcell⟩ := HB.out.at_ j (by omega) (by omega)
   rw [rd_getD, Int.toNat_natCast] at hcell
   have hj2 : j < ys.length := by omega
   have hx : 0 ≤ ys.getD j 0 ∧ ys.getD j 0 < 256 := HY.out _ (by rw [List.getD_eq_getElem?_getD, List.getElem?_eq_getElem hj2]; exact List.getElem_mem hj2)
   have htk : num (ys.take (j + 1)) = num (ys.take j) + ys.getD j 0 * 256 ^ j := by
    rw [List.take_succ_eq_append_getElem hj2, num_snoc, List.length_take, Nat.min_eq_left (by omega), List.getD_eq_getElem?_getD, List.getElem?_eq_getElem hj2]; rfl
   have HT := Lib.hid htk
   obtain ⟨x, hxe⟩ : ∃ x, ys.getD j 0 = x := ⟨_, rfl⟩
   rw [hxe] at hcell hx HT
   obtain ⟨x0, x1⟩ := hx
   clear htk hxe hj2
   have hnb := num_bound (ys.take j) (fun x hx => HY.out x (List.mem_of_mem_take hx))
   rw [List.length_take, Nat.min_eq_left (by omega)] at hnb
   have HO := Lib.hid (or_shift (num (ys.take j)) x j hnb.1 hnb.2 x0 x1 (by omega))
   clear hnb
   go_wp2
   rw [HO.out, ← HT.out]
   exact ⟨⟨j + 1, rfl, by go_num, by omega, trivial⟩, by simp [intOf]; omega⟩
  ·have hjn : j = n := by omega
   have hfin : ys.take j = ys := List.take_of_length_le (by omega)
   have HF := Lib.hid hfin
   clear hfin
   go_wp2
   rw [HF.out]
   go_ret
   exact ⟨rfl, q, HW.out⟩
end Go.Proofs.Ytffalemndjampaa
end
section
set_option linter.unusedVariables false
set_option linter.unusedSimpArgs false
namespace Go.Proofs.Ytffalemndjampaa
open Go.RowKit Go.Proofs.YtffalemndjampaaW.PrintWords
theorem catch_idle (p : Addr) (w : World) :
  CallsD Try.prog 29 #[.pointer (some p)] .returning w fun e u' w' => e = .returned (.tuple #[]) ∧ u' = .returning ∧ w' = w := by
 refine callsD_of_wpS Try.func29 rfl fun c₀ cs hu => ?_
 apply wpS_seq
 apply wpS_region
 simp [wpOpsS, go_sem, recoverD, hu, Try.ntmps29, Exit.thenS]
 refine wpS_of_wp ?_
 go_wp2
 cases c₀
 simp_all [bodyPostS, results, Try.results29]
theorem assert_short (k : Int) (w : World) : (Instr.typeAssert (.iface 82 (.agg #[.int .i64 k])) 20 82 true).run Try.prog w = .ok (.tuple #[.agg #[.int .i64 k], .bool true]) w := by
 kernel_rfl
set_option maxHeartbeats 2000000 in
theorem catch_panicking (p : Nat) (x : Int) (k : Int) (w : World) (hb : w.heap[p]? = some (.cells #[.int .i64 x] 36 (0, 0))) :
  CallsD Try.prog 29 #[.pointer (some ⟨p, 0, none⟩)] (.panicking (shortP k)) w fun e u' w' =>
   e = .returned (.tuple #[]) ∧ u' = .panicking [{ v := .iface 82 (.agg #[.int .i64 k]), recovered := true }] ∧ ∃ o, w' = (w.setCell ⟨p, 0, none⟩ (.int .i64 62)).alloc o := by
 refine callsD_of_wpS Try.func29 rfl fun c₀ cs hu => ?_
 rw [show (#[Value.pointer (some ⟨p, 0, none⟩)] ++ Array.replicate (Try.f29.ntmps - (#[Value.pointer (some ⟨p, 0, none⟩)]).size) undef) = #[.pointer (some ⟨p, 0, none⟩), undef, undef, undef, undef, undef, undef, undef, undef, undef, undef, undef, undef, undef, undef] from by rw [Try.ntmps29]; rfl]
 apply wpS_seq
 apply wpS_region
 simp [wpOpsS, go_sem, recoverD, hu, Exit.thenS]
 have has := assert_short k
 have hc := (blk_cell hb 0).trans rfl
 have hz := blk_frozen hb 0
 have hlt := blk_lt hb
 have hne : ¬ p = w.heap.size := by omega
 have hne2 : ¬ w.heap.size = p := by omega
 have hc2 : ∀ o, (w.alloc o).cell? ⟨p, 0, none⟩ = some (.int .i64 x) := fun o => (blk_cell (blk_alloc hb o) 0).trans rfl
 have hz2 : ∀ o, (w.alloc o).frozen? ⟨p, 0, none⟩ = false := fun o => blk_frozen (blk_alloc hb o) 0
 refine wpS_of_wp ?_
 go_wp2
 simp [bodyPostS, results, Try.results29]
 exact ⟨_, rfl⟩
end Go.Proofs.Ytffalemndjampaa
end
section
set_option linter.unusedVariables false
set_option linter.unusedSimpArgs false
namespace Go.Proofs.Ytffalemndjampaa
open Go.RowKit Go.Proofs.YtffalemndjampaaW.PrintWords
set_option maxHeartbeats 1000000 in
theorem rdU8_yes (p : Nat) (A : Option Addr) (m c : Nat) (k : Nat) (xs : List Int) (w : World) (h : RdV w p A m c k) (hr : ReadsInt w .u8 A m xs) (hb : Byt xs) (hc : m ≤ c) (hkn : k + 1 ≤ m) (hne : ∀ a, A = some a → a.block ≠ p) :
  Calls Try.prog 49 #[.pointer (some ⟨p, 0, none⟩)] w fun e w' => e = .returned (.int .u8 (num ((xs.drop k).take 1))) ∧ ∃ q, w' = (w.drewN q).setCell ⟨p, 1, none⟩ (.int .i64 ((k : Int) + 1)) := by
 have hcc := Lib.hid (rnum_yes p A m c k 1 xs w h hr hb hc hkn (by omega) hne)
 have hl : ((xs.drop k).take 1).length = 1 := by rw [List.length_take, List.length_drop, hr.1]; omega
 have hy : Byt ((xs.drop k).take 1) := fun x hx => hb x (List.mem_of_mem_drop (List.mem_of_mem_take hx))
 have hnb := num_bound _ hy
 rw [hl] at hnb
 obtain ⟨z, hz⟩ : ∃ z, num ((xs.drop k).take 1) = z := ⟨_, rfl⟩
 rw [hz] at hcc hnb ⊢
 have z0 : 0 ≤ z := hnb.1
 have z1 : z < 256 := hnb.2
 clear hnb hy hl hr hb hne hz h
 go_enter Try.func49, Try.ntmps49
 go_wp2_with fail
 refine hcc.out.mono ?_
 rintro e w1 ⟨rfl, q, rfl⟩
 have hw : IntKind.u8.wrap z = z := by first | (rw [IntKind.wrap_u8]; omega) | (rw [IntKind.wrap_u8']; omega)
 go_wp2_with fail
 go_ret
 exact ⟨by first | rfl | simp [hw], q, rfl⟩
set_option maxHeartbeats 1000000 in
theorem rdU16_yes (p : Nat) (A : Option Addr) (m c : Nat) (k : Nat) (xs : List Int) (w : World) (h : RdV w p A m c k) (hr : ReadsInt w .u8 A m xs) (hb : Byt xs) (hc : m ≤ c) (hkn : k + 2 ≤ m) (hne : ∀ a, A = some a → a.block ≠ p) :
  Calls Try.prog 48 #[.pointer (some ⟨p, 0, none⟩)] w fun e w' => e = .returned (.int .u16 (num ((xs.drop k).take 2))) ∧ ∃ q, w' = (w.drewN q).setCell ⟨p, 1, none⟩ (.int .i64 ((k : Int) + 2)) := by
 have hcc := Lib.hid (rnum_yes p A m c k 2 xs w h hr hb hc hkn (by omega) hne)
 have hl : ((xs.drop k).take 2).length = 2 := by rw [List.length_take, List.length_drop, hr.1]; omega
 have hy : Byt ((xs.drop k).take 2) := fun x hx => hb x (List.mem_of_mem_drop (List.mem_of_mem_take hx))
 have hnb := num_bound _ hy
 rw [hl] at hnb
 obtain ⟨z, hz⟩ : ∃ z, num ((xs.drop k).take 2) = z := ⟨_, rfl⟩
 rw [hz] at hcc hnb ⊢
 have z0 : 0 ≤ z := hnb.1
 have z1 : z < 65536 := hnb.2
 clear hnb hy hl hr hb hne hz h
 go_enter Try.func48, Try.ntmps48
 go_wp2_with fail
 refine hcc.out.mono ?_
 rintro e w1 ⟨rfl, q, rfl⟩
 have hw : IntKind.u16.wrap z = z := by first | (rw [IntKind.wrap_u16]; omega) | (rw [IntKind.wrap_u16']; omega)
 go_wp2_with fail
 go_ret
 exact ⟨by first | rfl | simp [hw], q, rfl⟩
set_option maxHeartbeats 1000000 in
theorem rdU32_yes (p : Nat) (A : Option Addr) (m c : Nat) (k : Nat) (xs : List Int) (w : World) (h : RdV w p A m c k) (hr : ReadsInt w .u8 A m xs) (hb : Byt xs) (hc : m ≤ c) (hkn : k + 4 ≤ m) (hne : ∀ a, A = some a → a.block ≠ p) :
  Calls Try.prog 13 #[.pointer (some ⟨p, 0, none⟩)] w fun e w' => e = .returned (.int .u32 (num ((xs.drop k).take 4))) ∧ ∃ q, w' = (w.drewN q).setCell ⟨p, 1, none⟩ (.int .i64 ((k : Int) + 4)) := by
 have hcc := Lib.hid (rnum_yes p A m c k 4 xs w h hr hb hc hkn (by omega) hne)
 have hl : ((xs.drop k).take 4).length = 4 := by rw [List.length_take, List.length_drop, hr.1]; omega
 have hy : Byt ((xs.drop k).take 4) := fun x hx => hb x (List.mem_of_mem_drop (List.mem_of_mem_take hx))
 have hnb := num_bound _ hy
 rw [hl] at hnb
 obtain ⟨z, hz⟩ : ∃ z, num ((xs.drop k).take 4) = z := ⟨_, rfl⟩
 rw [hz] at hcc hnb ⊢
 have z0 : 0 ≤ z := hnb.1
 have z1 : z < 4294967296 := hnb.2
 clear hnb hy hl hr hb hne hz h
 go_enter Try.func13, Try.ntmps13
 go_wp2_with fail
 refine hcc.out.mono ?_
 rintro e w1 ⟨rfl, q, rfl⟩
 have hw : IntKind.u32.wrap z = z := by first | (rw [IntKind.wrap_u32]; omega) | (rw [IntKind.wrap_u32']; omega)
 go_wp2_with fail
 go_ret
 exact ⟨by first | rfl | simp [hw], q, rfl⟩
end Go.Proofs.Ytffalemndjampaa
end
section
set_option linter.unusedVariables false
set_option linter.unusedSimpArgs false
namespace Go.Proofs.Ytffalemndjampaa
open Go.RowKit Go.Proofs.YtffalemndjampaaW.PrintWords Go.Proofs.YtffalemndjampaaW.PrintLast
set_option maxHeartbeats 2000000 in
set_option maxRecDepth 100000 in
theorem read_any (A : Option Addr) (n c g : Nat) (cap : Array Value) (w : World) (R1 R2 : World → Prop) (fn : Func) (hf : Try.prog.funcs[g]? = some fn) (hname : (fn.name == "runtime.NumGoroutine") = false) (hbody : fn.body.isSome = true)
  (hcall : Hid (Calls Try.prog g (#[.pointer (some ⟨w.heap.size + 1, 0, none⟩)] ++ cap) ((w.alloc (.cells #[.int .i64 0] 36)).alloc (.cells #[.slice A n c, .int .i64 0] 85)) fun e w' => w'.heap[w.heap.size]? = some (.cells #[.int .i64 0] 36 (0, 0)) ∧ ((e = .returned (.tuple #[]) ∧ R1 w') ∨ ∃ k, e = .panicked (shortP k) ∧ R2 w'))) :
  Calls Try.prog 10 #[.slice A n c, .func (.func g) #[] cap] w fun e w' => (∃ w1, R1 w1 ∧ e = .returned (.int .i64 0) ∧ w' = w1.setCell ⟨w.heap.size, 0, none⟩ (.int .i64 0)) ∨ (∃ w1 o, R2 w1 ∧ e = .returned (.int .i64 62) ∧ w' = (w1.setCell ⟨w.heap.size, 0, none⟩ (.int .i64 62)).alloc o) := by
 have hmf : ∀ (fn : Fn) (first cap : Array Value) (w : World), (Instr.makeFunc fn first cap).run Try.prog w = .ok (.func fn first cap) w := fun _ _ _ _ => rfl
 have heq : ∀ w : World, (binOp .eql 43 (.func (.func g) #[] cap) .nilFunc).run Try.prog w = .ok (.bool false) w := fun w => by first | rfl | kernel_rfl
 have hen : ∀ (args : Array Value) (w : World), (callFunc g args).run Try.prog w = .ok (.enter g args) w := enters_ hf hname hbody
 go_enter_defers Try.func10, Try.ntmps10
 go_wp2_with fail
 refine hcall.out.mono ?_
 rintro e w1 ⟨hb, ⟨rfl, hR⟩ | ⟨k, rfl, hR⟩⟩
 ·have hc := (blk_cell hb 0).trans rfl
  have hz := blk_frozen hb 0
  go_wp2_with fail
  refine leaves_cons (f := 29) (args := #[.pointer (some ⟨w.heap.size, 0, none⟩)]) (by simp) (by simp [go_sem]) ?_
  refine (catch_idle ⟨w.heap.size, 0, none⟩ _).mono ?_
  rintro e u' w'' ⟨rfl, rfl, rfl⟩
  simp [Leaves, settle, results, Try.results10, go_sem, hc, hz]
  exact ⟨w1, hR, rfl⟩
 ·go_wp2_with fail
  refine leaves_cons (f := 29) (args := #[.pointer (some ⟨w.heap.size, 0, none⟩)]) (by simp) (by simp [go_sem]) ?_
  refine (catch_panicking w.heap.size 0 k _ hb).mono ?_
  rintro e u' w'' ⟨rfl, rfl, o, rfl⟩
  have hc := (blk_cell (blk_alloc (blk_set hb 0 (.int .i64 62)) o) 0).trans rfl
  simp [Leaves, settle, results, Try.results10, go_sem, hc]
  exact ⟨w1, hR, o, rfl⟩
end Go.Proofs.Ytffalemndjampaa
end
section
set_option linter.unusedVariables false
set_option linter.unusedSimpArgs false
namespace Go.Proofs.Ytffalemndjampaa
open Go.RowKit Go.Proofs.YtffalemndjampaaW.PrintWords
structure Mods (S : Nat → Prop) (w w' : World) : Prop where
 os : w'.os = w.os
 tape : w'.tape = w.tape
 output : w'.output = w.output
 size : w.heap.size ≤ w'.heap.size
 block : ∀ k, k < w.heap.size → ¬ S k → w'.heap[k]? = w.heap[k]?
section
variable {S T : Nat → Prop} {w w1 w2 : World}
theorem Mods.refl (S : Nat → Prop) (w : World) : Mods S w w := ⟨rfl, rfl, rfl, Nat.le_refl _, fun _ _ _ => rfl⟩
theorem Mods.trans (h : Mods S w w1) (k : Mods S w1 w2) : Mods S w w2 :=
 ⟨k.os.trans h.os, k.tape.trans h.tape, k.output.trans h.output, Nat.le_trans h.size k.size, fun i hi hs => (k.block i (Nat.lt_of_lt_of_le hi h.size) hs).trans (h.block i hi hs)⟩
theorem Mods.mono (h : Mods S w w1) (hs : ∀ i, S i → T i) : Mods T w w1 := ⟨h.os, h.tape, h.output, h.size, fun i hi ht => h.block i hi fun e => ht (hs i e)⟩
theorem Mods.of_below (h : Below w.heap.size w w1) : Mods S w w1 := ⟨h.os, h.tape, h.output, h.size, fun i hi _ => h.block i hi⟩
theorem Mods.drewN (h : Mods S w w1) (n : Nat) : Mods S w (w1.drewN n) := ⟨h.os, h.tape, h.output, h.size, h.block⟩
theorem Mods.set (h : Mods S w w1) {p : Addr} (hp : S p.block ∨ w.heap.size ≤ p.block) (u : Value) : Mods S w (w1.setCell p u) :=
 ⟨h.os, h.tape, h.output, by simpa [World.setCell] using h.size, fun i hi hs => (Below.heap_setCell w1 p u i (fun e => by subst e; rcases hp with hp | hp; exact hs hp; omega)).trans (h.block i hi hs)⟩
theorem Mods.at_ (h : Mods S w w1) {p : Nat} (hp : S p ∨ w.heap.size ≤ p) (j : Nat) (u : Value) : Mods S w (w1.setCell ⟨p, j, none⟩ u) := Mods.set h (p := ⟨p, j, none⟩) hp u
theorem Mods.alloc (h : Mods S w w1) (o : Obj) : Mods S w (w1.alloc o) := h.trans (Mods.of_below (bl_alloc (Below.refl _ _) o))
theorem Mods.blk (h : Mods S w w1) {g : Nat} {o : Obj} (hb : w.heap[g]? = some o) (hs : ¬ S g) : w1.heap[g]? = some o := (h.block g (blk_lt hb) hs).trans hb
theorem Mods.below (h : Mods S w w1) {B : Nat} (hB : B ≤ w.heap.size) (hs : ∀ i, S i → B ≤ i) : Below B w w1 :=
 ⟨h.os, h.tape, h.output, h.size, fun i hi => h.block i (by omega) fun e => by have := hs i e; omega⟩
theorem Mods.reads (h : Mods S w w1) {k : IntKind} {A : Option Addr} {n : Nat} {xs : List Int} (hr : ReadsInt w k A n xs) (hs : ∀ a, A = some a → ¬ S a.block) : ReadsInt w1 k A n xs :=
 ⟨hr.1, hr.2.1, fun hn => by
  obtain ⟨ad, e, hc⟩ := hr.2.2 hn
  refine ⟨ad, e, fun j hj => ?_⟩
  have hb : ((ad.add j).block) = ad.block := by unfold Addr.add; split <;> rfl
  have hlt := World.block_lt_of_cell? w _ (hc j hj)
  rw [World.cell?_of_block (w := w) (h.block _ hlt (by rw [hb]; exact hs ad e))]
  exact hc j hj⟩
end
theorem mU8_yes (p : Nat) (A : Option Addr) (m c : Nat) (k : Nat) (xs : List Int) (w : World) (h : RdV w p A m c k) (hr : ReadsInt w .u8 A m xs) (hb : Byt xs) (hc : m ≤ c) (hkn : k + 1 ≤ m) (hne : ∀ a, A = some a → a.block ≠ p) :
  Calls Try.prog 49 #[.pointer (some ⟨p, 0, none⟩)] w fun e w' => e = .returned (.int .u8 (num ((xs.drop k).take 1))) ∧ RdV w' p A m c ((k + 1 : Nat) : Int) ∧ Mods (fun i => i = p) w w' := by
 refine (rdU8_yes p A m c k xs w h hr hb hc hkn hne).mono ?_
 rintro e w' ⟨he, q, rfl⟩
 exact ⟨he, blk_put (blk_drewN h q) 1 _ (by simp), Mods.at_ (S := fun i => i = p) ((Mods.refl _ w).drewN q) (.inl rfl) 1 _⟩
theorem mU16_yes (p : Nat) (A : Option Addr) (m c : Nat) (k : Nat) (xs : List Int) (w : World) (h : RdV w p A m c k) (hr : ReadsInt w .u8 A m xs) (hb : Byt xs) (hc : m ≤ c) (hkn : k + 2 ≤ m) (hne : ∀ a, A = some a → a.block ≠ p) :
  Calls Try.prog 48 #[.pointer (some ⟨p, 0, none⟩)] w fun e w' => e = .returned (.int .u16 (num ((xs.drop k).take 2))) ∧ RdV w' p A m c ((k + 2 : Nat) : Int) ∧ Mods (fun i => i = p) w w' := by
 refine (rdU16_yes p A m c k xs w h hr hb hc hkn hne).mono ?_
 rintro e w' ⟨he, q, rfl⟩
 exact ⟨he, blk_put (blk_drewN h q) 1 _ (by simp), Mods.at_ (S := fun i => i = p) ((Mods.refl _ w).drewN q) (.inl rfl) 1 _⟩
theorem mU32_yes (p : Nat) (A : Option Addr) (m c : Nat) (k : Nat) (xs : List Int) (w : World) (h : RdV w p A m c k) (hr : ReadsInt w .u8 A m xs) (hb : Byt xs) (hc : m ≤ c) (hkn : k + 4 ≤ m) (hne : ∀ a, A = some a → a.block ≠ p) :
  Calls Try.prog 13 #[.pointer (some ⟨p, 0, none⟩)] w fun e w' => e = .returned (.int .u32 (num ((xs.drop k).take 4))) ∧ RdV w' p A m c ((k + 4 : Nat) : Int) ∧ Mods (fun i => i = p) w w' := by
 refine (rdU32_yes p A m c k xs w h hr hb hc hkn hne).mono ?_
 rintro e w' ⟨he, q, rfl⟩
 exact ⟨he, blk_put (blk_drewN h q) 1 _ (by simp), Mods.at_ (S := fun i => i = p) ((Mods.refl _ w).drewN q) (.inl rfl) 1 _⟩
set_option maxHeartbeats 1000000 in
theorem read_mods (A : Option Addr) (n c g : Nat) (cap : Array Value) (w : World) (S : Nat → Prop) (P1 P2 : World → Prop) (fn : Func) (hf : Try.prog.funcs[g]? = some fn) (hname : (fn.name == "runtime.NumGoroutine") = false) (hbody : fn.body.isSome = true)
  (hS : ∀ i, S i → i < w.heap.size) (hP1 : ∀ w1 w2, P1 w1 → KeepBut w1 w2 w.heap.size none → P1 w2) (hP2 : ∀ w1 w2, P2 w1 → KeepBut w1 w2 w.heap.size none → P2 w2)
  (hcall : ∀ w2 : World, w2.heap[w.heap.size]? = some (.cells #[.int .i64 0] 36 (0, 0)) → RdV w2 (w.heap.size + 1) A n c ((0 : Nat) : Int) → Below w.heap.size w w2 → w2.heap.size = w.heap.size + 2 →
   Calls Try.prog g (#[.pointer (some ⟨w.heap.size + 1, 0, none⟩)] ++ cap) w2 fun e w' => Mods (fun i => i = w.heap.size + 1 ∨ S i) w2 w' ∧ ((e = .returned (.tuple #[]) ∧ P1 w') ∨ ∃ k, e = .panicked (shortP k) ∧ P2 w')) :
  Calls Try.prog 10 #[.slice A n c, .func (.func g) #[] cap] w fun e w' => Mods S w w' ∧ ((e = .returned (.int .i64 0) ∧ P1 w') ∨ (e = .returned (.int .i64 62) ∧ P2 w')) := by
 have hb0 : ((w.alloc (.cells #[.int .i64 0] 36)).alloc (.cells #[.slice A n c, .int .i64 0] 85)).heap[w.heap.size]? = some (.cells #[.int .i64 0] 36 (0, 0)) := blk_alloc (heap_alloc_new w _) _
 have hb1 : ((w.alloc (.cells #[.int .i64 0] 36)).alloc (.cells #[.slice A n c, .int .i64 0] 85)).heap[w.heap.size + 1]? = some (.cells #[.slice A n c, .int .i64 ((0 : Nat) : Int)] 85 (0, 0)) := by
  have h_ := heap_alloc_new (w.alloc (.cells #[.int .i64 0] 36)) (.cells #[.slice A n c, .int .i64 0] 85)
  simpa using h_
 have hbl : Below w.heap.size w ((w.alloc (.cells #[.int .i64 0] 36)).alloc (.cells #[.slice A n c, .int .i64 0] 85)) := bl_alloc (bl_alloc (Below.refl _ _) _) _
 have hz : ((w.alloc (.cells #[.int .i64 0] 36)).alloc (.cells #[.slice A n c, .int .i64 0] 85)).heap.size = w.heap.size + 2 := by simp
 have hm := hcall _ hb0 hb1 hbl hz
 obtain ⟨W2, hW2⟩ : ∃ W2, (w.alloc (.cells #[.int .i64 0] 36)).alloc (.cells #[.slice A n c, .int .i64 0] 85) = W2 := ⟨_, rfl⟩
 have key := read_any A n c g cap w (fun w' => Mods (fun i => i = w.heap.size + 1 ∨ S i) W2 w' ∧ P1 w') (fun w' => Mods (fun i => i = w.heap.size + 1 ∨ S i) W2 w' ∧ P2 w') fn hf hname hbody (by
  refine Lib.hid (hm.mono ?_)
  rintro e w' ⟨h1, h2⟩
  rw [hW2] at h1 hb0
  refine ⟨h1.blk hb0 (fun e => ?_), ?_⟩
  ·rcases e with e | e
   ·omega
   ·have := hS _ e; omega
  ·rcases h2 with ⟨a, b⟩ | ⟨k, a, b⟩
   ·exact .inl ⟨a, h1, b⟩
   ·exact .inr ⟨k, a, h1, b⟩)
 rw [hW2] at hbl hz
 refine key.mono ?_
 have tm : ∀ w1, Mods (fun i => i = w.heap.size + 1 ∨ S i) W2 w1 → Mods S w w1 := by
  intro w1 h1
  refine ⟨h1.os.trans hbl.os, h1.tape.trans hbl.tape, h1.output.trans hbl.output, Nat.le_trans hbl.size h1.size, fun i hi hs => (h1.block i (by omega) ?_).trans (hbl.block i hi)⟩
  rintro (e | e)
  ·omega
  ·exact hs e
 rintro e w' (⟨w1, ⟨h1, h2⟩, he, rfl⟩ | ⟨w1, o, ⟨h1, h2⟩, he, rfl⟩)
 ·exact ⟨(tm w1 h1).set (.inr (Nat.le_refl _)) _, .inl ⟨he, hP1 _ _ h2 ((KeepBut.refl w1 w.heap.size none).set_ 0 _)⟩⟩
 ·refine ⟨((tm w1 h1).set (.inr (Nat.le_refl _)) _).alloc o, .inr ⟨he, hP2 _ _ h2 ?_⟩⟩
  have k1 := (KeepBut.refl w1 w.heap.size none).set_ 0 (.int .i64 62)
  exact k1.trans (KeepBut.of_below (bl_alloc (Below.refl _ _) o) _ none) (.inl rfl)
end Go.Proofs.Ytffalemndjampaa
end
section
set_option linter.unusedVariables false
set_option linter.unusedSimpArgs false
namespace Go.Proofs.Ytffalemndjampaa
open Go.RowKit Go.Proofs.YtffalemndjampaaW.PrintWords
set_option maxHeartbeats 2000000 in
theorem mZero (p : Nat) (A : Option Addr) (m c : Nat) (k : Nat) (xs : List Int) (w : World) (h : RdV w p A m c k) (hr : ReadsInt w .u8 A m xs) (hc : m ≤ c) (hkm : k ≤ m) :
  Calls Try.prog 64 #[.pointer (some ⟨p, 0, none⟩)] w fun e w' => e = .returned (.bool ((xs.drop k).all (· == 0))) ∧ Drawn0 w w' := by
 have hm := hr.2.1
 have z0 := (blk_cell h 0).trans rfl
 have z1 := (blk_cell h 1).trans rfl
 have hd := hr.drop_ k (by omega) hc
 obtain ⟨ys, hys⟩ : ∃ ys, xs.drop k = ys := ⟨_, rfl⟩
 rw [hys] at hd ⊢
 have hyl : ys.length = m - k := hd.1
 have HY := Lib.hid hyl
 have e1 : (k : Int).toNat = k := by omega
 clear hr hys hyl h
 by_cases ck : c = k
 ·subst ck
  have hcm : m = c := by omega
  subst hcm
  have hy0 : ys = [] := List.eq_nil_of_length_eq_zero (by have := HY.out; omega)
  subst hy0
  have e2 : m - m = 0 := by omega
  clear hd HY
  go_enter Try.func64, Try.ntmps64
  go_wp2
  go_quiet (fail)
  go_wp2
  go_loopw [17] (fun i wr => i = .int .i64 0 ∧ Hid (Drawn0 w wr)) (fun i _ => 0)
  case atStart => exact ⟨rfl, Lib.hid (by first | exact (Drawn0.refl w).step _ | exact Drawn0.refl w)⟩
  case round =>
   obtain ⟨rfl, HD⟩ := hrel
   go_wp2
   go_ret
   exact ⟨rfl, HD.out⟩
 ·rw [if_neg ck] at hd
  have HD := Lib.hid hd
  clear hd
  have hmk : (m : Int) - k = ((m - k : Nat) : Int) := by omega
  go_enter Try.func64, Try.ntmps64
  go_wp2
  go_quiet (fail)
  go_wp2
  have hcm : ((m - k : Nat) : Int) = ((m - k : Nat) : Int) := rfl
  go_loopw [17] (fun i wr => ∃ j : Nat, j ≤ m - k ∧ i = .int .i64 (j : Int) ∧ Hid ((ys.take j).all (· == 0) = true) ∧ Hid (Drawn0 w wr)) (fun i _ => (m - k) - (intOf i).toNat)
  case atStart => exact ⟨0, Nat.zero_le _, rfl, rfl, Lib.hid (by first | exact (Drawn0.refl w).step _ | exact Drawn0.refl w)⟩
  case round =>
   obtain ⟨j, hj, rfl, HZ, HW⟩ := hrel
   by_cases hlt : j < m - k
   ·have hr1 := HD.out.below HW.out.below
    obtain ⟨ad, he, hcl⟩ := hr1.at_ (j : Int) (by omega) (by omega)
    rw [Int.toNat_natCast, rd_getD] at hcl
    have HE := Lib.hid he
    clear hr1
    obtain ⟨x0, hx0⟩ : ∃ x0, ys.getD j 0 = x0 := ⟨_, rfl⟩
    rw [hx0] at hcl
    have HX := Lib.hid hx0
    clear hx0 he
    have hjl : j < ys.length := by rw [HY.out]; exact hlt
    rw [HE.out]
    by_cases hz : x0 = 0
    ·subst hz
     go_wp2
     go_roundw
     case rel =>
      refine ⟨j + 1, by omega, by go_num, ?_, ?_⟩
      ·have h_ := HZ.out
       have e_ := HX.out
       rw [List.getD_eq_getElem?_getD, List.getElem?_eq_getElem hjl] at e_
       rw [List.take_succ_eq_append_getElem hjl]
       simp only [List.all_append, h_, List.all_cons, List.all_nil, Bool.and_true, Bool.true_and]
       exact Lib.hid (by simpa using e_)
      ·first | exact HW | exact Lib.hid (HW.out.step _)
     case measure => simp [intOf]; omega
    ·have hz2 : (x0 != 0) = true := by simpa using hz
     have hf : ys.all (· == 0) = false := by
      have e_ := HX.out
      rw [List.getD_eq_getElem?_getD, List.getElem?_eq_getElem hjl] at e_
      rw [Bool.eq_false_iff]
      intro ha
      have h2 := List.all_eq_true.1 ha ys[j] (List.getElem_mem _)
      simp only [Option.getD_some] at e_
      simp [e_] at h2
      exact hz h2
     have HF := Lib.hid hf
     clear hf
     go_wp2
     go_ret
     rw [HF.out]
     exact ⟨rfl, by first | exact HW.out | exact HW.out.step _⟩
   ·have hf : ys.all (· == 0) = true := by have h_ := HZ.out; rwa [List.take_of_length_le (by rw [HY.out]; omega)] at h_
    have HF := Lib.hid hf
    clear hf
    go_wp2
    go_ret
    rw [HF.out]
    exact ⟨rfl, by first | exact HW.out | exact HW.out.step _⟩
end Go.Proofs.Ytffalemndjampaa
end
section
set_option linter.unusedVariables false
set_option linter.unusedSimpArgs false
namespace Go.Proofs.Ytffalemndjampaa
open Go.RowKit Go.Proofs.YtffalemndjampaaW.PrintWords
abbrev Ev0 := Int × Int
def evFind (evs : List Ev0) (ops : Int) : Option Ev0 := evs.find? fun x => x.1 == ops && decide (1 ≤ x.2) && decide (x.2 ≤ 3)
def arrC (ch dd ev : Value) (ops : Int) (off : Bool) : Array Value := #[.int .i64 3, .int .i64 16, .int .i64 6, .int .i64 256, ch, dd, ev, .int .i64 ops, .bool off]
theorem arr_cells {w : World} {p : Nat} {ch dd ev : Value} {ops : Int} {off : Bool} (h : w.heap[p]? = some (.cells (arrC ch dd ev ops off) 92 (0, 0))) :
  w.cell? ⟨p, 0, none⟩ = some (.int .i64 3) ∧ w.cell? ⟨p, 1, none⟩ = some (.int .i64 16) ∧ w.cell? ⟨p, 2, none⟩ = some (.int .i64 6) ∧ w.cell? ⟨p, 3, none⟩ = some (.int .i64 256) ∧ w.cell? ⟨p, 4, none⟩ = some ch ∧ w.cell? ⟨p, 5, none⟩ = some dd ∧ w.cell? ⟨p, 6, none⟩ = some ev ∧ w.cell? ⟨p, 7, none⟩ = some (.int .i64 ops) ∧ w.cell? ⟨p, 8, none⟩ = some (.bool off) :=
 ⟨blk_cell h 0, blk_cell h 1, blk_cell h 2, blk_cell h 3, blk_cell h 4, blk_cell h 5, blk_cell h 6, blk_cell h 7, blk_cell h 8⟩
def EvR (w : World) (EA : Option Addr) (n : Nat) (LV : Value) (evs : List Ev0) : Prop :=
 evs.length = n ∧ (0 < n → ∃ b, EA = some ⟨b, 0, none⟩ ∧ ∀ j x, evs[j]? = some x → w.cell? ⟨b, 4 * j, none⟩ = some (.int .i64 x.1) ∧ w.cell? ⟨b, 4 * j + 1, none⟩ = some (.int .i64 x.2) ∧ w.cell? ⟨b, 4 * j + 2, none⟩ = some (.int .i64 0) ∧ w.cell? ⟨b, 4 * j + 3, none⟩ = some LV)
theorem EvR.below {w w1 : World} {EA : Option Addr} {n : Nat} {LV : Value} {evs : List Ev0} (h : EvR w EA n LV evs) (hb : Below w.heap.size w w1) : EvR w1 EA n LV evs :=
 ⟨h.1, fun hn => by
  obtain ⟨b, e, hc⟩ := h.2 hn
  refine ⟨b, e, fun j x hj => ?_⟩
  obtain ⟨c0, c1, c2, c3⟩ := hc j x hj
  exact ⟨pw_cell_below hb c0, pw_cell_below hb c1, pw_cell_below hb c2, pw_cell_below hb c3⟩⟩
def evC (LV : Value) : Option Ev0 → Array Value
 | none => #[.int .i64 0, .int .i64 0, .int .i64 0, .slice none 0 0]
 | some x => #[.int .i64 x.1, .int .i64 x.2, .int .i64 0, LV]
theorem evFind_step (evs : List Ev0) (ops : Int) (j : Nat) (x : Ev0) (hj : evs[j]? = some x) (h : (evs.take j).find? (fun x => x.1 == ops && decide (1 ≤ x.2) && decide (x.2 ≤ 3)) = none) :
  (x.1 == ops && decide (1 ≤ x.2) && decide (x.2 ≤ 3)) = true → evFind evs ops = some x := by
 intro hx
 have hl := (List.getElem?_eq_some_iff.1 hj).1
 have hd : evs = evs.take j ++ x :: evs.drop (j + 1) := by
  have h1 := List.drop_eq_getElem_cons hl
  have h2 : evs[j] = x := by rw [List.getElem?_eq_getElem hl] at hj; exact Option.some.inj hj
  rw [h2] at h1
  rw [← h1, List.take_append_drop]
 rw [evFind, hd, List.find?_append, h, List.find?_cons, hx]
 rfl
theorem put4 {w : World} {g : Nat} {t : TypeId} {a0 a1 a2 a3 : Value} (h : w.heap[g]? = some (.cells #[a0, a1, a2, a3] t (0, 0))) (v0 v1 v2 v3 : Value) : ((((w.setCell ⟨g, 0, none⟩ v0).setCell ⟨g, 1, none⟩ v1).setCell ⟨g, 2, none⟩ v2).setCell ⟨g, 3, none⟩ v3).heap[g]? = some (.cells #[v0, v1, v2, v3] t (0, 0)) := by
 have h0 := blk_put h 0 v0 (cs' := #[v0, a1, a2, a3]) (by simp)
 have h1 := blk_put h0 1 v1 (cs' := #[v0, v1, a2, a3]) (by simp)
 have h2 := blk_put h1 2 v2 (cs' := #[v0, v1, v2, a3]) (by simp)
 exact blk_put h2 3 v3 (cs' := #[v0, v1, v2, v3]) (by simp)
theorem bel4 {w w5 : World} {g : Nat} (h : Below w.heap.size w w5) (hg : w.heap.size ≤ g) (v0 v1 v2 v3 : Value) : Below w.heap.size w ((((w5.setCell ⟨g, 0, none⟩ v0).setCell ⟨g, 1, none⟩ v1).setCell ⟨g, 2, none⟩ v2).setCell ⟨g, 3, none⟩ v3) :=
 bl_set (bl_set (bl_set (bl_set h (p := ⟨g, 0, none⟩) hg v0) (p := ⟨g, 1, none⟩) hg v1) (p := ⟨g, 2, none⟩) hg v2) (p := ⟨g, 3, none⟩) hg v3
set_option maxHeartbeats 4000000 in
set_option maxRecDepth 100000 in
theorem at_any (p : Nat) (ch dd : Value) (EA : Option Addr) (n ec : Nat) (LA : Option Addr) (ln lc : Nat) (evs : List Ev0) (ops : Int) (off : Bool) (w : World) (h : w.heap[p]? = some (.cells (arrC ch dd (.slice EA n ec) ops off) 92 (0, 0))) (he : EvR w EA n (.slice LA ln lc) evs) (hn : n ≤ 1000) :
  Calls Try.prog 59 #[.pointer (some ⟨p, 0, none⟩)] w fun e w' => e = .returned (.tuple #[.agg (evC (.slice LA ln lc) (evFind evs ops)), .bool (evFind evs ops).isSome]) ∧ Below w.heap.size w w' := by
 have HP := Lib.hid h
 have HE := Lib.hid he
 have HL := Lib.hid he.1
 have za := heap_alloc_new w (.cells #[.int .i64 0, .int .i64 0, .int .i64 0, .slice none 0 0] 59)
 have zb : Below w.heap.size w (w.alloc (.cells #[.int .i64 0, .int .i64 0, .int .i64 0, .slice none 0 0] 59)) := bl_alloc (Below.refl _ _) _
 have zp := blk_below h zb
 have y6 : ∀ o, (w.alloc o).cell? ⟨p, 6, none⟩ = some (.slice EA n ec) := fun o => pw_cell_below (bl_alloc (Below.refl _ _) o) ((blk_cell h 6).trans rfl)
 have ZA := Lib.hid (And.intro za (And.intro zb zp))
 clear h he za zb zp
 go_enter Try.func59, Try.ntmps59
 go_wp2_with fail
 obtain ⟨w0, hw0⟩ : ∃ w0, w.alloc (.cells #[.int .i64 0, .int .i64 0, .int .i64 0, .slice none 0 0] 59) = w0 := ⟨_, rfl⟩
 rw [hw0] at ZA ⊢
 clear hw0 y6
 go_loopw [11] (fun i wr => ∃ j : Nat, j ≤ n ∧ i = .int .i64 (j : Int) ∧ Hid (Below w0.heap.size w0 wr) ∧ Hid ((evs.take j).find? (fun x => x.1 == ops && decide (1 ≤ x.2) && decide (x.2 ≤ 3)) = none)) (fun i _ => n - (intOf i).toNat)
 case atStart => exact ⟨0, Nat.zero_le _, rfl, Lib.hid (by first | exact Below.refl _ _ | exact pw_below_drewN (Below.refl _ _) _), Lib.hid rfl⟩
 case round =>
  obtain ⟨j, hj, rfl, HB, HN⟩ := hrel
  have HBW := Lib.hid (bl_seq ZA.out.2.1 HB.out)
  by_cases hlt : j < n
  ·obtain ⟨x, hx⟩ : ∃ x, evs[j]? = some x := ⟨_, List.getElem?_eq_getElem (by rw [HL.out]; exact hlt)⟩
   obtain ⟨b, hb, hc⟩ := HE.out.2 (by omega)
   obtain ⟨c0, c1, c2, c3⟩ := hc j x hx
   have hBx := HBW.out
   have c0' := pw_cell_below hBx c0
   have c1' := pw_cell_below hBx c1
   have c2' := pw_cell_below hBx c2
   have c3' := pw_cell_below hBx c3
   have hpr := blk_below HP.out hBx
   have hzr := blk_below ZA.out.1 HB.out
   have p7 : ∀ o, (wr.alloc o).cell? ⟨p, 7, none⟩ = some (.int .i64 ops) := fun o => pw_cell_below (bl_alloc (Below.refl _ _) o) ((blk_cell hpr 7).trans rfl)
   have HX := Lib.hid hx
   have HZ := Lib.hid hzr
   have hlI : (j : Int) < (n : Int) := by omega
   have j4 : j * 4 = 4 * j := Nat.mul_comm _ _
   subst hb
   clear c0 c1 c2 c3 hc hx hBx hpr hzr
   go_wp2_with fail
   have hE := heap_alloc_new wr (.cells #[.int .i64 x.1, .int .i64 x.2, .int .i64 0, .slice LA ln lc] 59)
   have hEb := bl_seq HB.out (bl_alloc (Below.refl wr.heap.size wr) (.cells #[.int .i64 x.1, .int .i64 x.2, .int .i64 0, .slice LA ln lc] 59))
   have p7' := p7 (.cells #[.int .i64 x.1, .int .i64 x.2, .int .i64 0, .slice LA ln lc] 59)
   have hz' := blk_alloc HZ.out (.cells #[.int .i64 x.1, .int .i64 x.2, .int .i64 0, .slice LA ln lc] 59)
   obtain ⟨wE, hwE⟩ : ∃ wE, wr.alloc (.cells #[.int .i64 x.1, .int .i64 x.2, .int .i64 0, .slice LA ln lc] 59) = wE := ⟨_, rfl⟩
   rw [hwE] at hE hEb p7' hz' ⊢
   obtain ⟨g, hg⟩ : ∃ g, wr.heap.size = g := ⟨_, rfl⟩
   rw [hg] at hE ⊢
   have e0 := (blk_cell hE 0).trans rfl
   have e1 := (blk_cell hE 1).trans rfl
   have e2 := (blk_cell hE 2).trans rfl
   have e3 := (blk_cell hE 3).trans rfl
   have HEb := Lib.hid hEb
   have HEG := Lib.hid hE
   have HZ' := Lib.hid hz'
   clear hwE hg hE hEb hz' p7 c0' c1' c2' c3'
   have HST := Lib.hid (fun hm => evFind_step evs ops j x HX.out HN.out hm)
   have HNX : Hid ((x.1 == ops && decide (1 ≤ x.2) && decide (x.2 ≤ 3)) = false → (evs.take (j + 1)).find? (fun x => x.1 == ops && decide (1 ≤ x.2) && decide (x.2 ≤ 3)) = none) := Lib.hid (fun hm => by
    rw [List.take_add_one, HX.out, List.find?_append, HN.out]
    simp only [Option.toList_some, List.find?_cons, hm, List.find?_nil]
    rfl)
   obtain ⟨xo, xk⟩ := x
   simp only at e0 e1 HST HNX HEG ⊢
   by_cases hm : (xo == ops && decide (1 ≤ xk) && decide (xk ≤ 3)) = true
   ·have HF := Lib.hid (HST.out hm)
    rw [Bool.and_eq_true, Bool.and_eq_true] at hm
    obtain ⟨⟨m1, m2⟩, m3⟩ := hm
    have m2' : 1 ≤ xk := of_decide_eq_true m2
    have m3' : xk ≤ 3 := of_decide_eq_true m3
    have y0 := (blk_cell HZ'.out 0).trans rfl
    have y1 := (blk_cell HZ'.out 1).trans rfl
    have y2 := (blk_cell HZ'.out 2).trans rfl
    have y3 := (blk_cell HZ'.out 3).trans rfl
    have q0 := blk_frozen HZ'.out 0
    have q1 := blk_frozen HZ'.out 1
    have q2 := blk_frozen HZ'.out 2
    have q3 := blk_frozen HZ'.out 3
    go_quiet (fail)
    generalize hwD : World.drewN wE _ = wD
    have HD := Lib.hid (show wD.heap[w.heap.size]? = some (.cells #[.int .i64 0, .int .i64 0, .int .i64 0, .slice none 0 0] 59 (0, 0)) by rw [← hwD]; exact HZ'.out)
    have HEd := Lib.hid (show Below w0.heap.size w0 wD by rw [← hwD]; exact pw_below_drewN HEb.out _)
    have HGD := Lib.hid (show wD.heap[g]? = some (.cells #[.int .i64 xo, .int .i64 xk, .int .i64 0, .slice LA ln lc] 59 (0, 0)) by rw [← hwD]; exact HEG.out)
    clear hwD y0 y1 y2 y3 q0 q1 q2 q3 e0 e1 e2 e3
    have e0 := (blk_cell HGD.out 0).trans rfl
    have e1 := (blk_cell HGD.out 1).trans rfl
    have e2 := (blk_cell HGD.out 2).trans rfl
    have e3 := (blk_cell HGD.out 3).trans rfl
    have y0 := (blk_cell HD.out 0).trans rfl
    have y1 := (blk_cell HD.out 1).trans rfl
    have y2 := (blk_cell HD.out 2).trans rfl
    have y3 := (blk_cell HD.out 3).trans rfl
    have q0 := blk_frozen HD.out 0
    have q1 := blk_frozen HD.out 1
    have q2 := blk_frozen HD.out 2
    have q3 := blk_frozen HD.out 3
    go_wp2_with fail
    have hf := put4 HD.out (.int .i64 xo) (.int .i64 xk) (.int .i64 0) (.slice LA ln lc)
    have T9 := bel4 (bl_seq ZA.out.2.1 HEd.out) (Nat.le_refl _) (.int .i64 xo) (.int .i64 xk) (.int .i64 0) (.slice LA ln lc)
    obtain ⟨w9, hw9⟩ : ∃ w9, ((((wD.setCell ⟨w.heap.size, 0, none⟩ (.int .i64 xo)).setCell ⟨w.heap.size, 1, none⟩ (.int .i64 xk)).setCell ⟨w.heap.size, 2, none⟩ (.int .i64 0)).setCell ⟨w.heap.size, 3, none⟩ (.slice LA ln lc)) = w9 := ⟨_, rfl⟩
    rw [hw9] at hf T9 ⊢
    have c0 : w9.cell? ⟨w.heap.size, 0, none⟩ = some (.int .i64 xo) := (blk_cell hf 0).trans rfl
    have c1 : w9.cell? ⟨w.heap.size, 1, none⟩ = some (.int .i64 xk) := (blk_cell hf 1).trans rfl
    have c2 : w9.cell? ⟨w.heap.size, 2, none⟩ = some (.int .i64 0) := (blk_cell hf 2).trans rfl
    have c3 : w9.cell? ⟨w.heap.size, 3, none⟩ = some (.slice LA ln lc) := (blk_cell hf 3).trans rfl
    refine bodyPost_ret (v := .tuple #[.agg #[.int .i64 xo, .int .i64 xk, .int .i64 0, .slice LA ln lc], .bool true]) (by simp [results, Try.results59, go_sem, c0, c1, c2, c3]) rfl ⟨by rw [HF.out]; rfl, T9⟩
   ·have hm' : (xo == ops && decide (1 ≤ xk) && decide (xk ≤ 3)) = false := by simpa using hm
    have HF := Lib.hid (HNX.out hm')
    clear hm
    cases m1 : (xo == ops)
    ·go_quiet (fail)
     go_wp2_with fail
     go_roundw
     case rel => exact ⟨j + 1, by omega, by go_num, Lib.hid (by first | exact HEb.out | exact pw_below_drewN HEb.out _), HF⟩
     case measure => simp [intOf]; omega
    ·cases m2 : decide (1 ≤ xk)
     ·go_quiet (fail)
      go_wp2_with fail
      go_roundw
      case rel => exact ⟨j + 1, by omega, by go_num, Lib.hid (by first | exact HEb.out | exact pw_below_drewN HEb.out _), HF⟩
      case measure => simp [intOf]; omega
     ·have m3 : decide (xk ≤ 3) = false := by simpa [m1, m2] using hm'
      go_quiet (fail)
      go_wp2_with fail
      go_roundw
      case rel => exact ⟨j + 1, by omega, by go_num, Lib.hid (by first | exact HEb.out | exact pw_below_drewN HEb.out _), HF⟩
      case measure => simp [intOf]; omega
  ·obtain rfl : j = n := by omega
   have HF : Hid (evFind evs ops = none) := Lib.hid (by have h_ := HN.out; rwa [List.take_of_length_le (by rw [HL.out]; exact Nat.le_refl _)] at h_)
   have hzr := blk_below ZA.out.1 HB.out
   have HZ' := Lib.hid hzr
   clear hzr
   have y0 := (blk_cell HZ'.out 0).trans rfl
   have y1 := (blk_cell HZ'.out 1).trans rfl
   have y2 := (blk_cell HZ'.out 2).trans rfl
   have y3 := (blk_cell HZ'.out 3).trans rfl
   have q0 := blk_frozen HZ'.out 0
   have q1 := blk_frozen HZ'.out 1
   have q2 := blk_frozen HZ'.out 2
   have q3 := blk_frozen HZ'.out 3
   go_wp2_with fail
   have hf := put4 HZ'.out (.int .i64 0) (.int .i64 0) (.int .i64 0) (.slice none 0 0)
   have T9 := bel4 HBW.out (Nat.le_refl _) (.int .i64 0) (.int .i64 0) (.int .i64 0) (.slice none 0 0)
   obtain ⟨w9, hw9⟩ : ∃ w9, ((((wr.setCell ⟨w.heap.size, 0, none⟩ (.int .i64 0)).setCell ⟨w.heap.size, 1, none⟩ (.int .i64 0)).setCell ⟨w.heap.size, 2, none⟩ (.int .i64 0)).setCell ⟨w.heap.size, 3, none⟩ (.slice none 0 0)) = w9 := ⟨_, rfl⟩
   rw [hw9] at hf T9 ⊢
   have c0 : w9.cell? ⟨w.heap.size, 0, none⟩ = some (.int .i64 0) := (blk_cell hf 0).trans rfl
   have c1 : w9.cell? ⟨w.heap.size, 1, none⟩ = some (.int .i64 0) := (blk_cell hf 1).trans rfl
   have c2 : w9.cell? ⟨w.heap.size, 2, none⟩ = some (.int .i64 0) := (blk_cell hf 2).trans rfl
   have c3 : w9.cell? ⟨w.heap.size, 3, none⟩ = some (.slice none 0 0) := (blk_cell hf 3).trans rfl
   refine bodyPost_ret (v := .tuple #[.agg #[.int .i64 0, .int .i64 0, .int .i64 0, .slice none 0 0], .bool false]) (by simp [results, Try.results59, go_sem, c0, c1, c2, c3]) rfl ⟨by rw [HF.out]; rfl, T9⟩
end Go.Proofs.Ytffalemndjampaa
end
section
set_option linter.unusedVariables false
set_option linter.unusedSimpArgs false
namespace Go.Proofs.Ytffalemndjampaa
open Go.RowKit Go.Proofs.YtffalemndjampaaW.PrintWords
def EvOk (evs : List Ev0) : Prop := ∀ x ∈ evs, x.2 = 1 ∨ x.2 = 2
theorem evFind_kind {evs : List Ev0} (h : EvOk evs) {ops : Int} {x : Ev0} (hx : evFind evs ops = some x) : x.2 = 1 ∨ x.2 = 2 := h x (List.mem_of_find?_eq_some hx)
def evK : Option Ev0 → Int
 | none => 0
 | some x => x.2
theorem EvR.mods {S : Nat → Prop} {w w1 : World} {EA : Option Addr} {n : Nat} {LV : Value} {evs : List Ev0} (h : EvR w EA n LV evs) (hb : Mods S w w1) (hs : ∀ a, EA = some a → ¬ S a.block) : EvR w1 EA n LV evs :=
 ⟨h.1, fun hn => by
  obtain ⟨b, e, hc⟩ := h.2 hn
  refine ⟨b, e, fun j x hj => ?_⟩
  obtain ⟨c0, c1, c2, c3⟩ := hc j x hj
  have hlt := World.block_lt_of_cell? w _ c0
  have hk := hb.block b hlt (hs _ e)
  exact ⟨(World.cell?_of_block (w := w) (a := ⟨b, 4 * j, none⟩) hk).trans c0, (World.cell?_of_block (w := w) (a := ⟨b, 4 * j + 1, none⟩) hk).trans c1, (World.cell?_of_block (w := w) (a := ⟨b, 4 * j + 2, none⟩) hk).trans c2, (World.cell?_of_block (w := w) (a := ⟨b, 4 * j + 3, none⟩) hk).trans c3⟩⟩
theorem Mods.cell {S : Nat → Prop} {w w1 : World} {a : Addr} {v : Value} (h : Mods S w w1) (hc : w.cell? a = some v) (hs : ¬ S a.block) : w1.cell? a = some v :=
 (World.cell?_of_block (w := w) (h.block _ (World.block_lt_of_cell? w _ hc) hs)).trans hc
theorem bl_seq_b {w w1 w2 : World} (h : Below w.heap.size w w1) (k : Below w1.heap.size w1 w2) : Below w.heap.size w w2 := bl_seq h k
set_option maxHeartbeats 4000000 in
set_option maxRecDepth 100000 in
theorem begin_off (p b : Nat) (ch dd ev : Value) (ops : Int) (w : World) (h : w.heap[p]? = some (.cells (arrC ch dd ev ops true) 92 (0, 0))) :
  Calls Try.prog 53 #[.pointer (some ⟨p, 0, none⟩), .int .i64 0, .int .i64 (b : Int)] w fun e w' => e = .returned (.tuple #[.pointer none, .agg (evC (.slice none 0 0) none), .int .i64 72]) ∧ Below w.heap.size w w' := by
 have y8 : ∀ o, (w.alloc o).cell? ⟨p, 8, none⟩ = some (.bool true) := fun o => pw_cell_below (bl_alloc (Below.refl _ _) o) ((blk_cell h 8).trans rfl)
 clear h
 go_enter Try.func53, Try.ntmps53
 go_wp2_with fail
 refine bodyPost_ret (v := .tuple #[.pointer none, .agg #[.int .i64 0, .int .i64 0, .int .i64 0, .slice none 0 0], .int .i64 72]) (by simp [results, Try.results53, go_sem]) rfl ⟨rfl, ?_⟩
 exact bl_alloc (Below.refl _ _) _
set_option maxHeartbeats 8000000 in
set_option maxRecDepth 100000 in
theorem begin_on (p q dq r b : Nat) (qc dc rc : Nat) (EA : Option Addr) (n ec : Nat) (LA : Option Addr) (ln lc : Nat) (evs : List Ev0) (ops : Int) (w : World)
  (h : w.heap[p]? = some (.cells (arrC (.slice (some ⟨q, 0, none⟩) 4 qc) (.slice (some ⟨dq, 0, none⟩) 4 dc) (.slice EA n ec) ops false) 92 (0, 0)))
  (hq : w.cell? ⟨q, 0, none⟩ = some (.slice (some ⟨r, 0, none⟩) 16 rc)) (hd : w.cell? ⟨dq, 0, none⟩ = some (.bool false)) (nq : q ≠ p) (nd : dq ≠ p) (ne : ∀ a, EA = some a → a.block ≠ p)
  (he : EvR w EA n (.slice LA ln lc) evs) (hk : EvOk evs) (hn : n ≤ 1000) (hb : b < 16) (h0 : 0 ≤ ops) (h1 : ops ≤ 1000000) :
  Calls Try.prog 53 #[.pointer (some ⟨p, 0, none⟩), .int .i64 0, .int .i64 (b : Int)] w fun e w' => e = .returned (.tuple #[.pointer (some ⟨r, b * 4, none⟩), .agg (evC (.slice LA ln lc) (evFind evs (ops + 1))), .int .i64 0]) ∧
   w'.heap[p]? = some (.cells (arrC (.slice (some ⟨q, 0, none⟩) 4 qc) (.slice (some ⟨dq, 0, none⟩) 4 dc) (.slice EA n ec) (ops + 1) false) 92 (0, 0)) ∧ Mods (fun i => i = p) w w' := by
 have al := fun o => bl_alloc (Below.refl w.heap.size w) o
 have y8 : ∀ o, (w.alloc o).cell? ⟨p, 8, none⟩ = some (.bool false) := fun o => pw_cell_below (al o) ((blk_cell h 8).trans rfl)
 have y4 : ∀ o, (w.alloc o).cell? ⟨p, 4, none⟩ = some (.slice (some ⟨q, 0, none⟩) 4 qc) := fun o => pw_cell_below (al o) ((blk_cell h 4).trans rfl)
 have y1 : ∀ o, (w.alloc o).cell? ⟨p, 1, none⟩ = some (.int .i64 16) := fun o => pw_cell_below (al o) ((blk_cell h 1).trans rfl)
 have y7 : ∀ o, (w.alloc o).cell? ⟨p, 7, none⟩ = some (.int .i64 ops) := fun o => pw_cell_below (al o) ((blk_cell h 7).trans rfl)
 have f7 : ∀ o, (w.alloc o).frozen? ⟨p, 7, none⟩ = false := fun o => blk_frozen (blk_alloc h o) 7
 have b1 : decide ((b : Int) < 0) = false := decide_eq_false (by omega)
 have b2 : decide ((16 : Int) ≤ (b : Int)) = false := decide_eq_false (by omega)
 have b3 : decide (16 ≤ b) = false := decide_eq_false (by omega)
 have w1e : wrap64 (ops + 1) = ops + 1 := by unfold wrap64; omega
 have HP := Lib.hid h
 have HX := Lib.hid (And.intro hq (And.intro hd (And.intro nq (And.intro nd ne))))
 have HE := Lib.hid (And.intro he (And.intro hk hn))
 have HB := Lib.hid hb
 clear h hq hd nq nd ne he hk hn al
 go_enter Try.func53, Try.ntmps53
 go_wp2_with fail
 have hw1m : Mods (fun i => i = p) w ((w.alloc (.cells #[.int .i64 0, .int .i64 0, .int .i64 0, .slice none 0 0] 59)).setCell ⟨p, 7, none⟩ (.int .i64 (ops + 1))) := Mods.at_ (S := fun i => i = p) ((Mods.refl _ w).alloc _) (.inl rfl) 7 _
 have hp1 : ((w.alloc (.cells #[.int .i64 0, .int .i64 0, .int .i64 0, .slice none 0 0] 59)).setCell ⟨p, 7, none⟩ (.int .i64 (ops + 1))).heap[p]? = some (.cells (arrC (.slice (some ⟨q, 0, none⟩) 4 qc) (.slice (some ⟨dq, 0, none⟩) 4 dc) (.slice EA n ec) (ops + 1) false) 92 (0, 0)) := blk_put (blk_alloc HP.out _) 7 _ (by simp [arrC])
 have hz1 : ((w.alloc (.cells #[.int .i64 0, .int .i64 0, .int .i64 0, .slice none 0 0] 59)).setCell ⟨p, 7, none⟩ (.int .i64 (ops + 1))).heap[w.heap.size]? = some (.cells #[.int .i64 0, .int .i64 0, .int .i64 0, .slice none 0 0] 59 (0, 0)) := blk_far (heap_alloc_new w _) (p := ⟨p, 7, none⟩) (by have h_ := blk_lt HP.out; show w.heap.size ≠ p; omega) _
 obtain ⟨w1, hw1⟩ : ∃ w1, (w.alloc (.cells #[.int .i64 0, .int .i64 0, .int .i64 0, .slice none 0 0] 59)).setCell ⟨p, 7, none⟩ (.int .i64 (ops + 1)) = w1 := ⟨_, rfl⟩
 rw [hw1] at hw1m hp1 hz1 ⊢
 have HM1 := Lib.hid hw1m
 have HP1 := Lib.hid hp1
 have HZ1 := Lib.hid hz1
 have HQ1 := Lib.hid (And.intro (hw1m.cell HX.out.1 HX.out.2.2.1) (hw1m.cell HX.out.2.1 HX.out.2.2.2.1))
 have HE1 := Lib.hid (HE.out.1.mods hw1m HX.out.2.2.2.2)
 clear hw1 hw1m hp1 hz1 y8 y4 y1 y7 f7
 refine (at_any p _ _ EA n ec LA ln lc evs (ops + 1) false w1 HP1.out HE1.out HE.out.2.2).mono ?_
 rintro e w2 ⟨rfl, hb2⟩
 have HB2 := Lib.hid hb2
 clear hb2
 cases hf : evFind evs (ops + 1) with
 | none =>
  simp only [hf, evC, Option.isSome_none]
  go_wp2_with fail
  have hw3 := bl_seq_b HB2.out (bl_alloc (Below.refl w2.heap.size w2) (.cells #[.int .i64 0, .int .i64 0, .int .i64 0, .slice none 0 0] 59))
  have h9 := heap_alloc_new w2 (.cells #[.int .i64 0, .int .i64 0, .int .i64 0, .slice none 0 0] 59)
  obtain ⟨w3, hw3e⟩ : ∃ w3, w2.alloc (.cells #[.int .i64 0, .int .i64 0, .int .i64 0, .slice none 0 0] 59) = w3 := ⟨_, rfl⟩
  rw [hw3e] at hw3 h9 ⊢
  obtain ⟨g9, hg9⟩ : ∃ g9, w2.heap.size = g9 := ⟨_, rfl⟩
  rw [hg9] at h9 ⊢
  have HW3 := Lib.hid hw3
  have H9 := Lib.hid h9
  clear hw3 h9 hw3e hg9
  have HP3 := Lib.hid (blk_below HP1.out HW3.out)
  have HZ3 := Lib.hid (blk_below HZ1.out HW3.out)
  obtain ⟨-, y1, -, -, y4, y5, -, -, -⟩ := arr_cells HP3.out
  have yq := pw_cell_below HW3.out HQ1.out.1
  have yd := pw_cell_below HW3.out HQ1.out.2
  have e0 := (blk_cell H9.out 0).trans rfl
  have e1 := (blk_cell H9.out 1).trans rfl
  have e2 := (blk_cell H9.out 2).trans rfl
  have e3 := (blk_cell H9.out 3).trans rfl
  have z0 := (blk_cell HZ3.out 0).trans rfl
  have z1 := (blk_cell HZ3.out 1).trans rfl
  have z2 := (blk_cell HZ3.out 2).trans rfl
  have z3 := (blk_cell HZ3.out 3).trans rfl
  have q0 := blk_frozen HZ3.out 0
  have q1 := blk_frozen HZ3.out 1
  have q2 := blk_frozen HZ3.out 2
  have q3 := blk_frozen HZ3.out 3
  go_quiet (fail)
  go_wp2_with fail
  go_region
  generalize hwD : World.drewN w3 _ = wD
  have hzD : wD.heap[w.heap.size]? = some (.cells #[.int .i64 0, .int .i64 0, .int .i64 0, .slice none 0 0] 59 (0, 0)) := by rw [← hwD]; exact HZ3.out
  have hpD : wD.heap[p]? = some (.cells (arrC (.slice (some ⟨q, 0, none⟩) 4 qc) (.slice (some ⟨dq, 0, none⟩) 4 dc) (.slice EA n ec) (ops + 1) false) 92 (0, 0)) := by rw [← hwD]; exact HP3.out
  have hmD : Mods (fun i => i = p) w wD := by rw [← hwD]; exact (HM1.out.trans (Mods.of_below HW3.out)).drewN _
  have hnp : p ≠ w.heap.size := by have h_ := blk_lt HP.out; omega
  have hf9 := put4 hzD (.int .i64 0) (.int .i64 0) (.int .i64 0) (.slice none 0 0)
  have hp9 := blk_far (blk_far (blk_far (blk_far hpD (p := ⟨w.heap.size, 0, none⟩) hnp (.int .i64 0)) (p := ⟨w.heap.size, 1, none⟩) hnp (.int .i64 0)) (p := ⟨w.heap.size, 2, none⟩) hnp (.int .i64 0)) (p := ⟨w.heap.size, 3, none⟩) hnp (.slice none 0 0)
  have hm9 := (((hmD.at_ (.inr (Nat.le_refl _)) 0 (.int .i64 0)).at_ (.inr (Nat.le_refl _)) 1 (.int .i64 0)).at_ (.inr (Nat.le_refl _)) 2 (.int .i64 0)).at_ (.inr (Nat.le_refl _)) 3 (.slice none 0 0)
  obtain ⟨w9, hw9⟩ : ∃ w9, ((((wD.setCell ⟨w.heap.size, 0, none⟩ (.int .i64 0)).setCell ⟨w.heap.size, 1, none⟩ (.int .i64 0)).setCell ⟨w.heap.size, 2, none⟩ (.int .i64 0)).setCell ⟨w.heap.size, 3, none⟩ (.slice none 0 0)) = w9 := ⟨_, rfl⟩
  rw [hw9] at hf9 hp9 hm9 ⊢
  have c0 : w9.cell? ⟨w.heap.size, 0, none⟩ = some (.int .i64 0) := (blk_cell hf9 0).trans rfl
  have c1 : w9.cell? ⟨w.heap.size, 1, none⟩ = some (.int .i64 0) := (blk_cell hf9 1).trans rfl
  have c2 : w9.cell? ⟨w.heap.size, 2, none⟩ = some (.int .i64 0) := (blk_cell hf9 2).trans rfl
  have c3 : w9.cell? ⟨w.heap.size, 3, none⟩ = some (.slice none 0 0) := (blk_cell hf9 3).trans rfl
  have HF := Lib.hid (And.intro hp9 hm9)
  have HEV := Lib.hid hf
  clear hwD hzD hpD hmD hf9 hp9 hm9 hw9 z0 z1 z2 z3 q0 q1 q2 q3 e0 e1 e2 e3 y1 y4 y5 yq yd hf
  go_wp2_with fail
  refine bodyPost_ret (v := .tuple #[.pointer (some ⟨r, b * 4, none⟩), .agg #[.int .i64 0, .int .i64 0, .int .i64 0, .slice none 0 0], .int .i64 0]) (by simp [results, Try.results53, go_sem, c0, c1, c2, c3]) rfl ⟨by rw [HEV.out]; rfl, HF.out⟩
 | some x =>
  obtain ⟨xo, xk⟩ := x
  have hkd := evFind_kind HE.out.2.1 hf
  simp only at hkd
  have k3 : (xk == 3) = false := by rcases hkd with rfl | rfl <;> rfl
  simp only [hf, evC, Option.isSome_some]
  go_wp2_with fail
  have hw3 := bl_seq_b HB2.out (bl_alloc (Below.refl w2.heap.size w2) (.cells #[.int .i64 xo, .int .i64 xk, .int .i64 0, .slice LA ln lc] 59))
  have h9 := heap_alloc_new w2 (.cells #[.int .i64 xo, .int .i64 xk, .int .i64 0, .slice LA ln lc] 59)
  obtain ⟨w3, hw3e⟩ : ∃ w3, w2.alloc (.cells #[.int .i64 xo, .int .i64 xk, .int .i64 0, .slice LA ln lc] 59) = w3 := ⟨_, rfl⟩
  rw [hw3e] at hw3 h9 ⊢
  obtain ⟨g9, hg9⟩ : ∃ g9, w2.heap.size = g9 := ⟨_, rfl⟩
  rw [hg9] at h9 ⊢
  have HW3 := Lib.hid hw3
  have H9 := Lib.hid h9
  clear hw3 h9 hw3e hg9
  have HP3 := Lib.hid (blk_below HP1.out HW3.out)
  have HZ3 := Lib.hid (blk_below HZ1.out HW3.out)
  obtain ⟨-, y1, -, -, y4, y5, -, -, -⟩ := arr_cells HP3.out
  have yq := pw_cell_below HW3.out HQ1.out.1
  have yd := pw_cell_below HW3.out HQ1.out.2
  have e0 := (blk_cell H9.out 0).trans rfl
  have e1 := (blk_cell H9.out 1).trans rfl
  have e2 := (blk_cell H9.out 2).trans rfl
  have e3 := (blk_cell H9.out 3).trans rfl
  have z0 := (blk_cell HZ3.out 0).trans rfl
  have z1 := (blk_cell HZ3.out 1).trans rfl
  have z2 := (blk_cell HZ3.out 2).trans rfl
  have z3 := (blk_cell HZ3.out 3).trans rfl
  have q0 := blk_frozen HZ3.out 0
  have q1 := blk_frozen HZ3.out 1
  have q2 := blk_frozen HZ3.out 2
  have q3 := blk_frozen HZ3.out 3
  go_quiet (fail)
  go_wp2_with fail
  go_region
  generalize hwD : World.drewN w3 _ = wD
  have hzD : wD.heap[w.heap.size]? = some (.cells #[.int .i64 0, .int .i64 0, .int .i64 0, .slice none 0 0] 59 (0, 0)) := by rw [← hwD]; exact HZ3.out
  have hpD : wD.heap[p]? = some (.cells (arrC (.slice (some ⟨q, 0, none⟩) 4 qc) (.slice (some ⟨dq, 0, none⟩) 4 dc) (.slice EA n ec) (ops + 1) false) 92 (0, 0)) := by rw [← hwD]; exact HP3.out
  have hmD : Mods (fun i => i = p) w wD := by rw [← hwD]; exact (HM1.out.trans (Mods.of_below HW3.out)).drewN _
  have hnp : p ≠ w.heap.size := by have h_ := blk_lt HP.out; omega
  have hf9 := put4 hzD (.int .i64 xo) (.int .i64 xk) (.int .i64 0) (.slice LA ln lc)
  have hp9 := blk_far (blk_far (blk_far (blk_far hpD (p := ⟨w.heap.size, 0, none⟩) hnp (.int .i64 xo)) (p := ⟨w.heap.size, 1, none⟩) hnp (.int .i64 xk)) (p := ⟨w.heap.size, 2, none⟩) hnp (.int .i64 0)) (p := ⟨w.heap.size, 3, none⟩) hnp (.slice LA ln lc)
  have hm9 := (((hmD.at_ (.inr (Nat.le_refl _)) 0 (.int .i64 xo)).at_ (.inr (Nat.le_refl _)) 1 (.int .i64 xk)).at_ (.inr (Nat.le_refl _)) 2 (.int .i64 0)).at_ (.inr (Nat.le_refl _)) 3 (.slice LA ln lc)
  obtain ⟨w9, hw9⟩ : ∃ w9, ((((wD.setCell ⟨w.heap.size, 0, none⟩ (.int .i64 xo)).setCell ⟨w.heap.size, 1, none⟩ (.int .i64 xk)).setCell ⟨w.heap.size, 2, none⟩ (.int .i64 0)).setCell ⟨w.heap.size, 3, none⟩ (.slice LA ln lc)) = w9 := ⟨_, rfl⟩
  rw [hw9] at hf9 hp9 hm9 ⊢
  have c0 : w9.cell? ⟨w.heap.size, 0, none⟩ = some (.int .i64 xo) := (blk_cell hf9 0).trans rfl
  have c1 : w9.cell? ⟨w.heap.size, 1, none⟩ = some (.int .i64 xk) := (blk_cell hf9 1).trans rfl
  have c2 : w9.cell? ⟨w.heap.size, 2, none⟩ = some (.int .i64 0) := (blk_cell hf9 2).trans rfl
  have c3 : w9.cell? ⟨w.heap.size, 3, none⟩ = some (.slice LA ln lc) := (blk_cell hf9 3).trans rfl
  have HF := Lib.hid (And.intro hp9 hm9)
  have HEV := Lib.hid hf
  clear hwD hzD hpD hmD hf9 hp9 hm9 hw9 z0 z1 z2 z3 q0 q1 q2 q3 e0 e1 e2 e3 y1 y4 y5 yq yd hf
  go_wp2_with fail
  refine bodyPost_ret (v := .tuple #[.pointer (some ⟨r, b * 4, none⟩), .agg #[.int .i64 xo, .int .i64 xk, .int .i64 0, .slice LA ln lc], .int .i64 0]) (by simp [results, Try.results53, go_sem, c0, c1, c2, c3]) rfl ⟨by rw [HEV.out]; rfl, HF.out⟩
end Go.Proofs.Ytffalemndjampaa
end
section
set_option linter.unusedVariables false
set_option linter.unusedSimpArgs false
namespace Go.Proofs.Ytffalemndjampaa
open Go.RowKit Go.Proofs.YtffalemndjampaaW.PrintWords
def cyc (lf : List Int) (i : Nat) : Int := if lf.length = 0 then 0 else lf.getD (i % lf.length) 0
def leftD (lf : List Int) : List Int := (List.range 256).map (cyc lf)
def leftO (lf : List Int) : List Int := (List.range 64).map fun i => cyc lf (256 + i)
def leftAt (lf : List Int) (j : Nat) : List Int := (List.range j).map (cyc lf) ++ List.replicate (320 - j) 0
theorem leftAt_length (lf : List Int) (j : Nat) (hj : j ≤ 320) : (leftAt lf j).length = 320 := by simp [leftAt]; omega
theorem leftAt_set (lf : List Int) (j : Nat) (hj : j < 320) : (leftAt lf j).set j (cyc lf j) = leftAt lf (j + 1) := by
 have h1 : 320 - j = (320 - (j + 1)) + 1 := by omega
 rw [leftAt, leftAt, h1, List.replicate_succ, List.range_succ, List.map_append, List.append_assoc]
 rw [List.set_append_right _ _ (by simp)]
 simp
theorem leftAt_zero (lf : List Int) (h : lf.length = 0) (j : Nat) (hj : j < 320) : leftAt lf j = leftAt lf (j + 1) := by
 have h1 : 320 - j = (320 - (j + 1)) + 1 := by omega
 rw [leftAt, leftAt, h1, List.replicate_succ, List.range_succ, List.map_append, List.append_assoc]
 simp [cyc, h]
theorem leftAt_D (lf : List Int) : (leftAt lf 320).take 256 = leftD lf := by
 rw [leftAt, leftD]
 simp [← List.map_take, List.take_range]
theorem leftAt_O (lf : List Int) : (leftAt lf 320).drop 256 = leftO lf := by
 rw [leftAt, leftO]
 apply List.ext_getElem
 ·simp
 ·intro i h1 h2
  simp
theorem cyc_byt {lf : List Int} (h : Byt lf) (i : Nat) : 0 ≤ cyc lf i ∧ cyc lf i < 256 := by
 unfold cyc
 split
 ·omega
 ·next h0 =>
  have hl : i % lf.length < lf.length := Nat.mod_lt _ (by omega)
  rw [List.getD_eq_getElem?_getD, List.getElem?_eq_getElem hl]
  exact h _ (List.getElem_mem hl)
theorem leftO_len (lf : List Int) : (leftO lf).length = 64 := by simp [leftO]
theorem al3 (w : World) (c1 c2 c3 : Array Value) (t1 t2 t3 : TypeId) : (((w.alloc (.cells c1 t1)).alloc (.cells c2 t2)).alloc (.cells c3 t3)).heap[w.heap.size]? = some (.cells c1 t1 (0, 0)) ∧ (((w.alloc (.cells c1 t1)).alloc (.cells c2 t2)).alloc (.cells c3 t3)).heap[w.heap.size + 1]? = some (.cells c2 t2 (0, 0)) ∧
  (((w.alloc (.cells c1 t1)).alloc (.cells c2 t2)).alloc (.cells c3 t3)).heap[w.heap.size + 1 + 1]? = some (.cells c3 t3 (0, 0)) ∧ Below w.heap.size w (((w.alloc (.cells c1 t1)).alloc (.cells c2 t2)).alloc (.cells c3 t3)) ∧ (((w.alloc (.cells c1 t1)).alloc (.cells c2 t2)).alloc (.cells c3 t3)).heap.size = w.heap.size + 3 := by
 have h2 := heap_alloc_new (w.alloc (.cells c1 t1)) (.cells c2 t2)
 have h3 := heap_alloc_new ((w.alloc (.cells c1 t1)).alloc (.cells c2 t2)) (.cells c3 t3)
 simp only [World.size_alloc] at h2 h3
 exact ⟨blk_alloc (blk_alloc (heap_alloc_new w _) _) _, blk_alloc h2 _, h3, bl_alloc (bl_alloc (bl_alloc (Below.refl _ _) _) _) _, by simp⟩
def LfS (w wr : World) (b0 b1 g : Nat) (ec : Array Value) (lf : List Int) (j : Nat) : Prop :=
 wr.ownsRow w.heap.size 5 1 (.slice (some ⟨g, 0, none⟩) 320 320) 320 (nums .u8 (leftAt lf j)) ∧ wr.heap[b0]? = some (.cells ec 59 (0, 0)) ∧ wr.heap[b1]? = some (.cells #[.slice none 0 0, .slice none 0 0] 127 (0, 0)) ∧ Below w.heap.size w wr
set_option maxHeartbeats 8000000 in
set_option maxRecDepth 100000 in
theorem left_any (p : Nat) (ch dd ev : Value) (ops : Int) (off : Bool) (xo xk : Int) (LA : Option Addr) (ln lc : Nat) (lf : List Int) (w : World) (h : w.heap[p]? = some (.cells (arrC ch dd ev ops off) 92 (0, 0))) (hl : ReadsInt w .u8 LA ln lf) (hb : Byt lf) (hn : ln ≤ 1000) :
  Calls Try.prog 54 #[.pointer (some ⟨p, 0, none⟩), .agg #[.int .i64 xo, .int .i64 xk, .int .i64 0, .slice LA ln lc]] w fun e w' => ∃ g, e = .returned (.agg #[.slice (some ⟨g, 0, none⟩) 256 256, .slice (some ⟨g, 256, none⟩) 64 64]) ∧ w.heap.size ≤ g ∧ Below w.heap.size w w' ∧
   ReadsInt w' .u8 (some ⟨g, 0, none⟩) 256 (leftD lf) ∧ ReadsInt w' .u8 (some ⟨g, 256, none⟩) 64 (leftO lf) := by
 have hmk := print_make (P := Try.prog) 27 5 .u8 1 Try.underlying27 info5' (by decide) 320 (by omega)
 rw [show ((320 : Nat) : Int) = 320 from rfl] at hmk
 have al2 : ∀ o1 o2, Below w.heap.size w ((w.alloc o1).alloc o2) := fun o1 o2 => bl_alloc (bl_alloc (Below.refl _ _) o1) o2
 have y3 : ∀ o1 o2, ((w.alloc o1).alloc o2).cell? ⟨p, 3, none⟩ = some (.int .i64 256) := fun o1 o2 => pw_cell_below (al2 o1 o2) (arr_cells h).2.2.2.1
 have HP := Lib.hid h
 have HL := Lib.hid (And.intro hl hb)
 have hlen := hl.1
 clear h hl hb al2
 go_enter Try.func54, Try.ntmps54
 go_wp2_with fail
 have h3 := al3 w #[.int .i64 xo, .int .i64 xk, .int .i64 0, .slice LA ln lc] #[.slice none 0 0, .slice none 0 0] (madeCells #[.int .u8 0] 320) 59 127 5
 have ho3 := own_made ((w.alloc (.cells #[.int .i64 xo, .int .i64 xk, .int .i64 0, .slice LA ln lc] 59)).alloc (.cells #[.slice none 0 0, .slice none 0 0] 127)) w.heap.size 5 .u8 320 (by simp; omega) (by decide)
 simp only [World.size_alloc] at ho3
 obtain ⟨W3, hW3⟩ : ∃ W3, (((w.alloc (.cells #[.int .i64 xo, .int .i64 xk, .int .i64 0, .slice LA ln lc] 59)).alloc (.cells #[.slice none 0 0, .slice none 0 0] 127)).alloc (.cells (madeCells #[.int .u8 0] 320) 5)) = W3 := ⟨_, rfl⟩
 rw [hW3] at h3 ho3 ⊢
 have H0 := Lib.hid (show LfS w W3 w.heap.size (w.heap.size + 1) (w.heap.size + 1 + 1) #[.int .i64 xo, .int .i64 xk, .int .i64 0, .slice LA ln lc] lf 0 from ⟨ho3, h3.1, h3.2.1, h3.2.2.2.1⟩)
 clear hW3 h3 ho3 y3 hmk
 obtain ⟨b0, hb0⟩ : ∃ b0, w.heap.size = b0 := ⟨_, rfl⟩
 have HB0 := Lib.hid hb0
 obtain ⟨g, hg⟩ : ∃ g, w.heap.size + 1 + 1 = g := ⟨_, rfl⟩
 obtain ⟨b1, hb1⟩ : ∃ b1, w.heap.size + 1 = b1 := ⟨_, rfl⟩
 rw [hg, hb1, hb0] at H0
 try rw [hg]
 try rw [hb1]
 try rw [hb0]
 have HG := Lib.hid (show w.heap.size ≤ g by omega)
 have HNE := Lib.hid (show b0 ≠ g ∧ b1 ≠ g by omega)
 have HB1 := Lib.hid (show w.heap.size ≤ b1 by omega)
 clear hb0 hb1 hg
 go_loopw [16] (fun i wr => ∃ j : Nat, j ≤ 320 ∧ i = .int .i64 (j : Int) ∧ Hid (LfS w wr b0 b1 g #[.int .i64 xo, .int .i64 xk, .int .i64 0, .slice LA ln lc] lf j)) (fun i _ => 320 - (intOf i).toNat)
 case atStart => exact ⟨0, Nat.zero_le _, rfl, H0⟩
 case round =>
  obtain ⟨j, hj, rfl, HS⟩ := hrel
  have e3 : wr.cell? ⟨b0, 3, none⟩ = some (.slice LA ln lc) := (blk_cell HS.out.2.1 3).trans rfl
  by_cases hlt : j < 320
  ·by_cases hl0 : ln = 0
   ·subst hl0
    have HN := Lib.hid (leftAt_zero lf hlen j hlt)
    go_wp2_with fail
    go_roundw
    case rel => exact ⟨j + 1, by omega, by go_num, Lib.hid ⟨HN.out ▸ HS.out.1, HS.out.2⟩⟩
    case measure => simp [intOf]; omega
   ·have f1 : decide ((0 : Int) < (ln : Int)) = true := decide_eq_true (by omega)
    have f2 : decide (0 < ln) = true := decide_eq_true (by omega)
    have f3 : (0 : Int) < (ln : Int) := by omega
    have hml : j % ln < ln := Nat.mod_lt _ (by omega)
    obtain ⟨ad, hA, hc⟩ := (HL.out.1.below HS.out.2.2.2).at_ ((j % ln : Nat) : Int) (by omega) (by omega)
    rw [Int.toNat_natCast, rd_getD] at hc
    have hcy : lf.getD (j % ln) 0 = cyc lf j := by rw [cyc, if_neg (by omega), hlen]
    rw [hcy] at hc
    have hst := (own_store HS.out.1 (j : Int) (cyc lf j)).1
    have hgr := (own_store HS.out.1 (j : Int) (cyc lf j)).2
    rw [Int.toNat_natCast, leftAt_set lf j hlt] at hst
    rw [Int.toNat_natCast] at hgr
    obtain ⟨hg1, hg2⟩ := own_at HS.out.1 (j : Int) (by omega) (by omega)
    rw [Int.toNat_natCast] at hg1 hg2
    subst hA
    have hnx := Lib.hid (show LfS w (wr.setCell ⟨g, j, none⟩ (.int .u8 (cyc lf j))) b0 b1 g #[.int .i64 xo, .int .i64 xk, .int .i64 0, .slice (some ad) ln lc] lf (j + 1) from ⟨hst, blk_far HS.out.2.1 (p := ⟨g, j, none⟩) HNE.out.1 _, blk_far HS.out.2.2.1 (p := ⟨g, j, none⟩) HNE.out.2 _, bl_set HS.out.2.2.2 (p := ⟨g, j, none⟩) HG.out _⟩)
    clear hst hgr
    go_wp2_with fail
    go_region
    go_wp2_with fail
    go_roundw
    case rel => exact ⟨j + 1, by omega, by go_num, Lib.hid (show LfS w (World.drew _) b0 b1 g #[.int .i64 xo, .int .i64 xk, .int .i64 0, .slice (some ad) ln lc] lf (j + 1) from ⟨hnx.out.1, hnx.out.2.1, hnx.out.2.2.1, bl_drew hnx.out.2.2.2⟩)⟩
    case measure => simp [intOf]; omega
  ·obtain rfl : j = 320 := by omega
   have y3 : wr.cell? ⟨p, 3, none⟩ = some (.int .i64 256) := (arr_cells (blk_below HP.out HS.out.2.2.2)).2.2.2.1
   have z0 : wr.cell? ⟨b1, 0, none⟩ = some (.slice none 0 0) := (blk_cell HS.out.2.2.1 0).trans rfl
   have z1 : wr.cell? ⟨b1, 1, none⟩ = some (.slice none 0 0) := (blk_cell HS.out.2.2.1 1).trans rfl
   have q0 := blk_frozen HS.out.2.2.1 0
   have q1 := blk_frozen HS.out.2.2.1 1
   go_wp2_with fail
   go_region
   have ho1 := own_setCell (p := ⟨b1, 0, none⟩) HS.out.1 (by simp [Value.ownBlock]; exact HNE.out.2) (.slice (some ⟨g, 0, none⟩) 256 256)
   have ho2 := own_setCell (p := ⟨b1, 1, none⟩) ho1 (by simp [Value.ownBlock]; exact HNE.out.2) (.slice (some ⟨g, 256, none⟩) 64 64)
   have hf := blk_put (blk_put HS.out.2.2.1 0 (.slice (some ⟨g, 0, none⟩) 256 256) (cs' := #[.slice (some ⟨g, 0, none⟩) 256 256, .slice none 0 0]) (by simp)) 1 (.slice (some ⟨g, 256, none⟩) 64 64) (cs' := #[.slice (some ⟨g, 0, none⟩) 256 256, .slice (some ⟨g, 256, none⟩) 64 64]) (by simp)
   have T9 := bl_drew (bl_set (bl_set HS.out.2.2.2 (p := ⟨b1, 0, none⟩) HB1.out (.slice (some ⟨g, 0, none⟩) 256 256)) (p := ⟨b1, 1, none⟩) HB1.out (.slice (some ⟨g, 256, none⟩) 64 64))
   have hr9 : ReadsInt (((wr.setCell ⟨b1, 0, none⟩ (.slice (some ⟨g, 0, none⟩) 256 256)).setCell ⟨b1, 1, none⟩ (.slice (some ⟨g, 256, none⟩) 64 64)).drew) .u8 (some ⟨g, 0, none⟩) 320 (leftAt lf 320) := own_reads' (show (((wr.setCell ⟨b1, 0, none⟩ (.slice (some ⟨g, 0, none⟩) 256 256)).setCell ⟨b1, 1, none⟩ (.slice (some ⟨g, 256, none⟩) 64 64)).drew).ownsRow w.heap.size 5 1 (.slice (some ⟨g, 0, none⟩) 320 320) 320 (nums .u8 (leftAt lf 320)) from ho2)
   have hf' : (((wr.setCell ⟨b1, 0, none⟩ (.slice (some ⟨g, 0, none⟩) 256 256)).setCell ⟨b1, 1, none⟩ (.slice (some ⟨g, 256, none⟩) 64 64)).drew).heap[b1]? = some (.cells #[.slice (some ⟨g, 0, none⟩) 256 256, .slice (some ⟨g, 256, none⟩) 64 64] 127 (0, 0)) := hf
   clear hf ho1 ho2 z0 z1 q0 q1 y3 e3
   obtain ⟨w9, hw9⟩ : ∃ w9, ((wr.setCell ⟨b1, 0, none⟩ (.slice (some ⟨g, 0, none⟩) 256 256)).setCell ⟨b1, 1, none⟩ (.slice (some ⟨g, 256, none⟩) 64 64)).drew = w9 := ⟨_, rfl⟩
   rw [hw9] at hr9 hf' T9 ⊢
   have c0 : w9.cell? ⟨b1, 0, none⟩ = some (.slice (some ⟨g, 0, none⟩) 256 256) := (blk_cell hf' 0).trans rfl
   have c1 : w9.cell? ⟨b1, 1, none⟩ = some (.slice (some ⟨g, 256, none⟩) 64 64) := (blk_cell hf' 1).trans rfl
   have hrD := hr9.take_ 256 (by omega)
   have hrO := hr9.drop_ 256 (by omega) (Nat.le_refl 320)
   rw [leftAt_D] at hrD
   rw [leftAt_O, if_neg (by omega)] at hrO
   have HF := Lib.hid (And.intro HG.out (And.intro T9 (And.intro hrD hrO)))
   clear hr9 hf' T9 hw9 hrD hrO HS
   go_wp2_with fail
   refine bodyPost_ret (v := .agg #[.slice (some ⟨g, 0, none⟩) 256 256, .slice (some ⟨g, 256, none⟩) 64 64]) (by simp [results, Try.results54, go_sem, c0, c1]) rfl ⟨g, rfl, HF.out⟩
end Go.Proofs.Ytffalemndjampaa
end
section
set_option linter.unusedVariables false
set_option linter.unusedSimpArgs false
namespace Go.Proofs.Ytffalemndjampaa
open Go.RowKit Go.Proofs.YtffalemndjampaaW.PrintWords
structure Bk where
 pg : Nat → Option (List Int × List Int)
 nx : Nat
 bad : Bool
structure St where
 bl : Nat → Bk
 ops : Int
 off : Bool
def upd {α : Type} (f : Nat → α) (i : Nat) (v : α) : Nat → α := fun j => if j = i then v else f j
theorem upd_same {α : Type} (f : Nat → α) (i : Nat) (v : α) : upd f i v i = v := if_pos rfl
theorem upd_other {α : Type} (f : Nat → α) (i j : Nat) (v : α) (h : j ≠ i) : upd f i v j = f j := if_neg h
structure Ar where
 p : Nat
 q : Nat
 qc : Nat
 dq : Nat
 dc : Nat
 r : Nat
 rc : Nat
 n : Nat
 ec : Nat
 ln : Nat
 lc : Nat
 pr : Nat → Nat
 pc : Nat → Nat
 EA : Option Addr
 LA : Option Addr
 evs : List Ev0
 lf : List Int
def Ar.M (a : Ar) (k : Nat) : Prop := k = a.p ∨ k = a.r ∨ ∃ i, i < 16 ∧ k = a.pr i
structure Ar.Fix (a : Ar) : Prop where
 pr_p : ∀ i, i < 16 → a.pr i ≠ a.p
 pr_r : ∀ i, i < 16 → a.pr i ≠ a.r
 pr_i : ∀ i j, i < 16 → j < 16 → i ≠ j → a.pr i ≠ a.pr j
 r_p : a.r ≠ a.p
 q_M : ¬ a.M a.q
 d_M : ¬ a.M a.dq
 e_M : ∀ x, a.EA = some x → ¬ a.M x.block
 l_M : ∀ x, a.LA = some x → 0 < a.ln → ¬ a.M x.block
 ev : EvOk a.evs
 n_le : a.n ≤ 1000
 l_le : a.ln ≤ 1000
 byt : Byt a.lf
def PgAt (w : World) (ok : Nat → Prop) (D : Array Value) (p : Nat) : Option (List Int × List Int) → Prop
 | none => D[p * 2]? = some (.slice none 0 0) ∧ D[p * 2 + 1]? = some (.slice none 0 0)
 | some x => ∃ A c B c', D[p * 2]? = some (.slice (some A) 256 c) ∧ D[p * 2 + 1]? = some (.slice (some B) 64 c') ∧ 256 ≤ c ∧ 64 ≤ c' ∧ ReadsInt w .u8 (some A) 256 x.1 ∧ ReadsInt w .u8 (some B) 64 x.2 ∧ ok A.block ∧ ok B.block ∧ Byt x.1 ∧ Byt x.2
def PgsAt (w : World) (ok : Nat → Prop) (g : Nat) (pg : Nat → Option (List Int × List Int)) : Prop :=
 ∃ D, w.heap[g]? = some (.cells D 127 (0, 0)) ∧ 12 ≤ D.size ∧ ∀ p, p < 6 → PgAt w ok D p (pg p)
def BkAt (a : Ar) (C : Array Value) (i : Nat) (b : Bk) : Prop :=
 C[i * 4]? = some (.slice (some ⟨a.pr i, 0, none⟩) 6 (a.pc i)) ∧ C[i * 4 + 1]? = some (.int .i64 (b.nx : Int)) ∧ (∃ er, C[i * 4 + 2]? = some (.int .i64 er)) ∧ C[i * 4 + 3]? = some (.bool b.bad)
def Arr (w : World) (a : Ar) (ok : Nat → Prop) (s : St) : Prop :=
 w.heap[a.p]? = some (.cells (arrC (.slice (some ⟨a.q, 0, none⟩) 4 a.qc) (.slice (some ⟨a.dq, 0, none⟩) 4 a.dc) (.slice a.EA a.n a.ec) s.ops s.off) 92 (0, 0)) ∧
 w.cell? ⟨a.q, 0, none⟩ = some (.slice (some ⟨a.r, 0, none⟩) 16 a.rc) ∧ w.cell? ⟨a.dq, 0, none⟩ = some (.bool false) ∧ EvR w a.EA a.n (.slice a.LA a.ln a.lc) a.evs ∧ ReadsInt w .u8 a.LA a.ln a.lf ∧
 (∃ C, w.heap[a.r]? = some (.cells C 96 (0, 0)) ∧ ∀ i, i < 16 → BkAt a C i (s.bl i)) ∧ ∀ i, i < 16 → PgsAt w ok (a.pr i) (s.bl i).pg
theorem PgAt.keep {w w' : World} {ok : Nat → Prop} {D : Array Value} {p : Nat} {x : Option (List Int × List Int)} (h : PgAt w ok D p x) (hk : ∀ k, ok k → k < w.heap.size → w'.heap[k]? = w.heap[k]?) : PgAt w' ok D p x := by
 cases x with
 | none => exact h
 | some x =>
  obtain ⟨A, c, B, c', h1, h2, h3, h4, h5, h6, h7, h8, h9⟩ := h
  have rd : ∀ (A : Addr) (n : Nat) (xs : List Int), ReadsInt w .u8 (some A) n xs → ok A.block → ReadsInt w' .u8 (some A) n xs := by
   intro A n xs hr hA
   refine ⟨hr.1, hr.2.1, fun hn => ?_⟩
   obtain ⟨ad, e, hc⟩ := hr.2.2 hn
   obtain rfl := Option.some.inj e
   refine ⟨A, rfl, fun j hj => ?_⟩
   have hb : (A.add j).block = A.block := by unfold Addr.add; split <;> rfl
   have hlt := World.block_lt_of_cell? w _ (hc j hj)
   rw [World.cell?_of_block (w := w) (hk _ (by rw [hb] at hlt ⊢; exact hb ▸ hA) hlt)]
   exact hc j hj
  exact ⟨A, c, B, c', h1, h2, h3, h4, rd _ _ _ h5 h7, rd _ _ _ h6 h8, h7, h8, h9⟩
theorem PgsAt.keep {w w' : World} {ok : Nat → Prop} {g : Nat} {pg : Nat → Option (List Int × List Int)} (h : PgsAt w ok g pg) (hg : w'.heap[g]? = w.heap[g]?) (hk : ∀ k, ok k → k < w.heap.size → w'.heap[k]? = w.heap[k]?) : PgsAt w' ok g pg := by
 obtain ⟨D, h1, h2, h3⟩ := h
 exact ⟨D, hg.trans h1, h2, fun p hp => (h3 p hp).keep hk⟩
def Ar.Out (a : Ar) (ok : Nat → Prop) (k : Nat) : Prop := ¬ a.M k ∧ k ≠ a.q ∧ k ≠ a.dq ∧ (∀ x, a.EA = some x → k ≠ x.block) ∧ (∀ x, a.LA = some x → 0 < a.ln → k ≠ x.block) ∧ ¬ ok k
theorem reads_mods {S : Nat → Prop} {w w' : World} {A : Option Addr} {n : Nat} {xs : List Int} (h : ReadsInt w .u8 A n xs) (hm : Mods S w w') (hs : ∀ x, A = some x → ¬ S x.block) : ReadsInt w' .u8 A n xs := hm.reads h hs
theorem reads_posd {S : Nat → Prop} {w w' : World} {k : IntKind} {A : Option Addr} {n : Nat} {xs : List Int} (hr : ReadsInt w k A n xs) (h : Mods S w w') (hs : ∀ a, A = some a → 0 < n → ¬ S a.block) : ReadsInt w' k A n xs := by
 rcases Nat.eq_zero_or_pos n with h0 | h0
 ·exact ⟨hr.1, hr.2.1, fun h => by omega⟩
 ·exact h.reads hr (fun a ha => hs a ha h0)
theorem Arr.mods {S : Nat → Prop} {w w' : World} {a : Ar} {ok : Nat → Prop} {s : St} (h : Arr w a ok s) (hm : Mods S w w') (hS : ∀ k, S k → a.Out ok k) : Arr w' a ok s := by
 obtain ⟨h1, h2, h3, h4, h5, ⟨C, h6, h7⟩, h8⟩ := h
 refine ⟨hm.blk h1 (fun e => (hS _ e).1 (.inl rfl)), hm.cell h2 (fun e => (hS _ e).2.1 rfl), hm.cell h3 (fun e => (hS _ e).2.2.1 rfl), h4.mods hm (fun x hx e => (hS _ e).2.2.2.1 x hx rfl), reads_posd h5 hm (fun x hx hp e => (hS _ e).2.2.2.2.1 x hx hp rfl),
  ⟨C, hm.blk h6 (fun e => (hS _ e).1 (.inr (.inl rfl))), h7⟩, fun i hi => (h8 i hi).keep ?_ (fun k hk hlt => hm.block k hlt (fun e => (hS _ e).2.2.2.2.2 hk))⟩
 obtain ⟨D, hD, _⟩ := h8 i hi
 exact hm.block _ (blk_lt hD) (fun e => (hS _ e).1 (.inr (.inr ⟨i, hi, rfl⟩)))
theorem Arr.below {w w' : World} {a : Ar} {ok : Nat → Prop} {s : St} (h : Arr w a ok s) (hb : Below w.heap.size w w') : Arr w' a ok s := h.mods (S := fun _ => False) (Mods.of_below hb) (fun k hk => hk.elim)
theorem Arr.head {w w' : World} {a : Ar} {ok : Nat → Prop} {s : St} (hf : a.Fix) (hok : ∀ k, ok k → ¬ a.M k) (h : Arr w a ok s) (hm : Mods (fun i => i = a.p) w w') (ops : Int) (off : Bool)
  (hp : w'.heap[a.p]? = some (.cells (arrC (.slice (some ⟨a.q, 0, none⟩) 4 a.qc) (.slice (some ⟨a.dq, 0, none⟩) 4 a.dc) (.slice a.EA a.n a.ec) ops off) 92 (0, 0))) : Arr w' a ok { s with ops := ops, off := off } := by
 obtain ⟨h1, h2, h3, h4, h5, ⟨C, h6, h7⟩, h8⟩ := h
 refine ⟨hp, hm.cell h2 (fun e => hf.q_M (.inl e)), hm.cell h3 (fun e => hf.d_M (.inl e)), h4.mods hm (fun x hx e => hf.e_M x hx (.inl e)), reads_posd h5 hm (fun x hx hp e => hf.l_M x hx hp (.inl e)),
  ⟨C, hm.blk h6 hf.r_p, h7⟩, fun i hi => (h8 i hi).keep ?_ (fun k hk hlt => hm.block k hlt (fun e => hok k hk (.inl e)))⟩
 obtain ⟨D, hD, _⟩ := h8 i hi
 exact hm.block _ (blk_lt hD) (hf.pr_p i hi)
theorem head_M {w w' : World} {a : Ar} (hm : Mods (fun i => i = a.p) w w') : Mods a.M w w' := hm.mono (fun i e => .inl e)
theorem Arr.power {w : World} {a : Ar} {ok : Nat → Prop} {s : St} (hf : a.Fix) (hok : ∀ k, ok k → ¬ a.M k) (h : Arr w a ok s) (b : Bool) : Arr (w.setCell ⟨a.p, 8, none⟩ (.bool b)) a ok { s with off := b } :=
 h.head hf hok (Mods.at_ (S := fun i => i = a.p) (Mods.refl _ w) (.inl rfl) 8 _) s.ops b (blk_put h.1 8 _ (by simp [arrC]))
theorem Arr.row {w : World} {a : Ar} {ok : Nat → Prop} {s : St} (hf : a.Fix) (hok : ∀ k, ok k → ¬ a.M k) (h : Arr w a ok s) (i o : Nat) (v : Value) (b : Bk) (hi : i < 16) (ho : o < 4) (hb : b.pg = (s.bl i).pg)
  (hv : ∀ C : Array Value, BkAt a C i (s.bl i) → BkAt a (C.setIfInBounds (i * 4 + o) v) i b) : Arr (w.setCell ⟨a.r, i * 4 + o, none⟩ v) a ok { s with bl := upd s.bl i b } := by
 obtain ⟨h1, h2, h3, h4, h5, ⟨C, h6, h7⟩, h8⟩ := h
 have hm : Mods (fun k => k = a.r) w (w.setCell ⟨a.r, i * 4 + o, none⟩ v) := Mods.at_ (S := fun k => k = a.r) (Mods.refl _ w) (.inl rfl) _ _
 refine ⟨hm.blk h1 (fun e => hf.r_p e.symm), hm.cell h2 (fun e => hf.q_M (.inr (.inl e))), hm.cell h3 (fun e => hf.d_M (.inr (.inl e))), h4.mods hm (fun x hx e => hf.e_M x hx (.inr (.inl e))), reads_posd h5 hm (fun x hx hp e => hf.l_M x hx hp (.inr (.inl e))),
  ⟨C.setIfInBounds (i * 4 + o) v, blk_put h6 _ v rfl, fun j hj => ?_⟩, fun j hj => ?_⟩
 ·by_cases hji : j = i
  ·subst hji
   show BkAt a _ j (upd s.bl j b j)
   rw [upd_same]; exact hv C (h7 j hj)
  ·show BkAt a _ j (upd s.bl i b j)
   rw [upd_other _ _ _ _ hji]
   obtain ⟨g1, g2, ⟨er, g3⟩, g4⟩ := h7 j hj
   refine ⟨?_, ?_, ⟨er, ?_⟩, ?_⟩ <;> rw [Array.getElem?_setIfInBounds_ne (by omega)] <;> assumption
 ·have hp : (upd s.bl i b j).pg = (s.bl j).pg := by
   by_cases hji : j = i
   ·subst hji; rw [upd_same]; exact hb
   ·rw [upd_other _ _ _ _ hji]
  show PgsAt _ ok (a.pr j) (upd s.bl i b j).pg
  rw [hp]
  refine (h8 j hj).keep ?_ (fun k hk hlt => hm.block k hlt (fun e => hok k hk (.inr (.inl e))))
  obtain ⟨D, hD, _⟩ := h8 j hj
  exact hm.block _ (blk_lt hD) (hf.pr_r j hj)
theorem bk_lt {a : Ar} {C : Array Value} {i : Nat} {b : Bk} (h : BkAt a C i b) : i * 4 + 3 < C.size := (Array.getElem?_eq_some_iff.1 h.2.2.2).1
theorem Arr.next {w : World} {a : Ar} {ok : Nat → Prop} {s : St} (hf : a.Fix) (hok : ∀ k, ok k → ¬ a.M k) (h : Arr w a ok s) (i : Nat) (hi : i < 16) (n : Nat) : Arr (w.setCell ⟨a.r, i * 4 + 1, none⟩ (.int .i64 (n : Int))) a ok { s with bl := upd s.bl i { s.bl i with nx := n } } :=
 h.row hf hok i 1 _ _ hi (by omega) rfl fun C hC => by
  have hl := bk_lt hC
  obtain ⟨g1, g2, ⟨er, g3⟩, g4⟩ := hC
  refine ⟨?_, ?_, ⟨er, ?_⟩, ?_⟩
  ·rw [Array.getElem?_setIfInBounds_ne (by omega)]; exact g1
  ·rw [Array.getElem?_setIfInBounds_self_of_lt (by omega)]
  ·rw [Array.getElem?_setIfInBounds_ne (by omega)]; exact g3
  ·rw [Array.getElem?_setIfInBounds_ne (by omega)]; exact g4
theorem Arr.count {w : World} {a : Ar} {ok : Nat → Prop} {s : St} (hf : a.Fix) (hok : ∀ k, ok k → ¬ a.M k) (h : Arr w a ok s) (i : Nat) (hi : i < 16) (x : Int) : Arr (w.setCell ⟨a.r, i * 4 + 2, none⟩ (.int .i64 x)) a ok s := by
 have h_ := h.row hf hok i 2 (.int .i64 x) (s.bl i) hi (by omega) rfl fun C hC => by
  have hl := bk_lt hC
  obtain ⟨g1, g2, ⟨er, g3⟩, g4⟩ := hC
  refine ⟨?_, ?_, ⟨x, ?_⟩, ?_⟩
  ·rw [Array.getElem?_setIfInBounds_ne (by omega)]; exact g1
  ·rw [Array.getElem?_setIfInBounds_ne (by omega)]; exact g2
  ·rw [Array.getElem?_setIfInBounds_self_of_lt (by omega)]
  ·rw [Array.getElem?_setIfInBounds_ne (by omega)]; exact g4
 have e : upd s.bl i (s.bl i) = s.bl := by funext j; unfold upd; split <;> simp_all
 rw [e] at h_
 exact h_
theorem Arr.spoil {w : World} {a : Ar} {ok : Nat → Prop} {s : St} (hf : a.Fix) (hok : ∀ k, ok k → ¬ a.M k) (h : Arr w a ok s) (i : Nat) (hi : i < 16) (b : Bool) : Arr (w.setCell ⟨a.r, i * 4 + 3, none⟩ (.bool b)) a ok { s with bl := upd s.bl i { s.bl i with bad := b } } :=
 h.row hf hok i 3 _ _ hi (by omega) rfl fun C hC => by
  have hl := bk_lt hC
  obtain ⟨g1, g2, ⟨er, g3⟩, g4⟩ := hC
  refine ⟨?_, ?_, ⟨er, ?_⟩, ?_⟩
  ·rw [Array.getElem?_setIfInBounds_ne (by omega)]; exact g1
  ·rw [Array.getElem?_setIfInBounds_ne (by omega)]; exact g2
  ·rw [Array.getElem?_setIfInBounds_ne (by omega)]; exact g3
  ·rw [Array.getElem?_setIfInBounds_self_of_lt (by omega)]
theorem Arr.page {w : World} {a : Ar} {ok : Nat → Prop} {s : St} (hf : a.Fix) (hok : ∀ k, ok k → ¬ a.M k) (h : Arr w a ok s) (i p : Nat) (hi : i < 16) (hp : p < 6) (v0 v1 : Value) (x : Option (List Int × List Int))
  (hx : ∀ D : Array Value, D[p * 2]? = some v0 → D[p * 2 + 1]? = some v1 → PgAt w ok D p x) : Arr ((w.setCell ⟨a.pr i, p * 2, none⟩ v0).setCell ⟨a.pr i, p * 2 + 1, none⟩ v1) a ok { s with bl := upd s.bl i { s.bl i with pg := upd (s.bl i).pg p x } } := by
 obtain ⟨h1, h2, h3, h4, h5, ⟨C, h6, h7⟩, h8⟩ := h
 have hm : Mods (fun k => k = a.pr i) w ((w.setCell ⟨a.pr i, p * 2, none⟩ v0).setCell ⟨a.pr i, p * 2 + 1, none⟩ v1) := Mods.at_ (S := fun k => k = a.pr i) (Mods.at_ (S := fun k => k = a.pr i) (Mods.refl _ w) (.inl rfl) _ _) (.inl rfl) _ _
 have hMi : a.M (a.pr i) := .inr (.inr ⟨i, hi, rfl⟩)
 refine ⟨hm.blk h1 (fun e => hf.pr_p i hi e.symm), hm.cell h2 (fun e => hf.q_M (by rw [show a.q = a.pr i from e]; exact hMi)), hm.cell h3 (fun e => hf.d_M (by rw [show a.dq = a.pr i from e]; exact hMi)), h4.mods hm (fun y hy e => hf.e_M y hy (by rw [show y.block = a.pr i from e]; exact hMi)), reads_posd h5 hm (fun y hy hp e => hf.l_M y hy hp (by rw [show y.block = a.pr i from e]; exact hMi)),
  ⟨C, hm.blk h6 (fun e => hf.pr_r i hi e.symm), fun j hj => ?_⟩, fun j hj => ?_⟩
 ·show BkAt a C j (upd s.bl i _ j)
  by_cases hji : j = i
  ·subst hji; rw [upd_same]; exact h7 j hj
  ·rw [upd_other _ _ _ _ hji]; exact h7 j hj
 ·show PgsAt _ ok (a.pr j) (upd s.bl i _ j).pg
  have hkp : ∀ k, ok k → k < w.heap.size → ((w.setCell ⟨a.pr i, p * 2, none⟩ v0).setCell ⟨a.pr i, p * 2 + 1, none⟩ v1).heap[k]? = w.heap[k]? := fun k hk hlt => hm.block k hlt (fun e => hok k hk (by rw [show k = a.pr i from e]; exact hMi))
  by_cases hji : j = i
  ·subst hji
   rw [upd_same]
   obtain ⟨D, hD, hs, hg⟩ := h8 j hj
   refine ⟨(D.setIfInBounds (p * 2) v0).setIfInBounds (p * 2 + 1) v1, blk_put (blk_put hD _ v0 rfl) _ v1 rfl, by simpa using hs, fun y hy => ?_⟩
   by_cases hyp : y = p
   ·subst hyp
    show PgAt _ ok _ y (upd (s.bl j).pg y x y)
    rw [upd_same]
    refine (hx _ ?_ ?_).keep hkp
    ·rw [Array.getElem?_setIfInBounds_ne (by omega), Array.getElem?_setIfInBounds_self_of_lt (by omega)]
    ·rw [Array.getElem?_setIfInBounds_self_of_lt (by simp; omega)]
   ·show PgAt _ ok _ y (upd (s.bl j).pg p x y)
    rw [upd_other _ _ _ _ hyp]
    have h_ := (hg y hy).keep hkp
    have e0 : ((D.setIfInBounds (p * 2) v0).setIfInBounds (p * 2 + 1) v1)[y * 2]? = D[y * 2]? := by rw [Array.getElem?_setIfInBounds_ne (by omega), Array.getElem?_setIfInBounds_ne (by omega)]
    have e1 : ((D.setIfInBounds (p * 2) v0).setIfInBounds (p * 2 + 1) v1)[y * 2 + 1]? = D[y * 2 + 1]? := by rw [Array.getElem?_setIfInBounds_ne (by omega), Array.getElem?_setIfInBounds_ne (by omega)]
    cases hz : (s.bl j).pg y with
    | none => rw [hz] at h_; exact ⟨e0.trans h_.1, e1.trans h_.2⟩
    | some z =>
     rw [hz] at h_
     obtain ⟨A, c, B, c', g1, g2, g3⟩ := h_
     exact ⟨A, c, B, c', e0.trans g1, e1.trans g2, g3⟩
  ·rw [upd_other _ _ _ _ hji]
   refine (h8 j hj).keep ?_ hkp
   obtain ⟨D, hD, _⟩ := h8 j hj
   exact hm.block _ (blk_lt hD) (hf.pr_i j i hj hi hji)
end Go.Proofs.Ytffalemndjampaa
end
