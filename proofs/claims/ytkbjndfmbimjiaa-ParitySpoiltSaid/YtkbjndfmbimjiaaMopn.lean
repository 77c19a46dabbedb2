import Derived.Test.YtkbjndfmbimjiaaMrd
import Derived.Test.YtkbjndfmbimjiaaFar2
import Derived.Test.YtkbjndfmbimjiaaFields
import Derived.Test.YtkbjndfmbimjiaaSum
import Derived.StillTailTactics
/-! record.Open's closure. -/
set_option linter.unusedVariables false
set_option linter.unusedSimpArgs false
namespace Go.Proofs.Ytkbjndfmbimjiaa
open Go.RowKit Go.Proofs.YtkbjndfmbimjiaaW.PrintWords Go.Proofs.YtkbjndfmbimjiaaW.PrintLast
theorem aU8_yes (p : Nat) (A : Option Addr) (m c : Nat) (k : Nat) (xs : List Int) (w : World) (h : RdV w p A m c k) (hr : ReadsInt w .u8 A m xs) (hb : Byt xs) (hc : m ≤ c) (hkn : k + 1 ≤ m) (hne : ∀ a, A = some a → a.block ≠ p) :
    Calls Try.prog 41 #[.pointer (some ⟨p, 0, none⟩)] w fun e w' => e = .returned (.int .u8 (at_ xs k 1)) ∧ RdV w' p A m c ((k + 1 : Nat) : Int) ∧ Mods (fun i => i = p) w w' := mU8_yes p A m c k xs w h hr hb hc hkn hne
theorem aU16_yes (p : Nat) (A : Option Addr) (m c : Nat) (k : Nat) (xs : List Int) (w : World) (h : RdV w p A m c k) (hr : ReadsInt w .u8 A m xs) (hb : Byt xs) (hc : m ≤ c) (hkn : k + 2 ≤ m) (hne : ∀ a, A = some a → a.block ≠ p) :
    Calls Try.prog 40 #[.pointer (some ⟨p, 0, none⟩)] w fun e w' => e = .returned (.int .u16 (at_ xs k 2)) ∧ RdV w' p A m c ((k + 2 : Nat) : Int) ∧ Mods (fun i => i = p) w w' := mU16_yes p A m c k xs w h hr hb hc hkn hne
theorem aU32_yes (p : Nat) (A : Option Addr) (m c : Nat) (k : Nat) (xs : List Int) (w : World) (h : RdV w p A m c k) (hr : ReadsInt w .u8 A m xs) (hb : Byt xs) (hc : m ≤ c) (hkn : k + 4 ≤ m) (hne : ∀ a, A = some a → a.block ≠ p) :
    Calls Try.prog 42 #[.pointer (some ⟨p, 0, none⟩)] w fun e w' => e = .returned (.int .u32 (at_ xs k 4)) ∧ RdV w' p A m c ((k + 4 : Nat) : Int) ∧ Mods (fun i => i = p) w w' := mU32_yes p A m c k xs w h hr hb hc hkn hne
/-- Where the reading stands. -/
def OpG (w : World) (p qh qk : Nat) (A : Option Addr) (m c : Nat) (k : Nat) (h : Hd) (W : World) : Prop :=
  RdV W p A m c (k : Int) ∧ Mods (fun i => i = p ∨ i = qh ∨ i = qk) w W ∧ W.heap[qh]? = some (.cells (hdC h) 35 (0, 0)) ∧ W.heap[qk]? = some (.cells #[.bool false] 4 (0, 0))
theorem OpG.step {w : World} {p qh qk : Nat} {A : Option Addr} {m c k k' : Nat} {h : Hd} {W W' : World} (g : OpG w p qh qk A m c k h W) (dn : qh ≠ p) (dr : qk ≠ p) (h1 : RdV W' p A m c (k' : Int)) (h2 : Mods (fun i => i = p) W W') : OpG w p qh qk A m c k' h W' :=
  ⟨h1, g.2.1.trans (h2.mono (fun i e => .inl e)), h2.blk g.2.2.1 dn, h2.blk g.2.2.2 dr⟩
theorem OpG.put {w : World} {p qh qk : Nat} {A : Option Addr} {m c k : Nat} {h h' : Hd} {W : World} (g : OpG w p qh qk A m c k h W) (dn : qh ≠ p) (dq : qk ≠ qh) (o : Nat) (v : Value) (e : (hdC h).setIfInBounds o v = hdC h') : OpG w p qh qk A m c k h' (W.setCell ⟨qh, o, none⟩ v) :=
  ⟨blk_far g.1 (p := ⟨qh, o, none⟩) (Ne.symm dn) v, g.2.1.at_ (.inl (.inr (.inl rfl))) o v, blk_put g.2.2.1 o v e, blk_far g.2.2.2 (p := ⟨qh, o, none⟩) dq v⟩
theorem OpG.below {w : World} {p qh qk : Nat} {A : Option Addr} {m c k : Nat} {h : Hd} {W W' : World} (g : OpG w p qh qk A m c k h W) (hd : Below W.heap.size W W') : OpG w p qh qk A m c k h W' :=
  ⟨blk_below g.1 hd, g.2.1.trans (Mods.of_below hd), blk_below g.2.2.1 hd, blk_below g.2.2.2 hd⟩
theorem Mods.reads0 {S : Nat → Prop} {w w1 : World} (h : Mods S w w1) {k : IntKind} {A : Option Addr} {n : Nat} {xs : List Int} (hr : ReadsInt w k A n xs) (hs : ∀ a, 0 < n → A = some a → ¬ S a.block) : ReadsInt w1 k A n xs := by
  rcases Nat.eq_zero_or_pos n with h0 | h0
  · exact ⟨hr.1, hr.2.1, fun h => by omega⟩
  · exact h.reads hr (fun a ha => hs a h0 ha)
/-- What the closure leaves. -/
def OpS (w : World) (p qh qk : Nat) (h : Hd) (b : Bool) (e : Ending) (w' : World) : Prop :=
  Mods (fun i => i = p ∨ i = qh ∨ i = qk) w w' ∧ e = .returned (.tuple #[]) ∧ w'.heap[qh]? = some (.cells (hdC h) 35 (0, 0)) ∧ w'.heap[qk]? = some (.cells #[.bool b] 4 (0, 0))
theorem OpG.end_ {w : World} {p qh qk : Nat} {A : Option Addr} {m c k : Nat} {h : Hd} {W : World} (g : OpG w p qh qk A m c k h W) (dq : qk ≠ qh) (b : Bool) : OpS w p qh qk h b (.returned (.tuple #[])) (W.setCell ⟨qk, 0, none⟩ (.bool b)) :=
  ⟨g.2.1.at_ (.inl (.inr (.inr rfl))) 0 _, rfl, blk_far g.2.2.1 (p := ⟨qk, 0, none⟩) (Ne.symm dq) _, blk_put g.2.2.2 0 _ (by simp)⟩
theorem OpS.drew {w : World} {p qh qk : Nat} {h : Hd} {b : Bool} {e : Ending} {W : World} (g : OpS w p qh qk h b e W) : OpS w p qh qk h b e W.drew :=
  ⟨⟨g.1.os, g.1.tape, g.1.output, g.1.size, g.1.block⟩, g.2.1, g.2.2.1, g.2.2.2⟩
def RopR.T8 : Bool × List (List Nat × List Nat) := (true, [([], []), ([0], [0]), ([1], [1]), ([2], [2]), ([3, 2], [2, 3]), ([2, 4], [2, 4]), ([5, 2], [5]), ([6], [6]), ([7, 6], [6, 7]), ([6, 8], [6, 8]), ([9, 6], [9]), ([10], [10]), ([10], [10]), ([12, 10], [10, 12]), ([10], [10]), ([10], [10]), ([15, 10], [10, 15]), ([13, 14, 16, 10], [10, 13, 14, 16]), ([17, 10, 10], [10, 17]), ([11, 18, 10], [10, 11, 18]), ([10, 19], [10, 19]), ([20, 18, 0, 1, 2, 3, 4, 5, 6, 7, 8, 9, 10, 11, 12, 13, 14, 15, 16, 17, 18, 19, 20], [20])])
def RopR.B8 : List Nat := [0, 1, 3, 7, 15, 31, 63, 127, 255, 511, 1023, 2047, 2047, 6143, 2047, 2047, 34815, 129023, 260095, 524287, 1048575, 2097151]
theorem RopR.tab8 : rtab .any (opsOf Try.f39 8) = RopR.T8 := by kernel_rfl
theorem RopR.bits8 : waitsOk RopR.T8.2 RopR.B8 = true := by kernel_rfl
set_option maxHeartbeats 8000000 in
set_option maxRecDepth 100000 in
theorem op1_any (p qh qo qd qk : Nat) (A B : Option Addr) (c n d : Nat) (xs ys : List Int) (w : World) (h : RdV w p A 64 c ((0 : Nat) : Int)) (hr : ReadsInt w .u8 A 64 xs) (hb : Byt xs) (hc : 64 ≤ c) (hs : ReadsInt w .u8 B n ys) (by_ : Byt ys) (hd : n ≤ d)
    (hne : ∀ a, A = some a → a.block ≠ p ∧ a.block ≠ qh ∧ a.block ≠ qk) (hne2 : 0 < n → ∀ a, B = some a → a.block ≠ p ∧ a.block ≠ qh ∧ a.block ≠ qk)
    (ho : w.heap[qo]? = some (.cells #[.slice A 64 c] 24 (0, 0))) (hdd : w.heap[qd]? = some (.cells #[.slice B n d] 24 (0, 0)))
    (hn : w.heap[qh]? = some (.cells (hdC hd0) 35 (0, 0))) (hq : w.heap[qk]? = some (.cells #[.bool false] 4 (0, 0))) (dn : qh ≠ p) (dr : qk ≠ p) (dq : qk ≠ qh) (do_ : qo ≠ p ∧ qo ≠ qh ∧ qo ≠ qk) (dd : qd ≠ p ∧ qd ≠ qh ∧ qd ≠ qk) :
    Calls Try.prog 39 #[.pointer (some ⟨p, 0, none⟩), .pointer (some ⟨qh, 0, none⟩), .pointer (some ⟨qo, 0, none⟩), .pointer (some ⟨qd, 0, none⟩), .pointer (some ⟨qk, 0, none⟩)] w (OpS w p qh qk (openH xs) (rightO ys xs)) := by
  have HL := Lib.hid hr.1
  have HX := Lib.hid (And.intro hr (And.intro hb (And.intro (show ∀ a, A = some a → ¬ (a.block = p ∨ a.block = qh ∨ a.block = qk) from fun a ha e => by have h_ := hne a ha; omega) (show ∀ a, A = some a → a.block ≠ p from fun a ha => (hne a ha).1))))
  have HY := Lib.hid (And.intro hs (And.intro by_ (show ∀ a, 0 < n → B = some a → ¬ (a.block = p ∨ a.block = qh ∨ a.block = qk) from fun a h0 ha e => by have h_ := hne2 h0 a ha; omega)))
  have HB := Lib.hid (And.intro ho (And.intro hdd (And.intro (show ¬ (qo = p ∨ qo = qh ∨ qo = qk) by omega) (show ¬ (qd = p ∨ qd = qh ∨ qd = qk) by omega))))
  have G := Lib.hid (show OpG w p qh qk A 64 c 0 hd0 w from ⟨h, Mods.refl _ w, hn, hq⟩)
  clear h hr hb hne hne2 hn hq hs by_ ho hdd do_ dd
  go_enter Try.func39, Try.ntmps39
  go_wp2_with fail
  refine (aU16_yes p A 64 c 0 xs _ G.out.1 (G.out.2.1.reads HX.out.1 HX.out.2.2.1) HX.out.2.1 hc (by omega) HX.out.2.2.2).mono ?_
  rintro e w1 ⟨rfl, h1, h2⟩
  have G_ := G.out.step dn dr h1 h2
  clear G h1 h2
  have G := Lib.hid G_
  clear G_
  go_wp2_with fail
  refine (aU8_yes p A 64 c 2 xs _ G.out.1 (G.out.2.1.reads HX.out.1 HX.out.2.2.1) HX.out.2.1 hc (by omega) HX.out.2.2.2).mono ?_
  rintro e w2 ⟨rfl, h1, h2⟩
  have G_ := G.out.step dn dr h1 h2
  clear G h1 h2
  have G := Lib.hid G_
  clear G_
  have z0 := (blk_cell G.out.2.2.1 0).trans rfl
  have f0 := blk_frozen G.out.2.2.1 0
  go_wp2_with fail
  have G_ := G.out.put dn dq 0 (.int .u8 (at_ xs 2 1)) (h' := ⟨at_ xs 2 1, 0, 0, 0, 0, 0, 0⟩) (by simp [hdC, hd0])
  clear G
  have G := Lib.hid G_
  clear G_
  clear z0 f0
  refine (aU8_yes p A 64 c 3 xs _ G.out.1 (G.out.2.1.reads HX.out.1 HX.out.2.2.1) HX.out.2.1 hc (by omega) HX.out.2.2.2).mono ?_
  rintro e w3 ⟨rfl, h1, h2⟩
  have G_ := G.out.step dn dr h1 h2
  clear G h1 h2
  have G := Lib.hid G_
  clear G_
  go_wp2_with fail
  refine (aU32_yes p A 64 c 4 xs _ G.out.1 (G.out.2.1.reads HX.out.1 HX.out.2.2.1) HX.out.2.1 hc (by omega) HX.out.2.2.2).mono ?_
  rintro e w4 ⟨rfl, h1, h2⟩
  have G_ := G.out.step dn dr h1 h2
  clear G h1 h2
  have G := Lib.hid G_
  clear G_
  go_wp2_with fail
  refine (aU32_yes p A 64 c 8 xs _ G.out.1 (G.out.2.1.reads HX.out.1 HX.out.2.2.1) HX.out.2.1 hc (by omega) HX.out.2.2.2).mono ?_
  rintro e w5 ⟨rfl, h1, h2⟩
  have G_ := G.out.step dn dr h1 h2
  clear G h1 h2
  have G := Lib.hid G_
  clear G_
  have z1 := (blk_cell G.out.2.2.1 1).trans rfl
  have f1 := blk_frozen G.out.2.2.1 1
  have z2 := (blk_cell G.out.2.2.1 2).trans rfl
  have f2 := blk_frozen G.out.2.2.1 2
  go_wp2_with fail
  have G_ := G.out.put dn dq 1 (.int .u32 (at_ xs 4 4)) (h' := ⟨at_ xs 2 1, at_ xs 4 4, 0, 0, 0, 0, 0⟩) (by simp [hdC, hd0])
  clear G
  have G := Lib.hid G_
  clear G_
  clear z1 f1
  have G_ := G.out.put dn dq 2 (.int .u32 (at_ xs 8 4)) (h' := ⟨at_ xs 2 1, at_ xs 4 4, at_ xs 8 4, 0, 0, 0, 0⟩) (by simp [hdC, hd0])
  clear G
  have G := Lib.hid G_
  clear G_
  clear z2 f2
  refine (aU16_yes p A 64 c 12 xs _ G.out.1 (G.out.2.1.reads HX.out.1 HX.out.2.2.1) HX.out.2.1 hc (by omega) HX.out.2.2.2).mono ?_
  rintro e w6 ⟨rfl, h1, h2⟩
  have G_ := G.out.step dn dr h1 h2
  clear G h1 h2
  have G := Lib.hid G_
  clear G_
  go_wp2_with fail
  refine (aU16_yes p A 64 c 14 xs _ G.out.1 (G.out.2.1.reads HX.out.1 HX.out.2.2.1) HX.out.2.1 hc (by omega) HX.out.2.2.2).mono ?_
  rintro e w7 ⟨rfl, h1, h2⟩
  have G_ := G.out.step dn dr h1 h2
  clear G h1 h2
  have G := Lib.hid G_
  clear G_
  have z3 := (blk_cell G.out.2.2.1 3).trans rfl
  have f3 := blk_frozen G.out.2.2.1 3
  have z4 := (blk_cell G.out.2.2.1 4).trans rfl
  have f4 := blk_frozen G.out.2.2.1 4
  go_wp2_with fail
  have G_ := G.out.put dn dq 3 (.int .u16 (at_ xs 12 2)) (h' := ⟨at_ xs 2 1, at_ xs 4 4, at_ xs 8 4, at_ xs 12 2, 0, 0, 0⟩) (by simp [hdC, hd0])
  clear G
  have G := Lib.hid G_
  clear G_
  clear z3 f3
  have G_ := G.out.put dn dq 4 (.int .u16 (at_ xs 14 2)) (h' := ⟨at_ xs 2 1, at_ xs 4 4, at_ xs 8 4, at_ xs 12 2, at_ xs 14 2, 0, 0⟩) (by simp [hdC, hd0])
  clear G
  have G := Lib.hid G_
  clear G_
  clear z4 f4
  refine (aU32_yes p A 64 c 16 xs _ G.out.1 (G.out.2.1.reads HX.out.1 HX.out.2.2.1) HX.out.2.1 hc (by omega) HX.out.2.2.2).mono ?_
  rintro e w8 ⟨rfl, h1, h2⟩
  have G_ := G.out.step dn dr h1 h2
  clear G h1 h2
  have G := Lib.hid G_
  clear G_
  go_wp2_with fail
  refine (aU32_yes p A 64 c 20 xs _ G.out.1 (G.out.2.1.reads HX.out.1 HX.out.2.2.1) HX.out.2.1 hc (by omega) HX.out.2.2.2).mono ?_
  rintro e w9 ⟨rfl, h1, h2⟩
  have G_ := G.out.step dn dr h1 h2
  clear G h1 h2
  have G := Lib.hid G_
  clear G_
  have z5 := (blk_cell G.out.2.2.1 5).trans rfl
  have f5 := blk_frozen G.out.2.2.1 5
  have z6 := (blk_cell G.out.2.2.1 6).trans rfl
  have f6 := blk_frozen G.out.2.2.1 6
  go_wp2_with fail
  have G_ := G.out.put dn dq 5 (.int .u32 (at_ xs 16 4)) (h' := ⟨at_ xs 2 1, at_ xs 4 4, at_ xs 8 4, at_ xs 12 2, at_ xs 14 2, at_ xs 16 4, 0⟩) (by simp [hdC, hd0])
  clear G
  have G := Lib.hid G_
  clear G_
  clear z5 f5
  have G_ := G.out.put dn dq 6 (.int .u32 (at_ xs 20 4)) (h' := ⟨at_ xs 2 1, at_ xs 4 4, at_ xs 8 4, at_ xs 12 2, at_ xs 14 2, at_ xs 16 4, at_ xs 20 4⟩) (by simp [hdC, hd0])
  clear G
  have G := Lib.hid G_
  clear G_
  clear z6 f6
  refine (aU32_yes p A 64 c 24 xs _ G.out.1 (G.out.2.1.reads HX.out.1 HX.out.2.2.1) HX.out.2.1 hc (by omega) HX.out.2.2.2).mono ?_
  rintro e w10 ⟨rfl, h1, h2⟩
  have G_ := G.out.step dn dr h1 h2
  clear G h1 h2
  have G := Lib.hid G_
  clear G_
  go_wp2_with fail
  refine (aU32_yes p A 64 c 28 xs _ G.out.1 (G.out.2.1.reads HX.out.1 HX.out.2.2.1) HX.out.2.1 hc (by omega) HX.out.2.2.2).mono ?_
  rintro e w11 ⟨rfl, h1, h2⟩
  have G_ := G.out.step dn dr h1 h2
  clear G h1 h2
  have G := Lib.hid G_
  clear G_
  have fr := blk_frozen G.out.2.2.2 0
  have zr := (blk_cell G.out.2.2.2 0).trans rfl
  go_wp2_with fail
  have HRT_ : rightO ys xs = (at_ xs 0 2 == 22356 && (at_ xs 3 1 == 0 && (at_ xs 28 4 == 0 && at_ xs 24 4 == crcOf (xs.take 24 ++ ys ++ xs.drop 32)))) := rfl
  generalize at_ xs 0 2 = mg at HRT_ ⊢
  generalize at_ xs 3 1 = zz at HRT_ ⊢
  generalize at_ xs 28 4 = rr at HRT_ ⊢
  generalize at_ xs 24 4 = oo at HRT_ ⊢
  by_cases hmg : mg = 22356
  · subst hmg
    by_cases hzz : zz = 0
    · subst hzz
      by_cases hrr : rr = 0
      · subst hrr
        obtain ⟨a0, rfl, -⟩ := HX.out.1.2.2 (by omega)
        have hss : crcOf (ll [⟨(some a0), c, xs.take 24⟩, ⟨B, d, ys⟩, ⟨(some (a0.add 32)), c - 32, xs.drop 32⟩]).flatten = crcOf (xs.take 24 ++ ys ++ xs.drop 32) := by simp [ll]
        generalize crcOf (xs.take 24 ++ ys ++ xs.drop 32) = ss at HRT_ hss
        have HSS := Lib.hid hss
        have HE : Hid (rightO ys xs = (oo == ss)) := Lib.hid (by rw [HRT_]; simp)
        have RR := Lib.hid (show (∀ W, OpG w p qh qk (some a0) 64 c 32 (openH xs) W → ReadsInt W .u8 (some a0) 24 (xs.take 24)) ∧ (∀ W, OpG w p qh qk (some a0) 64 c 32 (openH xs) W → ReadsInt W .u8 B n ys) ∧ (∀ W, OpG w p qh qk (some a0) 64 c 32 (openH xs) W → ReadsInt W .u8 (some (a0.add 32)) 32 (xs.drop 32)) ∧ Byt (xs.take 24) ∧ Byt (xs.drop 32) from
          ⟨fun W g => (g.2.1.reads HX.out.1 HX.out.2.2.1).take_ 24 (by omega), fun W g => g.2.1.reads0 HY.out.1 HY.out.2.2, fun W g => by
            have h_ := (g.2.1.reads HX.out.1 HX.out.2.2.1).drop_ 32 (by omega) hc
            rw [if_neg (by omega)] at h_
            exact h_, fun x hx => HX.out.2.1 x (List.take_subset _ _ hx), fun x hx => HX.out.2.1 x (List.drop_subset _ _ hx)⟩)
        have GG := Lib.hid (show OpG w p qh qk (some a0) 64 c 32 (openH xs) w11 from G.out)
        clear HRT_ hss G fr zr HX HL
        refine start_ (n := 22) (S := fun w' => True) (ds := []) #[false, false, false, false, false, false, false, false, false, false, false, false, false, false, false, false, false, false, false, false, false, false] (by kernel_rfl) rfl rfl trivial (fun hHeld => ?_)
        refine with_tabW RopR.tab8 RopR.bits8 (fun HT_ HW_ => ?_)
        have GG := Lib.hid (GG.out.below (bl_drew (Below.refl _ _)))
        generalize w11.drew = w12 at GG hHeld ⊢
        refine pure_ (i := 0) (N := some 39) (v := ?_) (a' := ?_) #[true, false, false, false, false, false, false, false, false, false, false, false, false, false, false, false, false, false, false, false, false, false] rfl rfl (any_of HT_.out (by kernel_rfl)) (fun _ _ _ h => h) (Or.inl ⟨by rfl, ?_⟩) ?_ ?_
        rotate_left
        · intro w'
          go_simp
          with_reducible rfl
        rotate_left
        · simp only [Act.put, List.setIfInBounds_toArray, List.set_cons_zero, List.set_cons_succ, i64_w, i32_w]
          rfl
        refine pure_ (i := 1) (N := some 40) (v := ?_) (a' := ?_) #[true, true, false, false, false, false, false, false, false, false, false, false, false, false, false, false, false, false, false, false, false, false] rfl rfl (any_of HT_.out (by kernel_rfl)) (fun _ _ _ h => h) (Or.inl ⟨by rfl, ?_⟩) ?_ ?_
        rotate_left
        · intro w'
          go_simp
          with_reducible rfl
        rotate_left
        · simp only [Act.put, List.setIfInBounds_toArray, List.set_cons_zero, List.set_cons_succ, i64_w, i32_w]
          rfl
        refine pure_ (i := 2) (N := some 41) (v := ?_) (a' := ?_) #[true, true, true, false, false, false, false, false, false, false, false, false, false, false, false, false, false, false, false, false, false, false] rfl rfl (any_of HT_.out (by kernel_rfl)) (fun _ _ _ h => h) (Or.inl ⟨by rfl, ?_⟩) ?_ ?_
        rotate_left
        · intro w'
          go_simp
          with_reducible rfl
        rotate_left
        · simp only [Act.put, List.setIfInBounds_toArray, List.set_cons_zero, List.set_cons_succ, i64_w, i32_w]
          rfl
        refine pure_ (i := 3) (N := some 42) (v := ?_) (a' := ?_) #[true, true, true, true, false, false, false, false, false, false, false, false, false, false, false, false, false, false, false, false, false, false] rfl rfl (any_of HT_.out (by kernel_rfl)) (fun _ _ _ h => h) (Or.inl ⟨by rfl, ?_⟩) ?_ ?_
        rotate_left
        · intro w'
          go_simp
          with_reducible rfl
        rotate_left
        · simp only [Act.put, List.setIfInBounds_toArray, List.set_cons_zero, List.set_cons_succ, i64_w, i32_w]
          rfl
        refine pure_ (i := 4) (N := some 43) (v := ?_) (a' := ?_) #[true, true, true, true, true, false, false, false, false, false, false, false, false, false, false, false, false, false, false, false, false, false] rfl rfl (any_of HT_.out (by kernel_rfl)) (fun _ _ _ h => h) (Or.inl ⟨by rfl, ?_⟩) ?_ ?_
        rotate_left
        · intro w'
          go_simp
          with_reducible rfl
        rotate_left
        · simp only [Act.put, List.setIfInBounds_toArray, List.set_cons_zero, List.set_cons_succ, i64_w, i32_w]
          rfl
        refine pure_ (i := 5) (N := some 44) (v := ?_) (a' := ?_) #[true, true, true, true, true, true, false, false, false, false, false, false, false, false, false, false, false, false, false, false, false, false] rfl rfl (any_of HT_.out (by kernel_rfl)) (fun _ _ _ h => h) (Or.inl ⟨by rfl, ?_⟩) ?_ ?_
        rotate_left
        · intro w'
          go_simp
          with_reducible rfl
        rotate_left
        · simp only [Act.put, List.setIfInBounds_toArray, List.set_cons_zero, List.set_cons_succ, i64_w, i32_w]
          rfl
        refine pure_ (i := 6) (N := some 45) (v := ?_) (a' := ?_) #[true, true, true, true, true, true, true, false, false, false, false, false, false, false, false, false, false, false, false, false, false, false] rfl rfl (any_of HT_.out (by kernel_rfl)) (fun _ _ _ h => h) (Or.inl ⟨by rfl, ?_⟩) ?_ ?_
        rotate_left
        · intro w'
          go_simp
          with_reducible rfl
        rotate_left
        · simp only [Act.put, List.setIfInBounds_toArray, List.set_cons_zero, List.set_cons_succ, i64_w, i32_w]
          rfl
        refine pure_ (i := 7) (N := some 46) (v := ?_) (a' := ?_) #[true, true, true, true, true, true, true, true, false, false, false, false, false, false, false, false, false, false, false, false, false, false] rfl rfl (any_of HT_.out (by kernel_rfl)) (fun _ _ _ h => h) (Or.inl ⟨by rfl, ?_⟩) ?_ ?_
        rotate_left
        · intro w'
          go_simp
          with_reducible rfl
        rotate_left
        · simp only [Act.put, List.setIfInBounds_toArray, List.set_cons_zero, List.set_cons_succ, i64_w, i32_w]
          rfl
        refine pure_ (i := 8) (N := some 47) (v := ?_) (a' := ?_) #[true, true, true, true, true, true, true, true, true, false, false, false, false, false, false, false, false, false, false, false, false, false] rfl rfl (any_of HT_.out (by kernel_rfl)) (fun _ _ _ h => h) (Or.inl ⟨by rfl, ?_⟩) ?_ ?_
        rotate_left
        · intro w'
          go_simp
          with_reducible rfl
        rotate_left
        · simp only [Act.put, List.setIfInBounds_toArray, List.set_cons_zero, List.set_cons_succ, i64_w, i32_w]
          rfl
        refine pure_ (i := 9) (N := some 48) (v := ?_) (a' := ?_) #[true, true, true, true, true, true, true, true, true, true, false, false, false, false, false, false, false, false, false, false, false, false] rfl rfl (any_of HT_.out (by kernel_rfl)) (fun _ _ _ h => h) (Or.inl ⟨by rfl, ?_⟩) ?_ ?_
        rotate_left
        · intro w'
          go_simp
          with_reducible rfl
        rotate_left
        · simp only [Act.put, List.setIfInBounds_toArray, List.set_cons_zero, List.set_cons_succ, i64_w, i32_w]
          rfl
        refine pure_ (i := 10) (N := some 49) (v := ?_) (a' := ?_) #[true, true, true, true, true, true, true, true, true, true, true, false, false, false, false, false, false, false, false, false, false, false] rfl rfl (any_of HT_.out (by kernel_rfl)) (fun _ _ _ h => h) (Or.inl ⟨by rfl, ?_⟩) ?_ ?_
        rotate_left
        · intro w'
          go_simp
          with_reducible rfl
        rotate_left
        · simp only [Act.put, List.setIfInBounds_toArray, List.set_cons_zero, List.set_cons_succ, i64_w, i32_w]
          rfl
        refine pure_ (i := 11) (N := some 50) (v := ?_) (a' := ?_) #[true, true, true, true, true, true, true, true, true, true, true, true, false, false, false, false, false, false, false, false, false, false] rfl rfl (any_of HT_.out (by kernel_rfl)) (fun _ _ _ h => h) (Or.inl ⟨by rfl, ?_⟩) ?_ ?_
        rotate_left
        · intro w'
          go_simp
          with_reducible rfl
        rotate_left
        · simp only [Act.put, List.setIfInBounds_toArray, List.set_cons_zero, List.set_cons_succ, i64_w, i32_w]
          rfl
        refine inv_at [12, 13, 14, 15, 16, 17, 18, 19, 20, 21] (fun a0_ b a w' => ∃ (b17 : Nat) (m17_ : Value), a = putSel a0_ b [(12, 51, .slice (some a0) 64 c), (13, 52, .slice (some a0) 24 c), (14, 53, .slice B n d), (15, 54, .slice (some a0) 64 c), (16, 55, .slice (some (a0.add 32)) 32 (c - 32)), (17, 56, m17_), (18, 57, .int .u32 ss), (19, 58, .bool (oo == ss)), (20, 59, .bool (oo == ss))] ∧ (b 21 = false → OpG w p qh qk (some a0) 64 c 32 (openH xs) w') ∧ (b 17 = true → b 18 = false → w'.heap[b17]? = some (.cells #[.slice (some a0) 24 c, .slice B n d, .slice (some (a0.add 32)) 32 (c - 32)] 24 (0, 0))) ∧ (b 21 = true → OpS w p qh qk (openH xs) (oo == ss) (.returned (.tuple #[])) w') ∧ (b 17 = true → (m17_ : Value) = .slice (some ⟨b17, 0, none⟩) 3 3)) HT_.out HW_.out (by kernel_rfl) (by kernel_rfl) ?_ ?_ ?_
        · exact ⟨0, .bool false, by simp only [putSel, Bool.false_eq_true, if_false], fun _ => GG.out, fun h_ => absurd h_ (by decide), fun h_ => absurd h_ (by decide), fun h_ => absurd h_ (by decide)⟩
        · skip
          clear GG
          refine steps_cons ?_ ?_
          · rintro b a w' ⟨b17, m17_, ha, Q_GG, Q_H17, Q_FS, Q_X17_⟩ hb_ hon hoff
            refine ⟨_, rfl, fun K hK => ?_⟩
            have e2 : a.tmps[2]? = some (.pointer (some ⟨qo, 0, none⟩)) := by rw [ha]; exact (putSel_off rfl).trans rfl
            have e49 : a.tmps[49]? = some (.bool true) := by rw [ha]; exact (putSel_off rfl).trans rfl
            replace ha := Aside0.mk ha
            have GG := Aside0.mk (Q_GG (hoff 21 (by kernel_rfl)))
            have hc_ : w'.cell? ⟨qo, 0, none⟩ = some (.slice (some a0) 64 c) := (blk_cell (GG.out.2.1.blk HB.out.1 HB.out.2.2.1) 0).trans rfl
            refine value_ (w1 := w') (v := .slice (some a0) 64 c) (wanted_on rfl rfl rfl (e49.trans (by first | rfl | (simp [*]; done)))) rfl ?_ ?_
            · go_simp
              (try simp only [i64_w])
              try rfl
            refine hK.out _ _ ⟨b17, m17_, (by rw [ha.out]; exact putSel_upk 0 hb_ rfl rfl rfl), Q_GG, fun h0_ _ => absurd ((hoff 17 (by kernel_rfl)).symm.trans h0_) (by decide), fun h0_ => absurd ((hoff 21 (by kernel_rfl)).symm.trans h0_) (by decide), fun h0_ => absurd ((hoff 17 (by kernel_rfl)).symm.trans h0_) (by decide)⟩
          refine steps_cons ?_ ?_
          · rintro b a w' ⟨b17, m17_, ha, Q_GG, Q_H17, Q_FS, Q_X17_⟩ hb_ hon hoff
            refine ⟨_, rfl, fun K hK => ?_⟩
            have e51 : a.tmps[51]? = some (.slice (some a0) 64 c) := by rw [ha]; exact putSel_on (e := (12, 51, .slice (some a0) 64 c)) 0 rfl rfl (hon 12 (by kernel_rfl)) rfl
            have e49 : a.tmps[49]? = some (.bool true) := by rw [ha]; exact (putSel_off rfl).trans rfl
            replace ha := Aside0.mk ha
            have GG := Aside0.mk (Q_GG (hoff 21 (by kernel_rfl)))
            refine value_ (w1 := w') (v := .slice (some a0) 24 c) (wanted_on rfl rfl rfl (e49.trans (by first | rfl | (simp [*]; done)))) rfl ?_ ?_
            · go_simp
              intro h_
              exact absurd h_ (by omega)
            refine hK.out _ _ ⟨b17, m17_, (by rw [ha.out]; exact putSel_upk 1 hb_ rfl rfl rfl), fun _ => GG.out, fun h0_ _ => absurd ((hoff 17 (by kernel_rfl)).symm.trans h0_) (by decide), fun h0_ => absurd ((hoff 21 (by kernel_rfl)).symm.trans h0_) (by decide), fun h0_ => absurd ((hoff 17 (by kernel_rfl)).symm.trans h0_) (by decide)⟩
          refine steps_cons ?_ ?_
          · rintro b a w' ⟨b17, m17_, ha, Q_GG, Q_H17, Q_FS, Q_X17_⟩ hb_ hon hoff
            refine ⟨_, rfl, fun K hK => ?_⟩
            have e3 : a.tmps[3]? = some (.pointer (some ⟨qd, 0, none⟩)) := by rw [ha]; exact (putSel_off rfl).trans rfl
            have e49 : a.tmps[49]? = some (.bool true) := by rw [ha]; exact (putSel_off rfl).trans rfl
            replace ha := Aside0.mk ha
            have GG := Aside0.mk (Q_GG (hoff 21 (by kernel_rfl)))
            have hc_ : w'.cell? ⟨qd, 0, none⟩ = some (.slice B n d) := (blk_cell (GG.out.2.1.blk HB.out.2.1 HB.out.2.2.2) 0).trans rfl
            refine value_ (w1 := w') (v := .slice B n d) (wanted_on rfl rfl rfl (e49.trans (by first | rfl | (simp [*]; done)))) rfl ?_ ?_
            · go_simp
              (try simp only [i64_w])
              try rfl
            refine hK.out _ _ ⟨b17, m17_, (by rw [ha.out]; exact putSel_upk 2 hb_ rfl rfl rfl), Q_GG, fun h0_ _ => absurd ((hoff 17 (by kernel_rfl)).symm.trans h0_) (by decide), fun h0_ => absurd ((hoff 21 (by kernel_rfl)).symm.trans h0_) (by decide), fun h0_ => absurd ((hoff 17 (by kernel_rfl)).symm.trans h0_) (by decide)⟩
          refine steps_cons ?_ ?_
          · rintro b a w' ⟨b17, m17_, ha, Q_GG, Q_H17, Q_FS, Q_X17_⟩ hb_ hon hoff
            refine ⟨_, rfl, fun K hK => ?_⟩
            have e2 : a.tmps[2]? = some (.pointer (some ⟨qo, 0, none⟩)) := by rw [ha]; exact (putSel_off rfl).trans rfl
            have e49 : a.tmps[49]? = some (.bool true) := by rw [ha]; exact (putSel_off rfl).trans rfl
            replace ha := Aside0.mk ha
            have GG := Aside0.mk (Q_GG (hoff 21 (by kernel_rfl)))
            have hc_ : w'.cell? ⟨qo, 0, none⟩ = some (.slice (some a0) 64 c) := (blk_cell (GG.out.2.1.blk HB.out.1 HB.out.2.2.1) 0).trans rfl
            refine value_ (w1 := w') (v := .slice (some a0) 64 c) (wanted_on rfl rfl rfl (e49.trans (by first | rfl | (simp [*]; done)))) rfl ?_ ?_
            · go_simp
              (try simp only [i64_w])
              try rfl
            refine hK.out _ _ ⟨b17, m17_, (by rw [ha.out]; exact putSel_upk 3 hb_ rfl rfl rfl), Q_GG, fun h0_ _ => absurd ((hoff 17 (by kernel_rfl)).symm.trans h0_) (by decide), fun h0_ => absurd ((hoff 21 (by kernel_rfl)).symm.trans h0_) (by decide), fun h0_ => absurd ((hoff 17 (by kernel_rfl)).symm.trans h0_) (by decide)⟩
          refine steps_cons ?_ ?_
          · rintro b a w' ⟨b17, m17_, ha, Q_GG, Q_H17, Q_FS, Q_X17_⟩ hb_ hon hoff
            refine ⟨_, rfl, fun K hK => ?_⟩
            have e54 : a.tmps[54]? = some (.slice (some a0) 64 c) := by rw [ha]; exact putSel_on (e := (15, 54, .slice (some a0) 64 c)) 3 rfl rfl (hon 15 (by kernel_rfl)) rfl
            have e49 : a.tmps[49]? = some (.bool true) := by rw [ha]; exact (putSel_off rfl).trans rfl
            replace ha := Aside0.mk ha
            have GG := Aside0.mk (Q_GG (hoff 21 (by kernel_rfl)))
            refine value_ (w1 := w') (v := .slice (some (a0.add 32)) 32 (c - 32)) (wanted_on rfl rfl rfl (e49.trans (by first | rfl | (simp [*]; done)))) rfl ?_ ?_
            · go_simp
              intro h_
              exact absurd h_ (by omega)
            refine hK.out _ _ ⟨b17, m17_, (by rw [ha.out]; exact putSel_upk 4 hb_ rfl rfl rfl), fun _ => GG.out, fun h0_ _ => absurd ((hoff 17 (by kernel_rfl)).symm.trans h0_) (by decide), fun h0_ => absurd ((hoff 21 (by kernel_rfl)).symm.trans h0_) (by decide), fun h0_ => absurd ((hoff 17 (by kernel_rfl)).symm.trans h0_) (by decide)⟩
          refine steps_cons ?_ ?_
          · rintro b a w' ⟨b17, m17_, ha, Q_GG, Q_H17, Q_FS, Q_X17_⟩ hb_ hon hoff
            refine ⟨_, rfl, fun K hK => ?_⟩
            have e52 : a.tmps[52]? = some (.slice (some a0) 24 c) := by rw [ha]; exact putSel_on (e := (13, 52, .slice (some a0) 24 c)) 1 rfl rfl (hon 13 (by kernel_rfl)) rfl
            have e53 : a.tmps[53]? = some (.slice B n d) := by rw [ha]; exact putSel_on (e := (14, 53, .slice B n d)) 2 rfl rfl (hon 14 (by kernel_rfl)) rfl
            have e55 : a.tmps[55]? = some (.slice (some (a0.add 32)) 32 (c - 32)) := by rw [ha]; exact putSel_on (e := (16, 55, .slice (some (a0.add 32)) 32 (c - 32))) 4 rfl rfl (hon 16 (by kernel_rfl)) rfl
            have e49 : a.tmps[49]? = some (.bool true) := by rw [ha]; exact (putSel_off rfl).trans rfl
            replace ha := Aside0.mk ha
            have GG := Aside0.mk (Q_GG (hoff 21 (by kernel_rfl)))
            refine value_ (w1 := w'.alloc (.cells #[.slice (some a0) 24 c, .slice B n d, .slice (some (a0.add 32)) 32 (c - 32)] 24)) (v := .slice (some ⟨w'.heap.size, 0, none⟩) 3 3) (wanted_on rfl rfl rfl (e49.trans (by first | rfl | (simp [*]; done)))) rfl ?_ ?_
            · go_simp
              try rfl
            refine hK.out _ _ ⟨w'.heap.size, (.slice (some ⟨w'.heap.size, 0, none⟩) 3 3), (by rw [ha.out]; exact putSel_upk 5 hb_ rfl rfl rfl), fun _ => GG.out.below (bl_alloc (Below.refl _ _) _), fun _ _ => heap_alloc_new _ _, fun h0_ => absurd ((hoff 21 (by kernel_rfl)).symm.trans h0_) (by decide), fun _ => rfl⟩
          refine steps_cons ?_ ?_
          · rintro b a w' ⟨b17, m17_, ha, Q_GG, Q_H17, Q_FS, Q_X17_⟩ hb_ hon hoff
            refine ⟨_, rfl, fun K hK => ?_⟩
            have e56 : a.tmps[56]? = some (m17_) := by rw [ha]; exact putSel_on (e := (17, 56, m17_)) 5 rfl rfl (hon 17 (by kernel_rfl)) rfl
            rw [Q_X17_ (hon 17 (by kernel_rfl))] at e56
            have e49 : a.tmps[49]? = some (.bool true) := by rw [ha]; exact (putSel_off rfl).trans rfl
            replace ha := Aside0.mk ha
            have GG := Aside0.mk (Q_GG (hoff 21 (by kernel_rfl)))
            have H17 := Aside0.mk (Q_H17 (hon 17 (by kernel_rfl)) hb_)
            refine goes_ Try.func37 (by kernel_rfl) rfl #[.slice (some ⟨b17, 0, none⟩) 3 3] (wanted_on rfl rfl rfl (e49.trans (by first | rfl | (simp [*]; done)))) rfl rfl (by first | (simp only [List.map_toArray, List.map_cons, List.map_nil, Act.eval, Array.getD_eq_getD_getElem?, Option.getD_some, e56, e49]; done) | (simp only [List.map_toArray, List.map_cons, List.map_nil, Act.eval, Array.getD_eq_getD_getElem?, Option.getD_some, e56, e49]; rfl)) ?_
            have hs_ := Sum_any [⟨(some a0), c, xs.take 24⟩, ⟨B, d, ys⟩, ⟨(some (a0.add 32)), c - 32, xs.drop 32⟩] (some ⟨b17, 0, none⟩) 3 3 w' rfl (rows3 H17.out (RR.out.1 w' GG.out) (RR.out.2.1 w' GG.out) (RR.out.2.2.1 w' GG.out) (by omega) hd (by omega) RR.out.2.2.2.1 HY.out.2.1 RR.out.2.2.2.2)
            rw [HSS.out] at hs_
            refine hs_.mono ?_
            rintro e w1 ⟨rfl, g1⟩
            refine ⟨_, rfl, ?_⟩
            refine hK.out _ _ ⟨b17, m17_, (by rw [ha.out]; exact putSel_upk 6 hb_ rfl rfl rfl), fun _ => GG.out.below g1.below, fun _ h1_ => absurd ((up_self b 18).symm.trans h1_) (by decide), fun h0_ => absurd ((hoff 21 (by kernel_rfl)).symm.trans h0_) (by decide), Q_X17_⟩
          refine steps_cons ?_ ?_
          · rintro b a w' ⟨b17, m17_, ha, Q_GG, Q_H17, Q_FS, Q_X17_⟩ hb_ hon hoff
            refine ⟨_, rfl, fun K hK => ?_⟩
            have e50 : a.tmps[50]? = some (.int .u32 oo) := by rw [ha]; exact (putSel_off rfl).trans rfl
            have e57 : a.tmps[57]? = some (.int .u32 ss) := by rw [ha]; exact putSel_on (e := (18, 57, .int .u32 ss)) 6 rfl rfl (hon 18 (by kernel_rfl)) rfl
            have e49 : a.tmps[49]? = some (.bool true) := by rw [ha]; exact (putSel_off rfl).trans rfl
            replace ha := Aside0.mk ha
            have GG := Aside0.mk (Q_GG (hoff 21 (by kernel_rfl)))
            refine value_ (w1 := w') (v := .bool (oo == ss)) (wanted_on rfl rfl rfl (e49.trans (by first | rfl | (simp [*]; done)))) rfl ?_ ?_
            · go_simp
              (try simp only [i64_w])
              try rfl
            refine hK.out _ _ ⟨b17, m17_, (by rw [ha.out]; exact putSel_upk 7 hb_ rfl rfl rfl), Q_GG, fun _ h1_ => absurd ((hon 18 (by kernel_rfl)).symm.trans h1_) (by decide), fun h0_ => absurd ((hoff 21 (by kernel_rfl)).symm.trans h0_) (by decide), Q_X17_⟩
          refine steps_cons ?_ ?_
          · rintro b a w' ⟨b17, m17_, ha, Q_GG, Q_H17, Q_FS, Q_X17_⟩ hb_ hon hoff
            refine ⟨_, rfl, fun K hK => ?_⟩
            have e49 : a.tmps[49]? = some (.bool true) := by rw [ha]; exact (putSel_off rfl).trans rfl
            have e58 : a.tmps[58]? = some (.bool (oo == ss)) := by rw [ha]; exact putSel_on (e := (19, 58, .bool (oo == ss))) 7 rfl rfl (hon 19 (by kernel_rfl)) rfl
            replace ha := Aside0.mk ha
            have GG := Aside0.mk (Q_GG (hoff 21 (by kernel_rfl)))
            refine value_ (w1 := w') (v := .bool (oo == ss)) (by rfl) rfl ?_ ?_
            · go_simp
              (try simp only [i64_w])
              try rfl
            refine hK.out _ _ ⟨b17, m17_, (by rw [ha.out]; exact putSel_upk 8 hb_ rfl rfl rfl), Q_GG, fun _ h1_ => absurd ((hon 18 (by kernel_rfl)).symm.trans h1_) (by decide), fun h0_ => absurd ((hoff 21 (by kernel_rfl)).symm.trans h0_) (by decide), Q_X17_⟩
          refine steps_cons ?_ ?_
          · rintro b a w' ⟨b17, m17_, ha, Q_GG, Q_H17, Q_FS, Q_X17_⟩ hb_ hon hoff
            refine ⟨_, rfl, fun K hK => ?_⟩
            have e4 : a.tmps[4]? = some (.pointer (some ⟨qk, 0, none⟩)) := by rw [ha]; exact (putSel_off rfl).trans rfl
            have e59 : a.tmps[59]? = some (.bool (oo == ss)) := by rw [ha]; exact putSel_on (e := (20, 59, .bool (oo == ss))) 8 rfl rfl (hon 20 (by kernel_rfl)) rfl
            replace ha := Aside0.mk ha
            have GG := Aside0.mk (Q_GG hb_)
            have fr := blk_frozen GG.out.2.2.2 0
            have zr : w'.cell? ⟨qk, 0, none⟩ = some (.bool false) := (blk_cell GG.out.2.2.2 0).trans rfl
            refine skip_ (w1 := w'.setCell ⟨qk, 0, none⟩ (.bool (oo == ss))) (by rfl) rfl ?_ ?_
            · go_simp
              try rfl
            refine hK.out _ _ ⟨b17, m17_, (by rw [ha.out]; exact putSel_none (v := undef) rfl), fun h0_ => absurd ((up_self b 21).symm.trans h0_) (by decide), fun _ h1_ => absurd ((hon 18 (by kernel_rfl)).symm.trans h1_) (by decide), fun _ => GG.out.end_ dq (oo == ss), Q_X17_⟩
          exact steps_nil
        · rintro b a w' hall ⟨b17, m17_, ha, Q_GG, Q_H17, Q_FS, Q_X17_⟩
          clear GG
          have hb12_ := hall 12 (by kernel_rfl)
          have hb13_ := hall 13 (by kernel_rfl)
          have hb14_ := hall 14 (by kernel_rfl)
          have hb15_ := hall 15 (by kernel_rfl)
          have hb16_ := hall 16 (by kernel_rfl)
          have hb17_ := hall 17 (by kernel_rfl)
          have hb18_ := hall 18 (by kernel_rfl)
          have hb19_ := hall 19 (by kernel_rfl)
          have hb20_ := hall 20 (by kernel_rfl)
          have hb21_ := hall 21 (by kernel_rfl)
          subst ha
          obtain rfl := Q_X17_ hb17_
          simp only [putSel, hb12_, hb13_, hb14_, hb15_, hb16_, hb17_, hb18_, hb19_, hb20_, hb21_, if_true, Act.put, List.setIfInBounds_toArray, List.set_cons_zero, List.set_cons_succ]
          clear Q_GG
          clear Q_H17
          have FS := Aside0.mk (Q_FS hb21_)
          clear Q_FS
          clear hall hb12_ hb13_ hb14_ hb15_ hb16_ hb17_ hb18_ hb19_ hb20_ hb21_
          have FS_ := Lib.hid FS.out
          go_end0
          rw [HE.out]
          exact FS_.out
      · have HE : Hid (rightO ys xs = false) := Lib.hid (by rw [HRT_]; simp [hrr])
        have brr : (rr == 0) = false := by simpa using hrr
        clear HRT_
        go_region
        go_end0
        rw [HE.out]
        exact (G.out.end_ dq false).drew
    · have HE : Hid (rightO ys xs = false) := Lib.hid (by rw [HRT_]; simp [hzz])
      have bzz : (zz == 0) = false := by simpa using hzz
      clear HRT_
      go_region
      go_end0
      rw [HE.out]
      exact (G.out.end_ dq false).drew
  · have HE : Hid (rightO ys xs = false) := Lib.hid (by rw [HRT_]; simp [hmg])
    have bmg : (mg == 22356) = false := by simpa using hmg
    clear HRT_
    go_region
    go_end0
    rw [HE.out]
    exact (G.out.end_ dq false).drew
end Go.Proofs.Ytkbjndfmbimjiaa

/-! record.Open. -/
set_option linter.unusedVariables false
set_option linter.unusedSimpArgs false
namespace Go.Proofs.Ytkbjndfmbimjiaa
open Go.RowKit Go.Proofs.YtkbjndfmbimjiaaW.PrintWords Go.Proofs.YtkbjndfmbimjiaaW.PrintLast
theorem makeFunc_ (fn : Fn) (first cap : Array Value) (w : World) : (Instr.makeFunc fn first cap).run Try.prog w = .ok (.func fn first cap) w := rfl
theorem bel7 {w w5 : World} {g : Nat} (h : Below w.heap.size w w5) (hg : w.heap.size ≤ g) (v0 v1 v2 v3 v4 v5 v6 : Value) : Below w.heap.size w (((((((w5.setCell ⟨g, 0, none⟩ v0).setCell ⟨g, 1, none⟩ v1).setCell ⟨g, 2, none⟩ v2).setCell ⟨g, 3, none⟩ v3).setCell ⟨g, 4, none⟩ v4).setCell ⟨g, 5, none⟩ v5).setCell ⟨g, 6, none⟩ v6) := by
  have h0 := bl_set h (p := ⟨g, 0, none⟩) hg v0
  have h1 := bl_set h0 (p := ⟨g, 1, none⟩) hg v1
  have h2 := bl_set h1 (p := ⟨g, 2, none⟩) hg v2
  have h3 := bl_set h2 (p := ⟨g, 3, none⟩) hg v3
  have h4 := bl_set h3 (p := ⟨g, 4, none⟩) hg v4
  have h5 := bl_set h4 (p := ⟨g, 5, none⟩) hg v5
  have h6 := bl_set h5 (p := ⟨g, 6, none⟩) hg v6
  exact h6
theorem put7 {w : World} {g : Nat} {t : TypeId} {a0 a1 a2 a3 a4 a5 a6 : Value} (h : w.heap[g]? = some (.cells #[a0, a1, a2, a3, a4, a5, a6] t (0, 0))) (v0 v1 v2 v3 v4 v5 v6 : Value) : (((((((w.setCell ⟨g, 0, none⟩ v0).setCell ⟨g, 1, none⟩ v1).setCell ⟨g, 2, none⟩ v2).setCell ⟨g, 3, none⟩ v3).setCell ⟨g, 4, none⟩ v4).setCell ⟨g, 5, none⟩ v5).setCell ⟨g, 6, none⟩ v6).heap[g]? = some (.cells #[v0, v1, v2, v3, v4, v5, v6] t (0, 0)) := by
  have h0 := blk_put h 0 v0 (cs' := #[v0, a1, a2, a3, a4, a5, a6]) (by simp)
  have h1 := blk_put h0 1 v1 (cs' := #[v0, v1, a2, a3, a4, a5, a6]) (by simp)
  have h2 := blk_put h1 2 v2 (cs' := #[v0, v1, v2, a3, a4, a5, a6]) (by simp)
  have h3 := blk_put h2 3 v3 (cs' := #[v0, v1, v2, v3, a4, a5, a6]) (by simp)
  have h4 := blk_put h3 4 v4 (cs' := #[v0, v1, v2, v3, v4, a5, a6]) (by simp)
  have h5 := blk_put h4 5 v5 (cs' := #[v0, v1, v2, v3, v4, v5, a6]) (by simp)
  have h6 := blk_put h5 6 v6 (cs' := #[v0, v1, v2, v3, v4, v5, v6]) (by simp)
  exact h6
theorem alloc5 (w : World) (c1 c2 c3 c4 c5 : Array Value) (t1 t2 t3 t4 t5 : TypeId) (W : World) (hW : W = ((((w.alloc (.cells c1 t1)).alloc (.cells c2 t2)).alloc (.cells c3 t3)).alloc (.cells c4 t4)).alloc (.cells c5 t5)) : W.heap[w.heap.size]? = some (.cells c1 t1 (0, 0)) ∧ W.heap[w.heap.size + 1]? = some (.cells c2 t2 (0, 0)) ∧ W.heap[w.heap.size + 1 + 1]? = some (.cells c3 t3 (0, 0)) ∧ W.heap[w.heap.size + 1 + 1 + 1]? = some (.cells c4 t4 (0, 0)) ∧ W.heap[w.heap.size + 1 + 1 + 1 + 1]? = some (.cells c5 t5 (0, 0)) ∧ Below w.heap.size w W ∧ W.heap.size = w.heap.size + 5 := by
  subst hW
  have h2 := heap_alloc_new (w.alloc (.cells c1 t1)) (.cells c2 t2)
  have h3 := heap_alloc_new ((w.alloc (.cells c1 t1)).alloc (.cells c2 t2)) (.cells c3 t3)
  have h4 := heap_alloc_new (((w.alloc (.cells c1 t1)).alloc (.cells c2 t2)).alloc (.cells c3 t3)) (.cells c4 t4)
  have h5 := heap_alloc_new ((((w.alloc (.cells c1 t1)).alloc (.cells c2 t2)).alloc (.cells c3 t3)).alloc (.cells c4 t4)) (.cells c5 t5)
  simp only [World.size_alloc] at h2 h3 h4 h5
  exact ⟨blk_alloc (blk_alloc (blk_alloc (blk_alloc (heap_alloc_new w _) _) _) _) _, blk_alloc (blk_alloc (blk_alloc h2 _) _) _, blk_alloc (blk_alloc h3 _) _, blk_alloc h4 _, h5, bl_alloc (bl_alloc (bl_alloc (bl_alloc (bl_alloc (Below.refl _ _) _) _) _) _) _, by simp⟩
theorem alloc3 (w : World) (c1 c2 c3 : Array Value) (t1 t2 t3 : TypeId) (W : World) (hW : W = ((w.alloc (.cells c1 t1)).alloc (.cells c2 t2)).alloc (.cells c3 t3)) : W.heap[w.heap.size]? = some (.cells c1 t1 (0, 0)) ∧ W.heap[w.heap.size + 1]? = some (.cells c2 t2 (0, 0)) ∧ W.heap[w.heap.size + 1 + 1]? = some (.cells c3 t3 (0, 0)) ∧ Below w.heap.size w W := by
  subst hW
  have h2 := heap_alloc_new (w.alloc (.cells c1 t1)) (.cells c2 t2)
  have h3 := heap_alloc_new ((w.alloc (.cells c1 t1)).alloc (.cells c2 t2)) (.cells c3 t3)
  simp only [World.size_alloc] at h2 h3
  exact ⟨blk_alloc (blk_alloc (heap_alloc_new w _) _) _, blk_alloc h2 _, h3, bl_alloc (bl_alloc (bl_alloc (Below.refl _ _) _) _) _⟩
/-- The header that Open answers. -/
def openR (ys xs : List Int) : Hd := if openB ys xs then openH xs else hd0
theorem openR_no {ys xs : List Int} (h : openB ys xs = false) : openR ys xs = hd0 := by rw [openR, h]; rfl
theorem openR_yes {ys xs : List Int} (h : openB ys xs = true) : openR ys xs = openH xs := by rw [openR, h]; rfl
set_option maxHeartbeats 4000000 in
set_option maxRecDepth 100000 in
theorem open_any (A B : Option Addr) (c n d m : Nat) (xs ys : List Int) (w : World) (hr : ReadsInt w .u8 A m xs) (hb : Byt xs) (hc : m ≤ c) (hs : ReadsInt w .u8 B n ys) (by_ : Byt ys) (hd : n ≤ d) :
    Calls Try.prog 27 #[.slice B n d, .slice A m c] w fun e w' => Below w.heap.size w w' ∧ e = .returned (.tuple #[.agg (hdC (openR ys xs)), .bool (openB ys xs)]) := by
  have HR := Lib.hid hr
  have HB := Lib.hid hb
  have HS := Lib.hid hs
  have HY := Lib.hid by_
  have HL := Lib.hid hr.1
  have hm := hr.2.1
  have hmf := makeFunc_
  clear hr hb hs by_
  by_cases h64 : m = 64
  · subst h64
    have b64 : (((64 : Nat) : Int) != 64) = false := by simp
    go_enter Try.func27, Try.ntmps27
    go_wp2_with fail
    have ha := alloc5 w #[.slice B n d] #[.slice A 64 c] #[.int .u8 0, .int .u32 0, .int .u32 0, .int .u16 0, .int .u16 0, .int .u32 0, .int .u32 0] #[.int .u8 0, .int .u32 0, .int .u32 0, .int .u16 0, .int .u16 0, .int .u32 0, .int .u32 0] #[.bool false] 24 24 35 35 4 _ rfl
    obtain ⟨W, hW⟩ : ∃ W, (((((w.alloc (.cells #[.slice B n d] 24)).alloc (.cells #[.slice A 64 c] 24)).alloc (.cells #[.int .u8 0, .int .u32 0, .int .u32 0, .int .u16 0, .int .u16 0, .int .u32 0, .int .u32 0] 35)).alloc (.cells #[.int .u8 0, .int .u32 0, .int .u32 0, .int .u16 0, .int .u16 0, .int .u32 0, .int .u32 0] 35)).alloc (.cells #[.bool false] 4)) = W := ⟨_, rfl⟩
    rw [hW] at ha ⊢
    have HW := Lib.hid ha
    clear hW ha
    refine (read_mods A 64 c 39 #[.pointer (some ⟨w.heap.size + 1 + 1 + 1, 0, none⟩), .pointer (some ⟨w.heap.size + 1, 0, none⟩), .pointer (some ⟨w.heap.size, 0, none⟩), .pointer (some ⟨w.heap.size + 1 + 1 + 1 + 1, 0, none⟩)] W (fun i => i = w.heap.size + 1 + 1 + 1 ∨ i = w.heap.size + 1 + 1 + 1 + 1)
      (fun w' => w'.heap[w.heap.size + 1 + 1 + 1]? = some (.cells (hdC (openH xs)) 35 (0, 0)) ∧ w'.heap[w.heap.size + 1 + 1 + 1 + 1]? = some (.cells #[.bool (rightO ys xs)] 4 (0, 0))) (fun _ => False)
      Try.f39 Try.func39 (by kernel_rfl) (by kernel_rfl) (by have h_ := HW.out.2.2.2.2.2.2; rintro i (rfl | rfl) <;> omega) (fun wa wb h k => by have h_ := HW.out.2.2.2.2.2.2; exact ⟨k.blk h.1 (by omega) (by simp), k.blk h.2 (by omega) (by simp)⟩) (fun _ _ h _ => h.elim) ?_).mono ?_
    · intro w2 he hrd hbl hsz
      have h_ := HW.out.2.2.2.2.2.2
      refine (op1_any (W.heap.size + 1) (w.heap.size + 1 + 1 + 1) (w.heap.size + 1) (w.heap.size) (w.heap.size + 1 + 1 + 1 + 1) A B c n d xs ys w2 hrd ((HR.out.below HW.out.2.2.2.2.2.1).below hbl) HB.out hc ((HS.out.below HW.out.2.2.2.2.2.1).below hbl) HY.out hd
        (fun a ha => by have := reads_lt HR.out (by omega) a ha; omega) (fun h0 a ha => by have := reads_lt HS.out h0 a ha; omega)
        (blk_below HW.out.2.1 hbl) (blk_below HW.out.1 hbl) (blk_below HW.out.2.2.2.1 hbl) (blk_below HW.out.2.2.2.2.1 hbl) (by omega) (by omega) (by omega) (by omega) (by omega)).mono ?_
      rintro e w' ⟨hM, he2, hq2, hq3⟩
      exact ⟨hM, .inl ⟨he2, hq2, hq3⟩⟩
    · rintro e w5 ⟨hM, ⟨rfl, hP1, hP2⟩ | ⟨rfl, hF⟩⟩
      case inr => exact hF.elim
      have hR5 := hM.blk HW.out.2.2.1 (by rintro (e | e) <;> omega)
      have T5 : Hid (Below w.heap.size w w5) := Lib.hid (HW.out.2.2.2.2.2.1.trans (hM.below (B := w.heap.size) (by have h_ := HW.out.2.2.2.2.2.2; omega) (by rintro i (rfl | rfl) <;> omega)))
      have HP := Lib.hid (And.intro hR5 (And.intro hP1 hP2))
      clear hM hP1 hP2 hR5
      have zr : w5.cell? ⟨w.heap.size + 1 + 1 + 1 + 1, 0, none⟩ = some (.bool (rightO ys xs)) := (blk_cell HP.out.2.2 0).trans rfl
      have z0 : w5.cell? ⟨w.heap.size + 1 + 1 + 1, 0, none⟩ = some (.int .u8 (openH xs).k) := (blk_cell HP.out.2.1 0).trans rfl
      have z1 : w5.cell? ⟨w.heap.size + 1 + 1 + 1, 1, none⟩ = some (.int .u32 (openH xs).e) := (blk_cell HP.out.2.1 1).trans rfl
      have z2 : w5.cell? ⟨w.heap.size + 1 + 1 + 1, 2, none⟩ = some (.int .u32 (openH xs).b) := (blk_cell HP.out.2.1 2).trans rfl
      have z3 : w5.cell? ⟨w.heap.size + 1 + 1 + 1, 3, none⟩ = some (.int .u16 (openH xs).i) := (blk_cell HP.out.2.1 3).trans rfl
      have z4 : w5.cell? ⟨w.heap.size + 1 + 1 + 1, 4, none⟩ = some (.int .u16 (openH xs).c) := (blk_cell HP.out.2.1 4).trans rfl
      have z5 : w5.cell? ⟨w.heap.size + 1 + 1 + 1, 5, none⟩ = some (.int .u32 (openH xs).l) := (blk_cell HP.out.2.1 5).trans rfl
      have z6 : w5.cell? ⟨w.heap.size + 1 + 1 + 1, 6, none⟩ = some (.int .u32 (openH xs).m) := (blk_cell HP.out.2.1 6).trans rfl
      have y0 := (blk_cell HP.out.1 0).trans rfl
      have q0 := blk_frozen HP.out.1 0
      have y1 := (blk_cell HP.out.1 1).trans rfl
      have q1 := blk_frozen HP.out.1 1
      have y2 := (blk_cell HP.out.1 2).trans rfl
      have q2 := blk_frozen HP.out.1 2
      have y3 := (blk_cell HP.out.1 3).trans rfl
      have q3 := blk_frozen HP.out.1 3
      have y4 := (blk_cell HP.out.1 4).trans rfl
      have q4 := blk_frozen HP.out.1 4
      have y5 := (blk_cell HP.out.1 5).trans rfl
      have q5 := blk_frozen HP.out.1 5
      have y6 := (blk_cell HP.out.1 6).trans rfl
      have q6 := blk_frozen HP.out.1 6
      have hob : openB ys xs = (rightO ys xs && (decide (1 ≤ (openH xs).k) && decide ((openH xs).k ≤ 6))) := by rw [openB, HL.out]; rfl
      have hk0 := (openH_ok HB.out).k0
      cases hrb : rightO ys xs
      · have HO : Hid (openB ys xs = false) := Lib.hid (by rw [hob, hrb]; rfl)
        rw [hrb] at zr
        clear hob
        go_wp2_with fail
        have hf := put7 (show w5.heap[w.heap.size + 1 + 1]? = some (.cells #[.int .u8 0, .int .u32 0, .int .u32 0, .int .u16 0, .int .u16 0, .int .u32 0, .int .u32 0] 35 (0, 0)) from HP.out.1) (.int .u8 0) (.int .u32 0) (.int .u32 0) (.int .u16 0) (.int .u16 0) (.int .u32 0) (.int .u32 0)
        have T9 := bel7 T5.out (show w.heap.size ≤ w.heap.size + 1 + 1 by omega) (.int .u8 0) (.int .u32 0) (.int .u32 0) (.int .u16 0) (.int .u16 0) (.int .u32 0) (.int .u32 0)
        obtain ⟨w9, hw9⟩ : ∃ w9, (((((((w5.setCell ⟨w.heap.size + 1 + 1, 0, none⟩ (.int .u8 0)).setCell ⟨w.heap.size + 1 + 1, 1, none⟩ (.int .u32 0)).setCell ⟨w.heap.size + 1 + 1, 2, none⟩ (.int .u32 0)).setCell ⟨w.heap.size + 1 + 1, 3, none⟩ (.int .u16 0)).setCell ⟨w.heap.size + 1 + 1, 4, none⟩ (.int .u16 0)).setCell ⟨w.heap.size + 1 + 1, 5, none⟩ (.int .u32 0)).setCell ⟨w.heap.size + 1 + 1, 6, none⟩ (.int .u32 0)) = w9 := ⟨_, rfl⟩
        rw [hw9] at hf T9 ⊢
        have c0 : w9.cell? ⟨w.heap.size + 1 + 1, 0, none⟩ = some (.int .u8 0) := (blk_cell hf 0).trans rfl
        have c1 : w9.cell? ⟨w.heap.size + 1 + 1, 1, none⟩ = some (.int .u32 0) := (blk_cell hf 1).trans rfl
        have c2 : w9.cell? ⟨w.heap.size + 1 + 1, 2, none⟩ = some (.int .u32 0) := (blk_cell hf 2).trans rfl
        have c3 : w9.cell? ⟨w.heap.size + 1 + 1, 3, none⟩ = some (.int .u16 0) := (blk_cell hf 3).trans rfl
        have c4 : w9.cell? ⟨w.heap.size + 1 + 1, 4, none⟩ = some (.int .u16 0) := (blk_cell hf 4).trans rfl
        have c5 : w9.cell? ⟨w.heap.size + 1 + 1, 5, none⟩ = some (.int .u32 0) := (blk_cell hf 5).trans rfl
        have c6 : w9.cell? ⟨w.heap.size + 1 + 1, 6, none⟩ = some (.int .u32 0) := (blk_cell hf 6).trans rfl
        clear hw9 hf
        refine bodyPost_ret (v := .tuple #[.agg #[.int .u8 0, .int .u32 0, .int .u32 0, .int .u16 0, .int .u16 0, .int .u32 0, .int .u32 0], .bool false]) (by simp [results, Try.results27, go_sem, c0, c1, c2, c3, c4, c5, c6]) rfl ⟨T9, ?_⟩
        rw [HO.out, openR_no HO.out]
        rfl
      · rw [hrb] at zr hob
        obtain ⟨kd, hkd⟩ : ∃ kd, (openH xs).k = kd := ⟨_, rfl⟩
        have HK := Lib.hid hkd
        rw [hkd] at hob z0 hk0
        clear hkd
        by_cases h1 : kd < 1
        · have HO : Hid (openB ys xs = false) := Lib.hid (by rw [hob]; simp; omega)
          clear hob
          go_wp2_with fail
          have hf := put7 (show w5.heap[w.heap.size + 1 + 1]? = some (.cells #[.int .u8 0, .int .u32 0, .int .u32 0, .int .u16 0, .int .u16 0, .int .u32 0, .int .u32 0] 35 (0, 0)) from HP.out.1) (.int .u8 0) (.int .u32 0) (.int .u32 0) (.int .u16 0) (.int .u16 0) (.int .u32 0) (.int .u32 0)
          have T9 := bel7 T5.out (show w.heap.size ≤ w.heap.size + 1 + 1 by omega) (.int .u8 0) (.int .u32 0) (.int .u32 0) (.int .u16 0) (.int .u16 0) (.int .u32 0) (.int .u32 0)
          obtain ⟨w9, hw9⟩ : ∃ w9, (((((((w5.setCell ⟨w.heap.size + 1 + 1, 0, none⟩ (.int .u8 0)).setCell ⟨w.heap.size + 1 + 1, 1, none⟩ (.int .u32 0)).setCell ⟨w.heap.size + 1 + 1, 2, none⟩ (.int .u32 0)).setCell ⟨w.heap.size + 1 + 1, 3, none⟩ (.int .u16 0)).setCell ⟨w.heap.size + 1 + 1, 4, none⟩ (.int .u16 0)).setCell ⟨w.heap.size + 1 + 1, 5, none⟩ (.int .u32 0)).setCell ⟨w.heap.size + 1 + 1, 6, none⟩ (.int .u32 0)) = w9 := ⟨_, rfl⟩
          rw [hw9] at hf T9 ⊢
          have c0 : w9.cell? ⟨w.heap.size + 1 + 1, 0, none⟩ = some (.int .u8 0) := (blk_cell hf 0).trans rfl
          have c1 : w9.cell? ⟨w.heap.size + 1 + 1, 1, none⟩ = some (.int .u32 0) := (blk_cell hf 1).trans rfl
          have c2 : w9.cell? ⟨w.heap.size + 1 + 1, 2, none⟩ = some (.int .u32 0) := (blk_cell hf 2).trans rfl
          have c3 : w9.cell? ⟨w.heap.size + 1 + 1, 3, none⟩ = some (.int .u16 0) := (blk_cell hf 3).trans rfl
          have c4 : w9.cell? ⟨w.heap.size + 1 + 1, 4, none⟩ = some (.int .u16 0) := (blk_cell hf 4).trans rfl
          have c5 : w9.cell? ⟨w.heap.size + 1 + 1, 5, none⟩ = some (.int .u32 0) := (blk_cell hf 5).trans rfl
          have c6 : w9.cell? ⟨w.heap.size + 1 + 1, 6, none⟩ = some (.int .u32 0) := (blk_cell hf 6).trans rfl
          clear hw9 hf
          refine bodyPost_ret (v := .tuple #[.agg #[.int .u8 0, .int .u32 0, .int .u32 0, .int .u16 0, .int .u16 0, .int .u32 0, .int .u32 0], .bool false]) (by simp [results, Try.results27, go_sem, c0, c1, c2, c3, c4, c5, c6]) rfl ⟨T9, ?_⟩
          rw [HO.out, openR_no HO.out]
          rfl
        · by_cases h6 : 6 < kd
          · have HO : Hid (openB ys xs = false) := Lib.hid (by rw [hob]; simp; omega)
            clear hob
            go_wp2_with fail
            have hf := put7 (show w5.heap[w.heap.size + 1 + 1]? = some (.cells #[.int .u8 0, .int .u32 0, .int .u32 0, .int .u16 0, .int .u16 0, .int .u32 0, .int .u32 0] 35 (0, 0)) from HP.out.1) (.int .u8 0) (.int .u32 0) (.int .u32 0) (.int .u16 0) (.int .u16 0) (.int .u32 0) (.int .u32 0)
            have T9 := bel7 T5.out (show w.heap.size ≤ w.heap.size + 1 + 1 by omega) (.int .u8 0) (.int .u32 0) (.int .u32 0) (.int .u16 0) (.int .u16 0) (.int .u32 0) (.int .u32 0)
            obtain ⟨w9, hw9⟩ : ∃ w9, (((((((w5.setCell ⟨w.heap.size + 1 + 1, 0, none⟩ (.int .u8 0)).setCell ⟨w.heap.size + 1 + 1, 1, none⟩ (.int .u32 0)).setCell ⟨w.heap.size + 1 + 1, 2, none⟩ (.int .u32 0)).setCell ⟨w.heap.size + 1 + 1, 3, none⟩ (.int .u16 0)).setCell ⟨w.heap.size + 1 + 1, 4, none⟩ (.int .u16 0)).setCell ⟨w.heap.size + 1 + 1, 5, none⟩ (.int .u32 0)).setCell ⟨w.heap.size + 1 + 1, 6, none⟩ (.int .u32 0)) = w9 := ⟨_, rfl⟩
            rw [hw9] at hf T9 ⊢
            have c0 : w9.cell? ⟨w.heap.size + 1 + 1, 0, none⟩ = some (.int .u8 0) := (blk_cell hf 0).trans rfl
            have c1 : w9.cell? ⟨w.heap.size + 1 + 1, 1, none⟩ = some (.int .u32 0) := (blk_cell hf 1).trans rfl
            have c2 : w9.cell? ⟨w.heap.size + 1 + 1, 2, none⟩ = some (.int .u32 0) := (blk_cell hf 2).trans rfl
            have c3 : w9.cell? ⟨w.heap.size + 1 + 1, 3, none⟩ = some (.int .u16 0) := (blk_cell hf 3).trans rfl
            have c4 : w9.cell? ⟨w.heap.size + 1 + 1, 4, none⟩ = some (.int .u16 0) := (blk_cell hf 4).trans rfl
            have c5 : w9.cell? ⟨w.heap.size + 1 + 1, 5, none⟩ = some (.int .u32 0) := (blk_cell hf 5).trans rfl
            have c6 : w9.cell? ⟨w.heap.size + 1 + 1, 6, none⟩ = some (.int .u32 0) := (blk_cell hf 6).trans rfl
            clear hw9 hf
            refine bodyPost_ret (v := .tuple #[.agg #[.int .u8 0, .int .u32 0, .int .u32 0, .int .u16 0, .int .u16 0, .int .u32 0, .int .u32 0], .bool false]) (by simp [results, Try.results27, go_sem, c0, c1, c2, c3, c4, c5, c6]) rfl ⟨T9, ?_⟩
            rw [HO.out, openR_no HO.out]
            rfl
          · have HO : Hid (openB ys xs = true) := Lib.hid (by rw [hob]; simp; omega)
            clear hob
            go_wp2_with fail
            have hf := put7 (show w5.heap[w.heap.size + 1 + 1]? = some (.cells #[.int .u8 0, .int .u32 0, .int .u32 0, .int .u16 0, .int .u16 0, .int .u32 0, .int .u32 0] 35 (0, 0)) from HP.out.1) (.int .u8 kd) (.int .u32 (openH xs).e) (.int .u32 (openH xs).b) (.int .u16 (openH xs).i) (.int .u16 (openH xs).c) (.int .u32 (openH xs).l) (.int .u32 (openH xs).m)
            have T9 := bel7 T5.out (show w.heap.size ≤ w.heap.size + 1 + 1 by omega) (.int .u8 kd) (.int .u32 (openH xs).e) (.int .u32 (openH xs).b) (.int .u16 (openH xs).i) (.int .u16 (openH xs).c) (.int .u32 (openH xs).l) (.int .u32 (openH xs).m)
            obtain ⟨w9, hw9⟩ : ∃ w9, (((((((w5.setCell ⟨w.heap.size + 1 + 1, 0, none⟩ (.int .u8 kd)).setCell ⟨w.heap.size + 1 + 1, 1, none⟩ (.int .u32 (openH xs).e)).setCell ⟨w.heap.size + 1 + 1, 2, none⟩ (.int .u32 (openH xs).b)).setCell ⟨w.heap.size + 1 + 1, 3, none⟩ (.int .u16 (openH xs).i)).setCell ⟨w.heap.size + 1 + 1, 4, none⟩ (.int .u16 (openH xs).c)).setCell ⟨w.heap.size + 1 + 1, 5, none⟩ (.int .u32 (openH xs).l)).setCell ⟨w.heap.size + 1 + 1, 6, none⟩ (.int .u32 (openH xs).m)) = w9 := ⟨_, rfl⟩
            rw [hw9] at hf T9 ⊢
            have c0 : w9.cell? ⟨w.heap.size + 1 + 1, 0, none⟩ = some (.int .u8 kd) := (blk_cell hf 0).trans rfl
            have c1 : w9.cell? ⟨w.heap.size + 1 + 1, 1, none⟩ = some (.int .u32 (openH xs).e) := (blk_cell hf 1).trans rfl
            have c2 : w9.cell? ⟨w.heap.size + 1 + 1, 2, none⟩ = some (.int .u32 (openH xs).b) := (blk_cell hf 2).trans rfl
            have c3 : w9.cell? ⟨w.heap.size + 1 + 1, 3, none⟩ = some (.int .u16 (openH xs).i) := (blk_cell hf 3).trans rfl
            have c4 : w9.cell? ⟨w.heap.size + 1 + 1, 4, none⟩ = some (.int .u16 (openH xs).c) := (blk_cell hf 4).trans rfl
            have c5 : w9.cell? ⟨w.heap.size + 1 + 1, 5, none⟩ = some (.int .u32 (openH xs).l) := (blk_cell hf 5).trans rfl
            have c6 : w9.cell? ⟨w.heap.size + 1 + 1, 6, none⟩ = some (.int .u32 (openH xs).m) := (blk_cell hf 6).trans rfl
            clear hw9 hf
            refine bodyPost_ret (v := .tuple #[.agg #[.int .u8 kd, .int .u32 (openH xs).e, .int .u32 (openH xs).b, .int .u16 (openH xs).i, .int .u16 (openH xs).c, .int .u32 (openH xs).l, .int .u32 (openH xs).m], .bool true]) (by simp [results, Try.results27, go_sem, c0, c1, c2, c3, c4, c5, c6]) rfl ⟨T9, ?_⟩
            rw [HO.out, openR_yes HO.out]
            rw [← HK.out]
  · have b64 : ((m : Int) != 64) = true := by simp; omega
    have hob : openB ys xs = false := by rw [openB, HL.out, decide_eq_false h64]; rfl
    have HO := Lib.hid hob
    clear hob
    go_enter Try.func27, Try.ntmps27
    go_wp2_with fail
    have ha := alloc3 w #[.slice B n d] #[.slice A m c] #[.int .u8 0, .int .u32 0, .int .u32 0, .int .u16 0, .int .u16 0, .int .u32 0, .int .u32 0] 24 24 35 _ rfl
    obtain ⟨w9, hw9⟩ : ∃ w9, (((w.alloc (.cells #[.slice B n d] 24)).alloc (.cells #[.slice A m c] 24)).alloc (.cells #[.int .u8 0, .int .u32 0, .int .u32 0, .int .u16 0, .int .u16 0, .int .u32 0, .int .u32 0] 35)) = w9 := ⟨_, rfl⟩
    rw [hw9] at ha ⊢
    have hf := ha.2.2.1
    have T9 := ha.2.2.2
    have c0 : w9.cell? ⟨w.heap.size + 1 + 1, 0, none⟩ = some (.int .u8 0) := (blk_cell hf 0).trans rfl
    have c1 : w9.cell? ⟨w.heap.size + 1 + 1, 1, none⟩ = some (.int .u32 0) := (blk_cell hf 1).trans rfl
    have c2 : w9.cell? ⟨w.heap.size + 1 + 1, 2, none⟩ = some (.int .u32 0) := (blk_cell hf 2).trans rfl
    have c3 : w9.cell? ⟨w.heap.size + 1 + 1, 3, none⟩ = some (.int .u16 0) := (blk_cell hf 3).trans rfl
    have c4 : w9.cell? ⟨w.heap.size + 1 + 1, 4, none⟩ = some (.int .u16 0) := (blk_cell hf 4).trans rfl
    have c5 : w9.cell? ⟨w.heap.size + 1 + 1, 5, none⟩ = some (.int .u32 0) := (blk_cell hf 5).trans rfl
    have c6 : w9.cell? ⟨w.heap.size + 1 + 1, 6, none⟩ = some (.int .u32 0) := (blk_cell hf 6).trans rfl
    clear hw9 hf ha
    refine bodyPost_ret (v := .tuple #[.agg #[.int .u8 0, .int .u32 0, .int .u32 0, .int .u16 0, .int .u16 0, .int .u32 0, .int .u32 0], .bool false]) (by simp [results, Try.results27, go_sem, c0, c1, c2, c3, c4, c5, c6]) rfl ⟨T9, ?_⟩
    rw [HO.out, openR_no HO.out]
    rfl
end Go.Proofs.Ytkbjndfmbimjiaa
