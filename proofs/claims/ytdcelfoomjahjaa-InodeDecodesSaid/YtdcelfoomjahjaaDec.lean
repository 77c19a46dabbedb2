import Derived.Test.YtdcelfoomjahjaaRdm
import Derived.StillTailTactics
/-! inode.Decode's closure. -/
set_option linter.unusedVariables false
set_option linter.unusedSimpArgs false
namespace Go.Proofs.Ytdcelfoomjahjaa
open Go.RowKit Go.Proofs.YtdcelfoomjahjaaW.PrintWords
/-- The number of n bytes at a place. -/
def at_ (xs : List Int) (k n : Nat) : Int := num ((xs.drop k).take n)
def decA (kd lk sz : Int) (d : Nat → Int) (sg db : Int) : Array Value := #[.int .u8 kd, .int .u16 lk, .int .u32 sz, .int .u32 (d 0), .int .u32 (d 1), .int .u32 (d 2), .int .u32 (d 3), .int .u32 (d 4), .int .u32 (d 5), .int .u32 (d 6), .int .u32 (d 7), .int .u32 sg, .int .u32 db]
def dirA (xs : List Int) (j : Nat) : Nat → Int := fun t => if t < j then at_ xs (8 + 4 * t) 4 else 0
theorem decA_put (kd lk sz sg db : Int) (xs : List Int) (j : Nat) (hj : j < 8) : (decA kd lk sz (dirA xs j) sg db).setIfInBounds (3 + j) (.int .u32 (at_ xs (8 + 4 * j) 4)) = decA kd lk sz (dirA xs (j + 1)) sg db := by
  have h : j = 0 ∨ j = 1 ∨ j = 2 ∨ j = 3 ∨ j = 4 ∨ j = 5 ∨ j = 6 ∨ j = 7 := by omega
  rcases h with rfl | rfl | rfl | rfl | rfl | rfl | rfl | rfl <;> simp [decA, dirA]
theorem decA_cell (kd lk sz sg db : Int) (xs : List Int) (j : Nat) (hj : j < 8) : (decA kd lk sz (dirA xs j) sg db)[3 + j]? = some (.int .u32 0) := by
  have h : j = 0 ∨ j = 1 ∨ j = 2 ∨ j = 3 ∨ j = 4 ∨ j = 5 ∨ j = 6 ∨ j = 7 := by omega
  rcases h with rfl | rfl | rfl | rfl | rfl | rfl | rfl | rfl <;> simp [decA, dirA]
/-- What Decode's closure leaves. -/
def DecS (w : World) (p qn qr : Nat) (xs : List Int) (e : Ending) (w' : World) : Prop :=
  Mods (fun i => i = p ∨ i = qn ∨ i = qr) w w' ∧ ((48 ≤ xs.length ∧ e = .returned (.tuple #[]) ∧ w'.heap[qn]? = some (.cells (decA (at_ xs 0 1) (at_ xs 2 2) (at_ xs 4 4) (dirA xs 8) (at_ xs 40 4) (at_ xs 44 4)) 48 (0, 0)) ∧
      w'.heap[qr]? = some (.cells #[.bool (at_ xs 1 1 == 0 && (xs.drop 48).all (· == 0) && decide (at_ xs 0 1 ≤ 2))] 4 (0, 0))) ∨ (xs.length < 48 ∧ ∃ k, e = .panicked (shortP k)))
/-- Where the reading stands. -/
def DecG (w : World) (p qn qr : Nat) (A : Option Addr) (m c : Nat) (k : Nat) (cs : Array Value) (W : World) : Prop :=
  RdV W p A m c (k : Int) ∧ Mods (fun i => i = p ∨ i = qn ∨ i = qr) w W ∧ W.heap[qn]? = some (.cells cs 48 (0, 0)) ∧ W.heap[qr]? = some (.cells #[.bool false] 4 (0, 0))
theorem DecG.step {w : World} {p qn qr : Nat} {A : Option Addr} {m c k k' : Nat} {cs : Array Value} {W W' : World} (h : DecG w p qn qr A m c k cs W) (dn : qn ≠ p) (dr : qr ≠ p) (h1 : RdV W' p A m c (k' : Int)) (h2 : Mods (fun i => i = p) W W') : DecG w p qn qr A m c k' cs W' :=
  ⟨h1, h.2.1.trans (h2.mono (fun i e => .inl e)), h2.blk h.2.2.1 dn, h2.blk h.2.2.2 dr⟩
theorem DecG.put {w : World} {p qn qr : Nat} {A : Option Addr} {m c k : Nat} {cs cs' : Array Value} {W : World} (h : DecG w p qn qr A m c k cs W) (dn : qn ≠ p) (dq : qr ≠ qn) (o : Nat) (v : Value) (e : cs.setIfInBounds o v = cs') : DecG w p qn qr A m c k cs' (W.setCell ⟨qn, o, none⟩ v) :=
  ⟨blk_far h.1 (p := ⟨qn, o, none⟩) (Ne.symm dn) v, h.2.1.at_ (.inl (.inr (.inl rfl))) o v, blk_put h.2.2.1 o v e, blk_far h.2.2.2 (p := ⟨qn, o, none⟩) dq v⟩
theorem DecG.drawn {w : World} {p qn qr : Nat} {A : Option Addr} {m c k : Nat} {cs : Array Value} {W W' : World} (h : DecG w p qn qr A m c k cs W) (hd : Drawn0 W W') : DecG w p qn qr A m c k cs W' :=
  ⟨blk_below h.1 hd.below, h.2.1.trans (Mods.of_below hd.below), blk_below h.2.2.1 hd.below, blk_below h.2.2.2 hd.below⟩
theorem aU8_yes (p : Nat) (A : Option Addr) (m c : Nat) (k : Nat) (xs : List Int) (w : World) (h : RdV w p A m c k) (hr : ReadsInt w .u8 A m xs) (hb : Byt xs) (hc : m ≤ c) (hkn : k + 1 ≤ m) (hne : ∀ a, A = some a → a.block ≠ p) :
    Calls Try.prog 31 #[.pointer (some ⟨p, 0, none⟩)] w fun e w' => e = .returned (.int .u8 (at_ xs k 1)) ∧ RdV w' p A m c ((k + 1 : Nat) : Int) ∧ Mods (fun i => i = p) w w' := mU8_yes p A m c k xs w h hr hb hc hkn hne
theorem aU16_yes (p : Nat) (A : Option Addr) (m c : Nat) (k : Nat) (xs : List Int) (w : World) (h : RdV w p A m c k) (hr : ReadsInt w .u8 A m xs) (hb : Byt xs) (hc : m ≤ c) (hkn : k + 2 ≤ m) (hne : ∀ a, A = some a → a.block ≠ p) :
    Calls Try.prog 32 #[.pointer (some ⟨p, 0, none⟩)] w fun e w' => e = .returned (.int .u16 (at_ xs k 2)) ∧ RdV w' p A m c ((k + 2 : Nat) : Int) ∧ Mods (fun i => i = p) w w' := mU16_yes p A m c k xs w h hr hb hc hkn hne
theorem aU32_yes (p : Nat) (A : Option Addr) (m c : Nat) (k : Nat) (xs : List Int) (w : World) (h : RdV w p A m c k) (hr : ReadsInt w .u8 A m xs) (hb : Byt xs) (hc : m ≤ c) (hkn : k + 4 ≤ m) (hne : ∀ a, A = some a → a.block ≠ p) :
    Calls Try.prog 33 #[.pointer (some ⟨p, 0, none⟩)] w fun e w' => e = .returned (.int .u32 (at_ xs k 4)) ∧ RdV w' p A m c ((k + 4 : Nat) : Int) ∧ Mods (fun i => i = p) w w' := mU32_yes p A m c k xs w h hr hb hc hkn hne
set_option maxHeartbeats 8000000 in
theorem dec1_any (p qn qr : Nat) (A : Option Addr) (m c : Nat) (xs : List Int) (w : World) (h : RdV w p A m c ((0 : Nat) : Int)) (hr : ReadsInt w .u8 A m xs) (hb : Byt xs) (hc : m ≤ c) (hne : ∀ a, A = some a → a.block ≠ p ∧ a.block ≠ qn ∧ a.block ≠ qr)
    (hn : w.heap[qn]? = some (.cells (decA 0 0 0 (dirA xs 0) 0 0) 48 (0, 0))) (hq : w.heap[qr]? = some (.cells #[.bool false] 4 (0, 0))) (dn : qn ≠ p) (dr : qr ≠ p) (dq : qr ≠ qn) :
    Calls Try.prog 30 #[.pointer (some ⟨p, 0, none⟩), .pointer (some ⟨qn, 0, none⟩), .pointer (some ⟨qr, 0, none⟩)] w (DecS w p qn qr xs) := by
  have hm := hr.2.1
  have HL := Lib.hid hr.1
  have HX := Lib.hid (And.intro hr (And.intro hb (And.intro (show ∀ a, A = some a → ¬ (a.block = p ∨ a.block = qn ∨ a.block = qr) from fun a ha e => by have h_ := hne a ha; omega) (show ∀ a, A = some a → a.block ≠ p from fun a ha => (hne a ha).1))))
  have G := Lib.hid (show DecG w p qn qr A m c 0 _ w from ⟨h, Mods.refl _ w, hn, hq⟩)
  clear h hr hb hne hn hq
  go_enter Try.func30, Try.ntmps30
  go_wp2_with fail
  by_cases c1 : m < 0 + 1
  · refine (mU8_no p A m c (0) _ G.out.1 (by omega) hm (by omega)).mono ?_
    rintro e w9 ⟨rfl, h9⟩
    exact ⟨rfl, G.out.2.1.trans (h9.mono (fun i e => .inl e)), .inr ⟨by rw [HL.out]; omega, _, rfl⟩⟩
  refine (aU8_yes p A m c (0) xs _ G.out.1 (G.out.2.1.reads HX.out.1 HX.out.2.2.1) HX.out.2.1 hc (by omega) HX.out.2.2.2).mono ?_
  rintro e w1 ⟨rfl, h1, h2⟩
  have G_ := G.out.step dn dr h1 h2
  clear G h1 h2
  have G := Lib.hid G_
  clear G_
  have z0 := (blk_cell G.out.2.2.1 0).trans rfl
  have f0 := blk_frozen G.out.2.2.1 0
  go_wp2_with fail
  have G_ := G.out.put dn dq 0 (.int .u8 (at_ xs 0 1)) (cs' := decA (at_ xs 0 1) 0 0 (dirA xs 0) 0 0) (by simp [decA])
  clear G
  have G := Lib.hid G_
  clear G_
  clear z0 f0
  by_cases c2 : m < 1 + 1
  · refine (mU8_no p A m c (1) _ G.out.1 (by omega) hm (by omega)).mono ?_
    rintro e w9 ⟨rfl, h9⟩
    exact ⟨rfl, G.out.2.1.trans (h9.mono (fun i e => .inl e)), .inr ⟨by rw [HL.out]; omega, _, rfl⟩⟩
  refine (aU8_yes p A m c (1) xs _ G.out.1 (G.out.2.1.reads HX.out.1 HX.out.2.2.1) HX.out.2.1 hc (by omega) HX.out.2.2.2).mono ?_
  rintro e w2 ⟨rfl, h1, h2⟩
  have G_ := G.out.step dn dr h1 h2
  clear G h1 h2
  have G := Lib.hid G_
  clear G_
  go_wp2_with fail
  by_cases c3 : m < 2 + 2
  · refine (mU16_no p A m c (2) _ G.out.1 (by omega) hm (by omega)).mono ?_
    rintro e w9 ⟨rfl, h9⟩
    exact ⟨rfl, G.out.2.1.trans (h9.mono (fun i e => .inl e)), .inr ⟨by rw [HL.out]; omega, _, rfl⟩⟩
  refine (aU16_yes p A m c (2) xs _ G.out.1 (G.out.2.1.reads HX.out.1 HX.out.2.2.1) HX.out.2.1 hc (by omega) HX.out.2.2.2).mono ?_
  rintro e w3 ⟨rfl, h1, h2⟩
  have G_ := G.out.step dn dr h1 h2
  clear G h1 h2
  have G := Lib.hid G_
  clear G_
  go_wp2_with fail
  by_cases c4 : m < 4 + 4
  · refine (mU32_no p A m c (4) _ G.out.1 (by omega) hm (by omega)).mono ?_
    rintro e w9 ⟨rfl, h9⟩
    exact ⟨rfl, G.out.2.1.trans (h9.mono (fun i e => .inl e)), .inr ⟨by rw [HL.out]; omega, _, rfl⟩⟩
  refine (aU32_yes p A m c (4) xs _ G.out.1 (G.out.2.1.reads HX.out.1 HX.out.2.2.1) HX.out.2.1 hc (by omega) HX.out.2.2.2).mono ?_
  rintro e w4 ⟨rfl, h1, h2⟩
  have G_ := G.out.step dn dr h1 h2
  clear G h1 h2
  have G := Lib.hid G_
  clear G_
  have z1 := (blk_cell G.out.2.2.1 1).trans rfl
  have f1 := blk_frozen G.out.2.2.1 1
  have z2 := (blk_cell G.out.2.2.1 2).trans rfl
  have f2 := blk_frozen G.out.2.2.1 2
  go_wp2_with fail
  have G_ := G.out.put dn dq 1 (.int .u16 (at_ xs 2 2)) (cs' := decA (at_ xs 0 1) (at_ xs 2 2) 0 (dirA xs 0) 0 0) (by simp [decA])
  clear G
  have G := Lib.hid G_
  clear G_
  have G_ := G.out.put dn dq 2 (.int .u32 (at_ xs 4 4)) (cs' := decA (at_ xs 0 1) (at_ xs 2 2) (at_ xs 4 4) (dirA xs 0) 0 0) (by simp [decA])
  clear G
  have G := Lib.hid G_
  clear G_
  clear z1 f1 z2 f2
  go_loopw [17] (fun i wr => ∃ j : Nat, j ≤ 8 ∧ 8 + 4 * j ≤ m ∧ i = .int .i64 (j : Int) ∧ Hid (DecG w p qn qr A m c (8 + 4 * j) (decA (at_ xs 0 1) (at_ xs 2 2) (at_ xs 4 4) (dirA xs j) 0 0) wr)) (fun i _ => 8 - (intOf i).toNat)
  case atStart => exact ⟨0, Nat.zero_le _, by omega, rfl, G⟩
  case round =>
    clear G
    obtain ⟨j, hj, hjm, rfl, G⟩ := hrel
    by_cases hlt : j < 8
    · go_wp2_with fail
      by_cases c5 : m < 8 + 4 * j + 4
      · refine (mU32_no p A m c (8 + 4 * j) _ G.out.1 (by omega) hm (by omega)).mono ?_
        rintro e w9 ⟨rfl, h9⟩
        exact ⟨rfl, G.out.2.1.trans (h9.mono (fun i e => .inl e)), .inr ⟨by rw [HL.out]; omega, _, rfl⟩⟩
      refine (aU32_yes p A m c (8 + 4 * j) xs _ G.out.1 (G.out.2.1.reads HX.out.1 HX.out.2.2.1) HX.out.2.1 hc (by omega) HX.out.2.2.2).mono ?_
      rintro e w5 ⟨rfl, h1, h2⟩
      have G_ := G.out.step dn dr h1 h2
      clear G h1 h2
      have G := Lib.hid G_
      clear G_
      have z0 := (blk_cell G.out.2.2.1 (3 + j)).trans (decA_cell _ _ _ _ _ xs j hlt)
      have f0 := blk_frozen G.out.2.2.1 (3 + j)
      go_wp2_with fail
      go_roundw
      case rel => exact ⟨j + 1, by omega, by omega, by go_num, Lib.hid (G.out.put dn dq (3 + j) (.int .u32 (at_ xs (8 + 4 * j) 4)) (decA_put _ _ _ _ _ xs j hlt))⟩
      case measure => simp [intOf]; omega
    · obtain rfl : j = 8 := by omega
      go_wp2_with fail
      by_cases c6 : m < 8 + 4 * 8 + 4
      · refine (mU32_no p A m c (8 + 4 * 8) _ G.out.1 (by omega) hm (by omega)).mono ?_
        rintro e w9 ⟨rfl, h9⟩
        exact ⟨rfl, G.out.2.1.trans (h9.mono (fun i e => .inl e)), .inr ⟨by rw [HL.out]; omega, _, rfl⟩⟩
      refine (aU32_yes p A m c (8 + 4 * 8) xs _ G.out.1 (G.out.2.1.reads HX.out.1 HX.out.2.2.1) HX.out.2.1 hc (by omega) HX.out.2.2.2).mono ?_
      rintro e w6 ⟨rfl, h1, h2⟩
      have G_ := G.out.step dn dr h1 h2
      clear G h1 h2
      have G := Lib.hid G_
      clear G_
      go_wp2_with fail
      by_cases c7 : m < 8 + 4 * 8 + 4 + 4
      · refine (mU32_no p A m c (8 + 4 * 8 + 4) _ G.out.1 (by omega) hm (by omega)).mono ?_
        rintro e w9 ⟨rfl, h9⟩
        exact ⟨rfl, G.out.2.1.trans (h9.mono (fun i e => .inl e)), .inr ⟨by rw [HL.out]; omega, _, rfl⟩⟩
      refine (aU32_yes p A m c (8 + 4 * 8 + 4) xs _ G.out.1 (G.out.2.1.reads HX.out.1 HX.out.2.2.1) HX.out.2.1 hc (by omega) HX.out.2.2.2).mono ?_
      rintro e w7 ⟨rfl, h1, h2⟩
      have G_ := G.out.step dn dr h1 h2
      clear G h1 h2
      have G := Lib.hid G_
      clear G_
      have z11 := (blk_cell G.out.2.2.1 11).trans rfl
      have f11 := blk_frozen G.out.2.2.1 11
      have z12 := (blk_cell G.out.2.2.1 12).trans rfl
      have f12 := blk_frozen G.out.2.2.1 12
      have fr := blk_frozen G.out.2.2.2 0
      have zr := (blk_cell G.out.2.2.2 0).trans rfl
      by_cases hz0 : at_ xs 1 1 = 0
      · have hz : (at_ xs 1 1 == 0) = true := by simpa using hz0
        clear hz0
        go_wp2_with fail
        have G_ := G.out.put dn dq 11 (.int .u32 (at_ xs 40 4)) (cs' := decA (at_ xs 0 1) (at_ xs 2 2) (at_ xs 4 4) (dirA xs 8) (at_ xs 40 4) 0) (by simp [decA])
        clear G
        have G := Lib.hid G_
        clear G_
        have G_ := G.out.put dn dq 12 (.int .u32 (at_ xs 44 4)) (cs' := decA (at_ xs 0 1) (at_ xs 2 2) (at_ xs 4 4) (dirA xs 8) (at_ xs 40 4) (at_ xs 44 4)) (by simp [decA])
        clear G
        have G := Lib.hid G_
        clear G_
        refine (mZero p A m c 48 xs _ G.out.1 (G.out.2.1.reads HX.out.1 HX.out.2.2.1) hc (by omega)).mono ?_
        rintro e w8 ⟨rfl, hd⟩
        have G_ := G.out.drawn hd
        clear G hd z11 f11 z12 f12 zr fr
        have G := Lib.hid G_
        clear G_
        have fr := blk_frozen G.out.2.2.2 0
        have zr := (blk_cell G.out.2.2.2 0).trans rfl
        have z0 : w8.cell? ⟨qn, 0, none⟩ = some (.int .u8 (at_ xs 0 1)) := (blk_cell G.out.2.2.1 0).trans rfl
        cases hzz : (xs.drop 48).all (· == 0)
        · go_wp2_with fail
          have G_ := G.out.2.1.at_ (.inl (.inr (.inr rfl))) 0 (.bool false)
          have Q_ := blk_put G.out.2.2.2 0 (.bool false) (cs' := #[.bool false]) (by simp)
          have N_ := blk_far G.out.2.2.1 (p := ⟨qr, 0, none⟩) (Ne.symm dq) (.bool false)
          go_end0
          refine ⟨G_, .inl ⟨by rw [HL.out]; omega, rfl, N_, ?_⟩⟩
          rw [hz, hzz]
          simpa using Q_
        · go_wp2_with fail
          have G_ := G.out.2.1.at_ (.inl (.inr (.inr rfl))) 0 (.bool (decide (at_ xs 0 1 ≤ 2)))
          have Q_ := blk_put G.out.2.2.2 0 (.bool (decide (at_ xs 0 1 ≤ 2))) (cs' := #[.bool (decide (at_ xs 0 1 ≤ 2))]) (by simp)
          have N_ := blk_far G.out.2.2.1 (p := ⟨qr, 0, none⟩) (Ne.symm dq) (.bool (decide (at_ xs 0 1 ≤ 2)))
          go_end0
          refine ⟨G_, .inl ⟨by rw [HL.out]; omega, rfl, N_, ?_⟩⟩
          rw [hz, hzz]
          simpa using Q_
      · have hz : (at_ xs 1 1 == 0) = false := by simpa using hz0
        clear hz0
        go_wp2_with fail
        have G_ := G.out.put dn dq 11 (.int .u32 (at_ xs 40 4)) (cs' := decA (at_ xs 0 1) (at_ xs 2 2) (at_ xs 4 4) (dirA xs 8) (at_ xs 40 4) 0) (by simp [decA])
        clear G
        have G := Lib.hid G_
        clear G_
        have G_ := G.out.put dn dq 12 (.int .u32 (at_ xs 44 4)) (cs' := decA (at_ xs 0 1) (at_ xs 2 2) (at_ xs 4 4) (dirA xs 8) (at_ xs 40 4) (at_ xs 44 4)) (by simp [decA])
        clear G
        have G := Lib.hid G_
        clear G_
        clear z11 f11 z12 f12 zr fr
        have G_ := G.out.2.1.at_ (.inl (.inr (.inr rfl))) 0 (.bool false)
        have Q_ := blk_put G.out.2.2.2 0 (.bool false) (cs' := #[.bool false]) (by simp)
        have N_ := blk_far G.out.2.2.1 (p := ⟨qr, 0, none⟩) (Ne.symm dq) (.bool false)
        go_end0
        refine ⟨G_, .inl ⟨by rw [HL.out]; omega, rfl, N_, ?_⟩⟩
        rw [hz]
        simpa using Q_
end Go.Proofs.Ytdcelfoomjahjaa
