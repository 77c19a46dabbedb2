import Derived.Test.YtaomgddfkpcdhaaDoorXDir
import Derived.Test.YtaomgddfkpcdhaaDoorRdm
import Derived.Test.YtaomgddfkpcdhaaDoorOrd
import Derived.StillTailTactics
/-! dirent.Decode: its closure, itself. -/
set_option linter.unusedVariables false
set_option linter.unusedSimpArgs false
namespace Go.Proofs.YtaomgddfkpcdhaaDoor.XDir
open Go.RowKit Go.Proofs.YtaomgddfkpcdhaaDoorW.PrintWords Go.Proofs.YtaomgddfkpcdhaaDoorW.PrintLast Go.Proofs.YtaomgddfkpcdhaaDoorW.PrintMore
/-- What the closure leaves. -/
def DeS (w : World) (p gx gz m : Nat) (xs : List Int) (e : Ending) (w' : World) : Prop :=
  Mods (fun i => i = p ∨ i = gx ∨ i = gz) w w' ∧ ((e = .returned (.tuple #[]) ∧ ∃ n : Nat, num ((xs.drop 4).take 1) = n ∧ 5 + n ≤ m ∧ w'.heap[gx]? = some (.cells #[.int .u32 (num ((xs.drop 0).take 4)), .string (strOfNums ((xs.drop 5).take n))] 26 (0, 0)) ∧
      w'.heap[gz]? = some (.cells #[.bool ((xs.drop (5 + n)).all (· == 0))] 4 (0, 0))) ∨ ((∃ k, e = .panicked (shortP k)) ∧ (m < 5 ∨ ∃ n : Nat, num ((xs.drop 4).take 1) = n ∧ m < 5 + n)))
/-- Where the reading stands. -/
def DeG (w : World) (p gx gz : Nat) (A : Option Addr) (m c : Nat) (k : Nat) (cs : Array Value) (W : World) : Prop :=
  RdV W p A m c (k : Int) ∧ Mods (fun i => i = p ∨ i = gx ∨ i = gz) w W ∧ W.heap[gx]? = some (.cells cs 26 (0, 0)) ∧ W.heap[gz]? = some (.cells #[.bool false] 4 (0, 0))
theorem DeG.step {w : World} {p gx gz : Nat} {A : Option Addr} {m c k k' : Nat} {cs : Array Value} {W W' : World} (h : DeG w p gx gz A m c k cs W) (dn : gx ≠ p) (dr : gz ≠ p) (h1 : RdV W' p A m c (k' : Int)) (h2 : Mods (fun i => i = p) W W') : DeG w p gx gz A m c k' cs W' :=
  ⟨h1, h.2.1.trans (h2.mono (fun i e => .inl e)), h2.blk h.2.2.1 dn, h2.blk h.2.2.2 dr⟩
theorem DeG.put {w : World} {p gx gz : Nat} {A : Option Addr} {m c k : Nat} {cs cs' : Array Value} {W : World} (h : DeG w p gx gz A m c k cs W) (dn : gx ≠ p) (dq : gz ≠ gx) (o : Nat) (v : Value) (e : cs.setIfInBounds o v = cs') : DeG w p gx gz A m c k cs' (W.setCell ⟨gx, o, none⟩ v) :=
  ⟨blk_far h.1 (p := ⟨gx, o, none⟩) (Ne.symm dn) v, h.2.1.at_ (.inl (.inr (.inl rfl))) o v, blk_put h.2.2.1 o v e, blk_far h.2.2.2 (p := ⟨gx, o, none⟩) dq v⟩
theorem DeG.drawn {w : World} {p gx gz : Nat} {A : Option Addr} {m c k : Nat} {cs : Array Value} {W W' : World} (h : DeG w p gx gz A m c k cs W) (hd : Drawn0 W W') : DeG w p gx gz A m c k cs W' :=
  ⟨blk_below h.1 hd.below, h.2.1.trans (Mods.of_below hd.below), blk_below h.2.2.1 hd.below, blk_below h.2.2.2 hd.below⟩
set_option maxHeartbeats 4000000 in
set_option maxRecDepth 100000 in
theorem dec1_any (p gx gz : Nat) (A : Option Addr) (m c : Nat) (xs : List Int) (w : World) (h : RdV w p A m c ((0 : Nat) : Int)) (hr : ReadsInt w .u8 A m xs) (hb : Byt xs) (hc : m ≤ c) (hne : ∀ a, A = some a → a.block ≠ p ∧ a.block ≠ gx ∧ a.block ≠ gz)
    (hn : w.heap[gx]? = some (.cells #[.int .u32 0, .string ⟨#[]⟩] 26 (0, 0))) (hq : w.heap[gz]? = some (.cells #[.bool false] 4 (0, 0))) (dn : gx ≠ p) (dr : gz ≠ p) (dq : gz ≠ gx) :
    Calls Tryd.prog 9 #[.pointer (some ⟨p, 0, none⟩), .pointer (some ⟨gx, 0, none⟩), .pointer (some ⟨gz, 0, none⟩)] w (DeS w p gx gz m xs) := by
  have hm := hr.2.1
  have HL := Lib.hid hr.1
  have HX := Lib.hid (And.intro hr (And.intro hb (And.intro (show ∀ a, A = some a → ¬ (a.block = p ∨ a.block = gx ∨ a.block = gz) from fun a ha e => by have h_ := hne a ha; omega) (show ∀ a, A = some a → a.block ≠ p from fun a ha => (hne a ha).1))))
  have G := Lib.hid (show DeG w p gx gz A m c 0 _ w from ⟨h, Mods.refl _ w, hn, hq⟩)
  clear h hr hb hne hn hq
  go_enter Tryd.func9, Tryd.ntmps9
  go_wp2_with fail
  by_cases c1 : m < 0 + 4
  · refine (mU32_no p A m c (0) _ G.out.1 (by omega) hm (by omega)).mono ?_
    rintro e w9 ⟨rfl, h9⟩
    exact ⟨rfl, G.out.2.1.trans (h9.mono (fun i e => .inl e)), .inr ⟨⟨_, rfl⟩, .inl (by omega)⟩⟩
  refine (mU32_yes p A m c (0) xs _ G.out.1 (G.out.2.1.reads HX.out.1 HX.out.2.2.1) HX.out.2.1 hc (by omega) HX.out.2.2.2).mono ?_
  rintro e w1 ⟨rfl, h1, h2⟩
  have G_ := G.out.step dn dr h1 h2
  clear G h1 h2
  have G := Lib.hid G_
  clear G_
  have z0 := (blk_cell G.out.2.2.1 0).trans rfl
  have f0 := blk_frozen G.out.2.2.1 0
  obtain ⟨nd, hnd⟩ : ∃ nd, num ((xs.drop 0).take 4) = nd := ⟨_, rfl⟩
  rw [hnd]
  go_wp2_with fail
  have G_ := G.out.put dn dq 0 (.int .u32 nd) (cs' := #[.int .u32 nd, .string ⟨#[]⟩]) (by simp)
  clear G
  have G := Lib.hid G_
  clear G_ z0 f0
  obtain ⟨W1, hW1⟩ : ∃ W1, w1.setCell ⟨gx, 0, none⟩ (.int .u32 nd) = W1 := ⟨_, rfl⟩
  rw [hW1] at G ⊢
  clear hW1
  by_cases c2 : m < 4 + 1
  · refine (mText_no1 p A m c (4) _ G.out.1 (by omega) hm (by omega)).mono ?_
    rintro e w9 ⟨rfl, h9⟩
    exact ⟨rfl, G.out.2.1.trans (h9.mono (fun i e => .inl e)), .inr ⟨⟨_, rfl⟩, .inl (by omega)⟩⟩
  have hnb := num_bound ((xs.drop 4).take 1) (fun x hx => HX.out.2.1 x (List.mem_of_mem_drop (List.mem_of_mem_take hx)))
  obtain ⟨n, hn⟩ := Int.eq_ofNat_of_zero_le hnb.1
  clear hnb
  have HNN := Lib.hid hn
  clear hn
  by_cases c3 : m < 4 + 1 + n
  · refine (mText_no2 p A m c (4) n xs _ G.out.1 (G.out.2.1.reads HX.out.1 HX.out.2.2.1) HX.out.2.1 hc HNN.out (by omega) (by omega) HX.out.2.2.2).mono ?_
    rintro e w9 ⟨rfl, h9⟩
    exact ⟨rfl, G.out.2.1.trans (h9.mono (fun i e => .inl e)), .inr ⟨⟨_, rfl⟩, .inr ⟨n, HNN.out, by omega⟩⟩⟩
  refine (mText_yes p A m c (4) n xs _ G.out.1 (G.out.2.1.reads HX.out.1 HX.out.2.2.1) HX.out.2.1 hc HNN.out (by omega) HX.out.2.2.2).mono ?_
  rintro e w2 ⟨rfl, h1, h2⟩
  have G_ := G.out.step dn dr h1 h2
  clear G h1 h2
  have G := Lib.hid G_
  clear G_
  have z1 := (blk_cell G.out.2.2.1 1).trans rfl
  have f1 := blk_frozen G.out.2.2.1 1
  obtain ⟨nm, hnm⟩ : ∃ nm, strOfNums ((xs.drop (4 + 1)).take n) = nm := ⟨_, rfl⟩
  rw [hnm]
  go_wp2_with fail
  have G_ := G.out.put dn dq 1 (.string nm) (cs' := #[.int .u32 nd, .string nm]) (by simp)
  clear G
  have G := Lib.hid G_
  clear G_ z1 f1
  obtain ⟨W2, hW2⟩ : ∃ W2, w2.setCell ⟨gx, 1, none⟩ (.string nm) = W2 := ⟨_, rfl⟩
  rw [hW2] at G ⊢
  clear hW2
  refine (mZero p A m c (4 + 1 + n) xs _ G.out.1 (G.out.2.1.reads HX.out.1 HX.out.2.2.1) hc (by omega)).mono ?_
  rintro e w3 ⟨rfl, hd⟩
  have G_ := G.out.drawn hd
  clear G hd
  have G := Lib.hid G_
  clear G_
  have zr := (blk_cell G.out.2.2.2 0).trans rfl
  have fr := blk_frozen G.out.2.2.2 0
  obtain ⟨bz, hbz⟩ : ∃ bz, (xs.drop (4 + 1 + n)).all (· == 0) = bz := ⟨_, rfl⟩
  rw [hbz]
  go_wp2_with fail
  have G_ := G.out.2.1.at_ (.inl (.inr (.inr rfl))) 0 (.bool bz)
  have Q_ := blk_put G.out.2.2.2 0 (.bool bz) (cs' := #[.bool bz]) (by simp)
  have N_ := blk_far G.out.2.2.1 (p := ⟨gz, 0, none⟩) (Ne.symm dq) (.bool bz)
  go_end0
  refine ⟨G_, .inl ⟨rfl, n, HNN.out, by omega, ?_, ?_⟩⟩
  · rw [hnd, hnm]; exact N_
  · rw [hbz]; exact Q_
end Go.Proofs.YtaomgddfkpcdhaaDoor.XDir
