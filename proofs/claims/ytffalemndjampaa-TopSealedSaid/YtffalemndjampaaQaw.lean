/- What the proof of TopSealed leans on: Tu Tv Tw. -/
import Derived.Test.YtffalemndjampaaQav
section
set_option linter.unusedVariables false
set_option linter.unusedSimpArgs false
namespace Go.Proofs.Ytffalemndjampaa
open Go.RowKit Go.Proofs.YtffalemndjampaaW.PrintWords Go.Proofs.YtffalemndjampaaW.PrintLast
theorem Mods.grown_ {S : Nat → Prop} {w w1 w2 : World} {row : Option Nat} (h : Mods S w w1) (g : w1.grownBy w2 row) (hr : ∀ k, row = some k → S k ∨ w.heap.size ≤ k) : Mods S w w2 :=
 ⟨g.os.trans h.os, g.tape.trans h.tape, g.output.trans h.output, Nat.le_trans h.size g.size, fun k hk hs => (g.block k (Nat.lt_of_lt_of_le hk h.size) (fun e => by
  rcases hr k e.symm with h1 | h1
  ·exact hs h1
  ·omega)).trans (h.block k hk hs)⟩
theorem grown_blk {w w' : World} {row : Option Nat} (g : w.grownBy w' row) {b : Nat} {o : Obj} (h : w.heap[b]? = some o) (hb : some b ≠ row) : w'.heap[b]? = some o := (g.block b (blk_lt h) hb).trans h
theorem own_grown {w w' : World} {row : Option Nat} (g : w.grownBy w' row) {B n sz : Nat} {e : TypeId} {v : Value} {xs : List Value} (h : w.ownsRow B e sz v n xs) (hr : ∀ k, v.ownBlock = some k → row ≠ some k) : w'.ownsRow B e sz v n xs := by
 obtain ⟨h1, h2⟩ := h
 rcases h2 with h3 | ⟨b, cap, cur, e1, hg, r1, r2⟩
 ·exact ⟨h1, .inl h3⟩
 ·subst e1
  exact ⟨h1, .inr ⟨b, cap, cur, rfl, hg, grown_blk g r1 (fun e => hr b rfl e.symm), r2⟩⟩
theorem appN {w : World} {base n g : Nat} {v : Value} {xs : List Int} {b : Int} (hown : w.ownsRow base 3 1 v n (nums .i64 xs)) (hl : w.cell? ⟨g, 0, none⟩ = some (.int .i64 b)) (hn : n ≤ 100) (hbase : base ≤ w.heap.size) :
  ∃ g' c' w', (Builtin.append_ #[46, 46] 46 #[v, .slice (some ⟨g, 0, none⟩) 1 1]).run Try.prog w = .ok (.slice (some ⟨g', 0, none⟩) (n + 1) c') w' ∧ w'.ownsRow base 3 1 (.slice (some ⟨g', 0, none⟩) (n + 1) c') (n + 1) (nums .i64 (xs ++ [b])) ∧ w.grownBy w' v.ownBlock := by
 obtain ⟨i0, hi, hzz⟩ := Option.map_eq_some_iff.1 infoI
 simp only [Prod.mk.injEq] at hzz
 obtain ⟨hz0, hz1, hz2⟩ := hzz
 obtain ⟨v', w', hr, ho, hg, -⟩ := run_append_own_wide (P := Try.prog) w base 46 46 3 i0 (.int .i64 0) 1 8 Try.underlying46 hi hz0 hz1 hz2 rfl (by decide) v n (nums .i64 xs) hown ⟨g, 0, none⟩ 1 1 [.int .i64 b] rfl (fun j u hu => by
  cases j with
  | zero => obtain rfl := Option.some.inj hu; exact hl
  | succ j => simp at hu) (fun u hu => by obtain rfl := List.mem_singleton.1 hu; rfl) (by simp only [maxLen]; omega) (by omega) hbase
 have e : nums .i64 xs ++ [Value.int .i64 b] = nums .i64 (xs ++ [b]) := by simp [nums]
 rw [e] at ho
 rcases ho.2 with ⟨_, h0⟩ | ⟨g', c', cur, rfl, _⟩
 ·omega
 ·exact ⟨g', c', w', hr, ho, hg⟩
theorem by1 (xs : List Int) (k : Nat) (x : Int) (h : xs[k]? = some x) (h0 : 0 ≤ x) : num ((xs.drop k).take 1) = x := by
 obtain ⟨hk, e⟩ := List.getElem?_eq_some_iff.1 h
 rw [List.drop_eq_getElem_cons hk, e]
 simp [num]
theorem tbD_at (T : Tb) (hl : T.place.length = 11) : (tbD T)[4]? = some 11 ∧ (∀ j x, T.place[j]? = some x → (tbD T)[5 + j]? = some x) ∧ (tbD T)[16]? = some (T.spare.length : Int) ∧ (∀ j x, T.spare[j]? = some x → (tbD T)[17 + j]? = some x) ∧ (tbD T)[17 + T.spare.length]? = some T.t0 ∧ (tbD T)[18 + T.spare.length]? = some T.t1 ∧ (tbD T).drop (19 + T.spare.length) = List.replicate (256 - (encL T).length) 0 ∧ (tbD T).take 4 = le T.seq 4 := by
 obtain ⟨seq, pl, sp, t0, t1⟩ := T
 simp only at hl
 obtain ⟨Z, hZ⟩ : ∃ Z, List.replicate (256 - (encL ⟨seq, pl, sp, t0, t1⟩).length) (0 : Int) = Z := ⟨_, rfl⟩
 have e : tbD ⟨seq, pl, sp, t0, t1⟩ = le seq 4 ++ (11 :: (pl ++ ((sp.length : Int) :: (sp ++ (t0 :: t1 :: Z))))) := by
  simp only [tbD]; rw [hZ]; simp only [encL]; simp
 have h4 : (le seq 4).length = 4 := le_length _ _
 have A : ∀ k, (tbD ⟨seq, pl, sp, t0, t1⟩)[4 + k]? = ((11 : Int) :: (pl ++ ((sp.length : Int) :: (sp ++ (t0 :: t1 :: Z)))))[k]? := fun k => by
  rw [e, List.getElem?_append_right (by omega), h4]; congr 1; omega
 have P : ∀ k, (tbD ⟨seq, pl, sp, t0, t1⟩)[16 + k]? = ((sp.length : Int) :: (sp ++ (t0 :: t1 :: Z)))[k]? := fun k => by
  rw [show 16 + k = 4 + (12 + k) by omega, A, show 12 + k = (11 + k) + 1 by omega, List.getElem?_cons_succ, List.getElem?_append_right (by omega), hl]; congr 1; omega
 refine ⟨A 0, fun j x hx => ?_, P 0, fun j x hx => ?_, ?_, ?_, ?_, ?_⟩
 ·have hj := (List.getElem?_eq_some_iff.1 hx).1
  rw [show 5 + j = 4 + (j + 1) by omega, A, List.getElem?_cons_succ, List.getElem?_append_left hj]; exact hx
 ·have hj := (List.getElem?_eq_some_iff.1 hx).1
  rw [show 17 + j = 16 + (j + 1) by omega, P, List.getElem?_cons_succ, List.getElem?_append_left hj]; exact hx
 ·rw [show 17 + sp.length = 16 + (sp.length + 1) by omega, P, List.getElem?_cons_succ, List.getElem?_append_right (Nat.le_refl _), Nat.sub_self]; rfl
 ·rw [show 18 + sp.length = 16 + ((sp.length + 1) + 1) by omega, P, List.getElem?_cons_succ, List.getElem?_append_right (by omega), show sp.length + 1 - sp.length = 1 by omega]; rfl
 ·simp only [tbD, hZ]
  rw [List.drop_append_of_le_length (by simp [encL, h4, hl]; omega), List.drop_of_length_le (by simp [encL, h4, hl]; omega), List.nil_append]
 ·rw [e, List.take_append_of_le_length (by omega), List.take_of_length_le (by omega)]
def TuA.T3 : Bool × List (List Nat × List Nat) := (true, [([], []), ([0], [0]), ([], []), ([2], [2]), ([3], [3]), ([4], [4]), ([1, 5, 3], [1, 5]), ([0, 1, 2, 3, 4, 5, 6], []), ([7, 6, 6, 0, 1, 2, 3, 4, 5, 6], [6, 7])])
def TuA.B3 : List Nat := [0, 1, 0, 4, 12, 28, 63, 127, 255]
theorem TuA.tab3 : rtab .any (opsOf Try.f63 3) = TuA.T3 := by kernel_rfl
theorem TuA.bits3 : waitsOk TuA.T3.2 TuA.B3 = true := by kernel_rfl
def TuB.T7 : Bool × List (List Nat × List Nat) := (true, [([], []), ([0], [0]), ([], []), ([2], [2]), ([3], [3]), ([4], [4]), ([1, 5, 3], [1, 5]), ([0, 1, 2, 3, 4, 5, 6], []), ([7, 6, 6, 0, 1, 2, 3, 4, 5, 6], [6, 7])])
def TuB.B7 : List Nat := [0, 1, 0, 4, 12, 28, 63, 127, 255]
theorem TuB.tab7 : rtab .any (opsOf Try.f63 7) = TuB.T7 := by kernel_rfl
theorem TuB.bits7 : waitsOk TuB.T7.2 TuB.B7 = true := by kernel_rfl
theorem tb_of_own {w : World} {B B2 sn : Nat} {seq t0 t1 : Int} {PV SV : Value} {pl sp : List Int} (hp : w.ownsRow B 3 1 PV 11 (nums .i64 pl)) (hs : w.ownsRow B2 3 1 SV sn (nums .i64 sp)) (hn : sp.length = sn) (h3 : sn ≤ 3) (hB : B ≤ B2) :
  TbR w (fun k => B ≤ k) #[.int .u32 seq, PV, SV, .int .i64 t0, .int .i64 t1] ⟨seq, pl, sp, t0, t1⟩ := by
 rcases hp.2 with ⟨_, h0⟩ | ⟨gx, cx, cur, rfl, hg, _, hc, _⟩
 ·omega
 rcases hs.2 with ⟨rfl, rfl⟩ | ⟨gy, cy, cur2, rfl, hg2, _, hc2, _⟩
 ·exact TbR.mk_ (T := ⟨seq, pl, sp, t0, t1⟩) 0 hn hc (Nat.le_refl 0) h3 (own_reads' hp) ⟨hn, Nat.zero_le _, fun h_ => absurd h_ (Nat.lt_irrefl 0)⟩ hg (fun x hx => by cases hx)
 ·exact TbR.mk_ (T := ⟨seq, pl, sp, t0, t1⟩) sn hn hc hc2 h3 (own_reads' hp) (own_reads' hs) hg (fun x hx => by obtain rfl := Option.some.inj hx; exact Nat.le_trans hB hg2)
def DecQ (w : World) (p qt qz : Nat) (T : Tb) (e : Ending) (w' : World) : Prop :=
 Mods (fun i => i = p ∨ i = qt ∨ i = qz) w w' ∧ e = .returned (.tuple #[]) ∧ (∃ C, w'.heap[qt]? = some (.cells C 108 (0, 0)) ∧ TbR w' (fun k => w.heap.size ≤ k) C T) ∧ w'.heap[qz]? = some (.cells #[.bool true] 4 (0, 0))
set_option maxHeartbeats 16000000 in
set_option maxRecDepth 100000 in
theorem dec1_any (p qt qz : Nat) (A : Option Addr) (cA : Nat) (xs : List Int) (T : Tb) (wo : World) (h : RdV wo p A 256 cA ((0 : Nat) : Int)) (hr : ReadsInt wo .u8 A 256 xs) (hcA : 256 ≤ cA) (hxs : xs = tbD T) (hbx : Byt xs) (hT : TbOk T) (hlp : T.place.length = 11) (hls : T.spare.length ≤ 3)
  (hne : ∀ a, A = some a → a.block ≠ p ∧ a.block ≠ qt ∧ a.block ≠ qz) (hqt : wo.heap[qt]? = some (.cells #[.int .u32 0, .slice none 0 0, .slice none 0 0, .int .i64 0, .int .i64 0] 108 (0, 0))) (hqz : wo.heap[qz]? = some (.cells #[.bool false] 4 (0, 0))) (dn : qt ≠ p) (dr : qz ≠ p) (dq : qz ≠ qt) :
  Calls Try.prog 63 #[.pointer (some ⟨p, 0, none⟩), .pointer (some ⟨qt, 0, none⟩), .pointer (some ⟨qz, 0, none⟩)] wo (DecQ wo p qt qz T) := by
 have HN := Lib.hid (show qt ≠ p ∧ qz ≠ p ∧ qz ≠ qt ∧ p < wo.heap.size ∧ qt < wo.heap.size ∧ qz < wo.heap.size from ⟨dn, dr, dq, blk_lt h, blk_lt hqt, blk_lt hqz⟩)
 have HX := Lib.hid (show ReadsInt wo .u8 A 256 xs ∧ Byt xs ∧ (∀ a, A = some a → ¬ (a.block = p ∨ a.block = qt ∨ a.block = qz)) ∧ (∀ a, A = some a → a.block ≠ p) from ⟨hr, hbx, fun a ha e => by have h_ := hne a ha; omega, fun a ha => (hne a ha).1⟩)
 obtain ⟨d4, dpl, d16, dsp, d17, d18, dz, dsq⟩ := tbD_at T hlp
 rw [← hxs] at d4 dpl d16 dsp d17 d18 dz dsq
 have HTT := Lib.hid hT
 have hrg0 : ∀ x ∈ T.all, 0 ≤ x ∧ x < 256 := fun x hx => by have := hT.rng x hx; omega
 have hsq := And.intro hT.seq0 hT.seq1
 have hr0 := hrg0 T.t0 (by simp [Tb.all])
 have hr1 := hrg0 T.t1 (by simp [Tb.all])
 obtain ⟨seq, pl, sp, t0, t1⟩ := T
 simp only at d4 dpl d16 dsp d17 d18 dz dsq hlp hls hsq hr0 hr1
 obtain ⟨sn, hsn⟩ : ∃ sn, sp.length = sn := ⟨_, rfl⟩
 rw [hsn] at d16 d17 d18 dz hls
 have HLN := Lib.hid (And.intro hlp hsn)
 have HRG := Lib.hid hrg0
 have HAT := Lib.hid (And.intro dpl dsp)
 have B4 := Lib.hid (by1 xs 4 11 d4 (by decide))
 have B16 := Lib.hid (by1 xs 16 (sn : Int) d16 (by omega))
 have B17 := Lib.hid (by1 xs (17 + sn) t0 d17 hr0.1)
 have B18 := Lib.hid (by1 xs (17 + sn + 1) t1 (by rw [show 17 + sn + 1 = 18 + sn by omega]; exact d18) hr1.1)
 have B0 := Lib.hid (show num ((xs.drop 0).take 4) = seq from by rw [List.drop_zero, dsq]; exact num_le seq 4 hsq.1 (by have := hsq.2; omega))
 have BZ := Lib.hid (show ((xs.drop (17 + sn + 1 + 1)).all (· == 0)) = true from by rw [show 17 + sn + 1 + 1 = 19 + sn by omega, dz]; rw [List.all_eq_true]; intro x hx; rw [List.eq_of_mem_replicate hx]; rfl)
 have c0 : wrap64 11 = 11 := by unfold wrap64; rfl
 have c1 : wrap64 (sn : Int) = (sn : Int) := by unfold wrap64; omega
 have c2 : wrap64 t0 = t0 := by unfold wrap64; omega
 have c3 : wrap64 t1 = t1 := by unfold wrap64; omega
 have H0 := Lib.hid (And.intro h (And.intro hqt hqz))
 clear h hr hxs hbx hT hne hqt hqz dn dr dq d4 dpl d16 dsp d17 d18 dz dsq hrg0 hlp hsn hsq hr0 hr1
 go_enter Try.func63, Try.ntmps63
 go_wp2_with fail
 refine (mU32_yes p A 256 cA 0 xs wo H0.out.1 HX.out.1 HX.out.2.1 hcA (by omega) HX.out.2.2.2).mono ?_
 rintro e w1 ⟨he_, q1, q2⟩
 rw [B0.out] at he_
 subst he_
 have hq1 := q2.blk H0.out.2.1 HN.out.1
 have hz1 := q2.blk H0.out.2.2 HN.out.2.1
 have cc0 : w1.cell? ⟨qt, 0, none⟩ = some (.int .u32 0) := (blk_cell hq1 0).trans rfl
 have cf0 := blk_frozen hq1 0
 have H1 := Lib.hid (And.intro q1 (And.intro q2 (And.intro hq1 hz1)))
 clear q1 q2 hq1 hz1 H0
 go_wp2_with fail
 have hm2 := H1.out.2.1.mono (T := fun i => i = p ∨ i = qt ∨ i = qz) (fun i e => .inl e)
 have hm3 := hm2.at_ (p := qt) (.inl (.inr (.inl rfl))) 0 (.int .u32 seq)
 have H2 := Lib.hid (show RdV (w1.setCell ⟨qt, 0, none⟩ (.int .u32 seq)) p A 256 cA ((4 : Nat) : Int) ∧ Mods (fun i => i = p ∨ i = qt ∨ i = qz) wo (w1.setCell ⟨qt, 0, none⟩ (.int .u32 seq)) ∧ (w1.setCell ⟨qt, 0, none⟩ (.int .u32 seq)).heap[qt]? = some (.cells #[.int .u32 seq, .slice none 0 0, .slice none 0 0, .int .i64 0, .int .i64 0] 108 (0, 0)) ∧ (w1.setCell ⟨qt, 0, none⟩ (.int .u32 seq)).heap[qz]? = some (.cells #[.bool false] 4 (0, 0)) from
  ⟨blk_far H1.out.1 (p := ⟨qt, 0, none⟩) (Ne.symm HN.out.1) _, hm3, blk_put H1.out.2.2.1 0 _ rfl, blk_far H1.out.2.2.2 (p := ⟨qt, 0, none⟩) HN.out.2.2.1 _⟩)
 clear hm2 hm3 cc0 cf0
 generalize w1.setCell ⟨qt, 0, none⟩ (.int .u32 seq) = w2 at H2 ⊢
 clear H1
 refine (mU8_yes p A 256 cA 4 xs w2 H2.out.1 (H2.out.2.1.reads HX.out.1 HX.out.2.2.1) HX.out.2.1 hcA (by omega) HX.out.2.2.2).mono ?_
 rintro e w3 ⟨he_, q1, q2⟩
 rw [B4.out] at he_
 subst he_
 have HI0 := Lib.hid (show RdV w3 p A 256 cA ((5 : Nat) : Int) ∧ Mods (fun i => i = p ∨ i = qt ∨ i = qz) wo w3 ∧ w3.heap[qt]? = some (.cells #[.int .u32 seq, .slice none 0 0, .slice none 0 0, .int .i64 0, .int .i64 0] 108 (0, 0)) ∧ w3.heap[qz]? = some (.cells #[.bool false] 4 (0, 0)) from
  ⟨q1, H2.out.2.1.trans (q2.mono (fun i e => .inl e)), q2.blk H2.out.2.2.1 HN.out.1, q2.blk H2.out.2.2.2 HN.out.2.1⟩)
 clear q1 q2 H2
 go_wp2_with fail
 go_loopw [10] (fun i wr => ∃ (j : Nat) (PV : Value), i = .int .i64 (j : Int) ∧ j ≤ 11 ∧ Hid (RdV wr p A 256 cA ((5 + j : Nat) : Int) ∧ Mods (fun i => i = p ∨ i = qt ∨ i = qz) wo wr ∧ wr.heap[qt]? = some (.cells #[.int .u32 seq, PV, .slice none 0 0, .int .i64 0, .int .i64 0] 108 (0, 0)) ∧ wr.heap[qz]? = some (.cells #[.bool false] 4 (0, 0)) ∧ wr.ownsRow wo.heap.size 3 1 PV j (nums .i64 (pl.take j)) ∧ wo.heap.size ≤ wr.heap.size)) (fun i _ => 11 - (intOf i).toNat)
 case atStart => exact ⟨0, .slice none 0 0, rfl, by omega, Lib.hid ⟨HI0.out.1, HI0.out.2.1, HI0.out.2.2.1, HI0.out.2.2.2, own_nil _ _ _ _, HI0.out.2.1.size⟩⟩
 case round =>
  obtain ⟨j, PV, rfl, hj, HI⟩ := hrel
  clear HI0
  by_cases hlt : j < 11
  ·have hlt' : j < 11 := by omega
   obtain ⟨b8, hb8⟩ : ∃ b8, pl.getD j 0 = b8 := ⟨_, rfl⟩
   have hjl : j < pl.length := by rw [HLN.out.1]; exact hlt'
   have hget : pl[j]? = some b8 := by rw [← hb8, List.getD_eq_getElem?_getD, List.getElem?_eq_getElem hjl]; rfl
   have hrg := HRG.out b8 (by simp only [Tb.all, List.mem_append]; exact .inl (List.mem_of_getElem? hget))
   have HB8 := Lib.hid (show 0 ≤ b8 ∧ b8 < 256 ∧ wrap64 b8 = b8 from ⟨hrg.1, by omega, by unfold wrap64; omega⟩)
   have HBy := Lib.hid (by1 xs (5 + j) b8 (HAT.out.1 j b8 hget) hrg.1)
   have htk : pl.take (j + 1) = pl.take j ++ [b8] := by
    rw [List.take_succ_eq_append_getElem hjl]
    have h_ := (List.getElem?_eq_some_iff.1 hget).2
    rw [h_]
   have HTK := Lib.hid htk
   have hj2 : (j : Int) < (11 : Int) := by omega
   clear htk hb8 hjl hget hrg
   go_wp2_with fail
   refine start_ (n := 9) (S := fun w' => True) (ds := []) _ (by kernel_rfl) rfl rfl trivial (fun hHeld => ?_)
   refine with_tabW TuA.tab3 TuA.bits3 (fun HT_ HW_ => ?_)
   have HNz := HN
   have HXz := HX
   have HB8z := HB8
   have MM := Lib.hid (show Mods (fun i => i = p ∨ i = qt ∨ i = qz) wo wr.drew from ⟨HI.out.2.1.os, HI.out.2.1.tape, HI.out.2.1.output, HI.out.2.1.size, HI.out.2.1.block⟩)
   have HZ := Lib.hid (show wr.drew.heap[qz]? = some (.cells #[.bool false] 4 (0, 0)) from HI.out.2.2.2.1)
   have R0 := Lib.hid (show RdV wr.drew p A 256 cA (((5 + j) : Nat) : Int) from HI.out.1)
   have HQ := Lib.hid (show wr.drew.heap[qt]? = some (.cells #[.int .u32 seq, PV, .slice none 0 0, .int .i64 0, .int .i64 0] 108 (0, 0)) from HI.out.2.2.1)
   have OP := Lib.hid (show wr.drew.ownsRow wo.heap.size 3 1 PV j (nums .i64 (pl.take j)) from HI.out.2.2.2.2.1)
   have HB := Lib.hid (show wo.heap.size ≤ wr.drew.heap.size from HI.out.2.2.2.2.2)
   generalize wr.drew = wz at MM HZ R0 HQ OP HB hHeld ⊢
   refine pur_ 0 (some 12) HT_.out rfl rfl (by kernel_rfl) (fun _ _ _ h => h) (by rfl) (fun w' => by go_simp; with_reducible rfl) (by simp only [Act.put, List.setIfInBounds_toArray, List.set_cons_zero, List.set_cons_succ, i64_w, i32_w]; rfl) ?_
   refine pur_ 2 (some 14) HT_.out rfl rfl (by kernel_rfl) (fun _ _ _ h => h) (by rfl) (fun w' => by go_simp; with_reducible rfl) (by simp only [Act.put, List.setIfInBounds_toArray, List.set_cons_zero, List.set_cons_succ, i64_w, i32_w]; rfl) ?_
   refine inv_at [1, 3, 4, 5, 6, 7, 8] (fun a0_ b a w' => ∃ (x0 : Nat) (xg : Nat) (xc : Nat) (m5_ : Value) (m6_ : Value), a = putSel a0_ b [(1, 13, PV), (3, 15, .int .u8 b8), (4, 16, .int .i64 b8), (5, 17, m5_), (6, 18, m6_), (7, 19, .pointer (some ⟨qt, 1, none⟩))] ∧ (Mods (fun i => i = p ∨ i = qt ∨ i = qz) wo w') ∧ (wo.heap.size ≤ w'.heap.size) ∧ (w'.heap[qz]? = some (.cells #[.bool false] 4 (0, 0))) ∧ (b 3 = false → RdV w' p A 256 cA (((5 + j) : Nat) : Int)) ∧ (b 3 = true → RdV w' p A 256 cA (((5 + j) + 1 : Nat) : Int)) ∧ (b 8 = false → w'.heap[qt]? = some (.cells #[.int .u32 seq, PV, .slice none 0 0, .int .i64 0, .int .i64 0] 108 (0, 0))) ∧ (b 8 = true → w'.heap[qt]? = some (.cells #[.int .u32 seq, .slice (some ⟨xg, 0, none⟩) (j + 1) xc, .slice none 0 0, .int .i64 0, .int .i64 0] 108 (0, 0))) ∧ (b 6 = false → w'.ownsRow wo.heap.size 3 1 PV j (nums .i64 (pl.take j))) ∧ (b 6 = true → w'.ownsRow wo.heap.size 3 1 (.slice (some ⟨xg, 0, none⟩) (j + 1) xc) (j + 1) (nums .i64 ((pl.take j) ++ [b8]))) ∧ (b 5 = true → b 6 = false → w'.cell? ⟨x0, 0, none⟩ = some (.int .i64 b8)) ∧ (b 5 = true → (m5_ : Value) = .slice (some ⟨x0, 0, none⟩) 1 1) ∧ (b 6 = true → (m6_ : Value) = .slice (some ⟨xg, 0, none⟩) (j + 1) xc)) HT_.out HW_.out (by kernel_rfl) (by kernel_rfl) ?_ ?_ ?_
   ·exact ⟨0, 0, 0, .bool false, .bool false, by simp only [putSel, Bool.false_eq_true, if_false], MM.out, HB.out, HZ.out, fun _ => R0.out, fun h_ => absurd h_ (by decide), fun _ => HQ.out, fun h_ => absurd h_ (by decide), fun _ => OP.out, fun h_ => absurd h_ (by decide), fun h_ => absurd h_ (by decide), fun h_ => absurd h_ (by decide), fun h_ => absurd h_ (by decide)⟩
   ·skip
    clear HB HQ HZ MM OP R0
    refine steps_cons ?_ ?_
    ·rintro b a w' ⟨x0, xg, xc, m5_, m6_, ha, Q_MM, Q_HB, Q_HZ, Q_R0, Q_R1, Q_HQ, Q_HQ1, Q_OP, Q_OP1, Q_LT, Q_X5_, Q_X6_⟩ hb_ hon hoff
     refine ⟨_, rfl, fun K hK => ?_⟩
     have e12 : a.tmps[12]? = some (.pointer (some ⟨qt, 1, none⟩)) := by rw [ha]; exact (putSel_off rfl).trans rfl
     replace ha := Aside0.mk ha
     have MM := Aside0.mk Q_MM
     have HB := Aside0.mk Q_HB
     have HZ := Aside0.mk Q_HZ
     have HQ := Aside0.mk (Q_HQ (hoff 8 (by kernel_rfl)))
     have OP := Aside0.mk (Q_OP (hoff 6 (by kernel_rfl)))
     have hc_ : w'.cell? ⟨qt, 1, none⟩ = some PV := (blk_cell HQ.out 1).trans rfl
     refine value_ (w1 := w') (v := PV) (by rfl) rfl ?_ ?_
     ·go_simp
      (try simp only [i64_w])
      try rfl
     refine hK.out _ _ ⟨x0, xg, xc, m5_, m6_, (ptup_ ha.out 0 hb_ rfl rfl rfl), Q_MM, Q_HB, Q_HZ, Q_R0, Q_R1, Q_HQ, off_ (hoff 8 (by kernel_rfl)), Q_OP, off_ (hoff 6 (by kernel_rfl)), Q_LT, Q_X5_, off_ (hoff 6 (by kernel_rfl))⟩
    refine steps_cons ?_ ?_
    ·rintro b a w' ⟨x0, xg, xc, m5_, m6_, ha, Q_MM, Q_HB, Q_HZ, Q_R0, Q_R1, Q_HQ, Q_HQ1, Q_OP, Q_OP1, Q_LT, Q_X5_, Q_X6_⟩ hb_ hon hoff
     refine ⟨_, rfl, fun K hK => ?_⟩
     have e14 : a.tmps[14]? = some (.pointer (some ⟨p, 0, none⟩)) := by rw [ha]; exact (putSel_off rfl).trans rfl
     replace ha := Aside0.mk ha
     have MM := Aside0.mk Q_MM
     have HB := Aside0.mk Q_HB
     have HZ := Aside0.mk Q_HZ
     have R0 := Aside0.mk (Q_R0 hb_)
     have HQ := Aside0.mk (Q_HQ (hoff 8 (by kernel_rfl)))
     have OP := Aside0.mk (Q_OP (hoff 6 (by kernel_rfl)))
     refine goes_ Try.func49 (by kernel_rfl) rfl #[.pointer (some ⟨p, 0, none⟩)] (by rfl) rfl rfl (by first | (simp only [List.map_toArray, List.map_cons, List.map_nil, Act.eval, Array.getD_eq_getD_getElem?, Option.getD_some, e14]; done) | (simp only [List.map_toArray, List.map_cons, List.map_nil, Act.eval, Array.getD_eq_getD_getElem?, Option.getD_some, e14]; rfl)) ?_
     refine (mU8_yes p A 256 cA (5 + j) xs w' R0.out (MM.out.reads HXz.out.1 HXz.out.2.2.1) HXz.out.2.1 hcA (by omega) HXz.out.2.2.2).mono ?_
     rintro e w1 ⟨he_, q1, q2⟩
     rw [HBy.out] at he_
     subst he_
     refine ⟨_, rfl, ?_⟩
     refine hK.out _ _ ⟨x0, xg, xc, m5_, m6_, (ptup_ ha.out 1 hb_ rfl rfl rfl), MM.out.trans (q2.mono (fun i e => .inl e)), Nat.le_trans HB.out q2.size, q2.blk HZ.out HNz.out.2.1, fun h0_ => absurd ((up_self b 3).symm.trans h0_) (by decide), fun _ => q1, fun _ => q2.blk HQ.out HNz.out.1, off_ (hoff 8 (by kernel_rfl)), fun _ => own_mods OP.out q2 (fun k hk e => by have h_ := (OP.out.lt k (hk)).1; have h2_ := HNz.out; omega), off_ (hoff 6 (by kernel_rfl)), fun h0_ _ => off_ (hoff 5 (by kernel_rfl)) h0_, off_ (hoff 5 (by kernel_rfl)), off_ (hoff 6 (by kernel_rfl))⟩
    refine steps_cons ?_ ?_
    ·rintro b a w' ⟨x0, xg, xc, m5_, m6_, ha, Q_MM, Q_HB, Q_HZ, Q_R0, Q_R1, Q_HQ, Q_HQ1, Q_OP, Q_OP1, Q_LT, Q_X5_, Q_X6_⟩ hb_ hon hoff
     refine ⟨_, rfl, fun K hK => ?_⟩
     have e15 : a.tmps[15]? = some (.int .u8 b8) := pton_ ha 1 rfl rfl (hon 3 (by kernel_rfl)) rfl
     replace ha := Aside0.mk ha
     have MM := Aside0.mk Q_MM
     have HB := Aside0.mk Q_HB
     have HZ := Aside0.mk Q_HZ
     have R1 := Aside0.mk (Q_R1 (hon 3 (by kernel_rfl)))
     have HQ := Aside0.mk (Q_HQ (hoff 8 (by kernel_rfl)))
     have OP := Aside0.mk (Q_OP (hoff 6 (by kernel_rfl)))
     refine value_ (w1 := w') (v := .int .i64 b8) (by rfl) rfl ?_ ?_
     ·go_simp
      try simp only [i64_w]
      first | rfl | (simp only [HB8z.out.2.2]) | (rw [HB8z.out.2.2])
     refine hK.out _ _ ⟨x0, xg, xc, m5_, m6_, (ptup_ ha.out 2 hb_ rfl rfl rfl), MM.out, HB.out, HZ.out, fun h0_ => absurd ((hon 3 (by kernel_rfl)).symm.trans h0_) (by decide), fun _ => R1.out, fun _ => HQ.out, off_ (hoff 8 (by kernel_rfl)), fun _ => OP.out, off_ (hoff 6 (by kernel_rfl)), fun h0_ _ => off_ (hoff 5 (by kernel_rfl)) h0_, off_ (hoff 5 (by kernel_rfl)), off_ (hoff 6 (by kernel_rfl))⟩
    refine steps_cons ?_ ?_
    ·rintro b a w' ⟨x0, xg, xc, m5_, m6_, ha, Q_MM, Q_HB, Q_HZ, Q_R0, Q_R1, Q_HQ, Q_HQ1, Q_OP, Q_OP1, Q_LT, Q_X5_, Q_X6_⟩ hb_ hon hoff
     refine ⟨_, rfl, fun K hK => ?_⟩
     have e16 : a.tmps[16]? = some (.int .i64 b8) := pton_ ha 2 rfl rfl (hon 4 (by kernel_rfl)) rfl
     replace ha := Aside0.mk ha
     have MM := Aside0.mk Q_MM
     have HB := Aside0.mk Q_HB
     have HZ := Aside0.mk Q_HZ
     have R1 := Aside0.mk (Q_R1 (hon 3 (by kernel_rfl)))
     have HQ := Aside0.mk (Q_HQ (hoff 8 (by kernel_rfl)))
     have OP := Aside0.mk (Q_OP (hoff 6 (by kernel_rfl)))
     refine value_ (w1 := w'.alloc (.cells #[.int .i64 b8] 3)) (v := .slice (some ⟨w'.heap.size, 0, none⟩) 1 1) (by rfl) rfl ?_ ?_
     ·go_simp
      try rfl
     refine hK.out _ _ ⟨w'.heap.size, xg, xc, (.slice (some ⟨w'.heap.size, 0, none⟩) 1 1), m6_, (ptup_ ha.out 3 hb_ rfl rfl rfl), MM.out.alloc _, Nat.le_trans HB.out ((bl_alloc (Below.refl w'.heap.size w') (.cells #[.int .i64 b8] 3))).size, blk_below HZ.out (bl_alloc (Below.refl w'.heap.size w') (.cells #[.int .i64 b8] 3)), fun h0_ => absurd ((hon 3 (by kernel_rfl)).symm.trans h0_) (by decide), fun _ => blk_below R1.out (bl_alloc (Below.refl w'.heap.size w') (.cells #[.int .i64 b8] 3)), fun _ => blk_below HQ.out (bl_alloc (Below.refl w'.heap.size w') (.cells #[.int .i64 b8] 3)), off_ (hoff 8 (by kernel_rfl)), fun _ => OP.out.alloc _, off_ (hoff 6 (by kernel_rfl)), fun _ _ => (blk_cell (heap_alloc_new w' (.cells #[.int .i64 b8] 3)) 0).trans rfl, fun _ => rfl, off_ (hoff 6 (by kernel_rfl))⟩
    refine steps_cons ?_ ?_
    ·rintro b a w' ⟨x0, xg, xc, m5_, m6_, ha, Q_MM, Q_HB, Q_HZ, Q_R0, Q_R1, Q_HQ, Q_HQ1, Q_OP, Q_OP1, Q_LT, Q_X5_, Q_X6_⟩ hb_ hon hoff
     refine ⟨_, rfl, fun K hK => ?_⟩
     have e13 : a.tmps[13]? = some (PV) := pton_ ha 0 rfl rfl (hon 1 (by kernel_rfl)) rfl
     have e17 : a.tmps[17]? = some (m5_) := pton_ ha 3 rfl rfl (hon 5 (by kernel_rfl)) rfl
     rw [Q_X5_ (hon 5 (by kernel_rfl))] at e17
     replace ha := Aside0.mk ha
     have MM := Aside0.mk Q_MM
     have HB := Aside0.mk Q_HB
     have HZ := Aside0.mk Q_HZ
     have R1 := Aside0.mk (Q_R1 (hon 3 (by kernel_rfl)))
     have HQ := Aside0.mk (Q_HQ (hoff 8 (by kernel_rfl)))
     have OP := Aside0.mk (Q_OP hb_)
     have LT := Aside0.mk (Q_LT (hon 5 (by kernel_rfl)) hb_)
     obtain ⟨g6_, c6_, w1, hr6, o6, g6⟩ := appN OP.out LT.out (by omega) HB.out
     refine app_ (by rfl) rfl rfl rfl (eval_of e13) (eval_of e17) hr6 ?_
     refine hK.out _ _ ⟨x0, g6_, c6_, m5_, (.slice (some ⟨g6_, 0, none⟩) (j + 1) c6_), (ptup_ ha.out 4 hb_ rfl rfl rfl), MM.out.grown_ g6 (fun k hk => .inr (by have h_ := (OP.out.lt k (hk)).1; have h2_ := HNz.out; omega)), Nat.le_trans HB.out g6.size, grown_blk g6 HZ.out (fun e => by have h_ := (OP.out.lt _ (e.symm)).1; have h2_ := HNz.out; omega), fun h0_ => absurd ((hon 3 (by kernel_rfl)).symm.trans h0_) (by decide), fun _ => grown_blk g6 R1.out (fun e => by have h_ := (OP.out.lt _ (e.symm)).1; have h2_ := HNz.out; omega), fun _ => grown_blk g6 HQ.out (fun e => by have h_ := (OP.out.lt _ (e.symm)).1; have h2_ := HNz.out; omega), off_ (hoff 8 (by kernel_rfl)), fun h0_ => absurd ((up_self b 6).symm.trans h0_) (by decide), fun _ => o6, fun _ h1_ => absurd ((up_self b 6).symm.trans h1_) (by decide), Q_X5_, fun _ => rfl⟩
    refine steps_cons ?_ ?_
    ·rintro b a w' ⟨x0, xg, xc, m5_, m6_, ha, Q_MM, Q_HB, Q_HZ, Q_R0, Q_R1, Q_HQ, Q_HQ1, Q_OP, Q_OP1, Q_LT, Q_X5_, Q_X6_⟩ hb_ hon hoff
     refine ⟨_, rfl, fun K hK => ?_⟩
     have e1 : a.tmps[1]? = some (.pointer (some ⟨qt, 0, none⟩)) := by rw [ha]; exact (putSel_off rfl).trans rfl
     replace ha := Aside0.mk ha
     have MM := Aside0.mk Q_MM
     have HB := Aside0.mk Q_HB
     have HZ := Aside0.mk Q_HZ
     have R1 := Aside0.mk (Q_R1 (hon 3 (by kernel_rfl)))
     have HQ := Aside0.mk (Q_HQ (hoff 8 (by kernel_rfl)))
     have OP1 := Aside0.mk (Q_OP1 (hon 6 (by kernel_rfl)))
     refine value_ (w1 := w') (v := .pointer (some ⟨qt, 1, none⟩)) (by rfl) rfl ?_ ?_
     ·go_simp
      (try simp only [i64_w])
      try rfl
     refine hK.out _ _ ⟨x0, xg, xc, m5_, m6_, (ptup_ ha.out 5 hb_ rfl rfl rfl), Q_MM, Q_HB, Q_HZ, fun h0_ => absurd ((hon 3 (by kernel_rfl)).symm.trans h0_) (by decide), Q_R1, Q_HQ, off_ (hoff 8 (by kernel_rfl)), fun h0_ => absurd ((hon 6 (by kernel_rfl)).symm.trans h0_) (by decide), Q_OP1, fun _ h1_ => absurd ((hon 6 (by kernel_rfl)).symm.trans h1_) (by decide), Q_X5_, Q_X6_⟩
    refine steps_cons ?_ ?_
    ·rintro b a w' ⟨x0, xg, xc, m5_, m6_, ha, Q_MM, Q_HB, Q_HZ, Q_R0, Q_R1, Q_HQ, Q_HQ1, Q_OP, Q_OP1, Q_LT, Q_X5_, Q_X6_⟩ hb_ hon hoff
     refine ⟨_, rfl, fun K hK => ?_⟩
     have e19 : a.tmps[19]? = some (.pointer (some ⟨qt, 1, none⟩)) := pton_ ha 5 rfl rfl (hon 7 (by kernel_rfl)) rfl
     have e18 : a.tmps[18]? = some (m6_) := pton_ ha 4 rfl rfl (hon 6 (by kernel_rfl)) rfl
     rw [Q_X6_ (hon 6 (by kernel_rfl))] at e18
     replace ha := Aside0.mk ha
     have MM := Aside0.mk Q_MM
     have HB := Aside0.mk Q_HB
     have HZ := Aside0.mk Q_HZ
     have R1 := Aside0.mk (Q_R1 (hon 3 (by kernel_rfl)))
     have HQ := Aside0.mk (Q_HQ hb_)
     have OP1 := Aside0.mk (Q_OP1 (hon 6 (by kernel_rfl)))
     have cc_ : w'.cell? ⟨qt, 1, none⟩ = some PV := (blk_cell HQ.out 1).trans rfl
     have cf_ := blk_frozen HQ.out 1
     refine skip_ (w1 := w'.setCell ⟨qt, 1, none⟩ (.slice (some ⟨xg, 0, none⟩) (j + 1) xc)) (by rfl) rfl ?_ ?_
     ·go_simp
      try simp only [cc_, cf_]
      try rfl
     refine hK.out _ _ ⟨x0, xg, xc, m5_, m6_, (by rw [ha.out]; exact putSel_none (v := undef) rfl), MM.out.at_ (.inl (.inr (.inl rfl))) 1 _, (by simpa [World.setCell] using HB.out), blk_far HZ.out (p := ⟨qt, 1, none⟩) HNz.out.2.2.1 _, fun h0_ => absurd ((hon 3 (by kernel_rfl)).symm.trans h0_) (by decide), fun _ => blk_far R1.out (p := ⟨qt, 1, none⟩) (Ne.symm HNz.out.1) _, fun h0_ => absurd ((up_self b 8).symm.trans h0_) (by decide), fun _ => blk_put HQ.out 1 _ rfl, fun h0_ => absurd ((hon 6 (by kernel_rfl)).symm.trans h0_) (by decide), fun _ => own_setCell OP1.out (p := ⟨qt, 1, none⟩) (fun e => by have h_ := (OP1.out.lt _ (e.symm)).1; have h2_ := HNz.out; simp only at h_; omega) _, fun _ h1_ => absurd ((hon 6 (by kernel_rfl)).symm.trans h1_) (by decide), Q_X5_, Q_X6_⟩
    exact steps_nil
   ·rintro b a w' hall ⟨x0, xg, xc, m5_, m6_, ha, Q_MM, Q_HB, Q_HZ, Q_R0, Q_R1, Q_HQ, Q_HQ1, Q_OP, Q_OP1, Q_LT, Q_X5_, Q_X6_⟩
    clear HB HQ HZ MM OP R0
    have hb1_ := hall 1 (by kernel_rfl)
    have hb3_ := hall 3 (by kernel_rfl)
    have hb4_ := hall 4 (by kernel_rfl)
    have hb5_ := hall 5 (by kernel_rfl)
    have hb6_ := hall 6 (by kernel_rfl)
    have hb7_ := hall 7 (by kernel_rfl)
    have hb8_ := hall 8 (by kernel_rfl)
    subst ha
    obtain rfl := Q_X5_ hb5_
    obtain rfl := Q_X6_ hb6_
    simp only [putSel, hb1_, hb3_, hb4_, hb5_, hb6_, hb7_, hb8_, if_true, Act.put, List.setIfInBounds_toArray, List.set_cons_zero, List.set_cons_succ]
    have MM := Aside0.mk Q_MM
    clear Q_MM
    have HB := Aside0.mk Q_HB
    clear Q_HB
    have HZ := Aside0.mk Q_HZ
    clear Q_HZ
    clear Q_R0
    have R1 := Aside0.mk (Q_R1 hb3_)
    clear Q_R1
    clear Q_HQ
    have HQ1 := Aside0.mk (Q_HQ1 hb8_)
    clear Q_HQ1
    clear Q_OP
    have OP1 := Aside0.mk (Q_OP1 hb6_)
    clear Q_OP1
    clear Q_LT
    clear hall hb1_ hb3_ hb4_ hb5_ hb6_ hb7_ hb8_
    have HI2 := Lib.hid (show RdV w' p A 256 cA ((5 + (j + 1) : Nat) : Int) ∧ Mods (fun i => i = p ∨ i = qt ∨ i = qz) wo w' ∧ w'.heap[qt]? = some (.cells #[.int .u32 seq, .slice (some ⟨xg, 0, none⟩) (j + 1) xc, .slice none 0 0, .int .i64 0, .int .i64 0] 108 (0, 0)) ∧ w'.heap[qz]? = some (.cells #[.bool false] 4 (0, 0)) ∧ w'.ownsRow wo.heap.size 3 1 (.slice (some ⟨xg, 0, none⟩) (j + 1) xc) (j + 1) (nums .i64 (pl.take (j + 1))) ∧ wo.heap.size ≤ w'.heap.size from
     ⟨R1.out, MM.out, HQ1.out, HZ.out, by rw [HTK.out]; exact OP1.out, HB.out⟩)
    clear R1 MM HQ1 HZ OP1 HB HNz HXz HB8z
    go_wp2_with fail
    go_roundw
    case rel => exact ⟨j + 1, _, by go_num, by omega, HI2⟩
    case measure => simp [intOf]; omega
  ·obtain rfl : j = 11 := by omega
   have hown := HI.out.2.2.2.2.1
   rw [List.take_of_length_le (by rw [HLN.out.1]; exact Nat.le_refl _)] at hown
   have HOW := Lib.hid hown
   clear hown
   have HI5 := Lib.hid (show RdV wr p A 256 cA ((16 : Nat) : Int) ∧ Mods (fun i => i = p ∨ i = qt ∨ i = qz) wo wr ∧ wr.heap[qt]? = some (.cells #[.int .u32 seq, PV, .slice none 0 0, .int .i64 0, .int .i64 0] 108 (0, 0)) ∧ wr.heap[qz]? = some (.cells #[.bool false] 4 (0, 0)) from ⟨HI.out.1, HI.out.2.1, HI.out.2.2.1, HI.out.2.2.2.1⟩)
   clear HI
   go_wp2_with fail
   refine (mU8_yes p A 256 cA 16 xs wr HI5.out.1 (HI5.out.2.1.reads HX.out.1 HX.out.2.2.1) HX.out.2.1 hcA (by omega) HX.out.2.2.2).mono ?_
   rintro e w6 ⟨he_, q1, q2⟩
   rw [B16.out] at he_
   subst he_
   have HI6 := Lib.hid (show RdV w6 p A 256 cA ((17 : Nat) : Int) ∧ Mods (fun i => i = p ∨ i = qt ∨ i = qz) wo w6 ∧ w6.heap[qt]? = some (.cells #[.int .u32 seq, PV, .slice none 0 0, .int .i64 0, .int .i64 0] 108 (0, 0)) ∧ w6.heap[qz]? = some (.cells #[.bool false] 4 (0, 0)) ∧ w6.ownsRow wo.heap.size 3 1 PV 11 (nums .i64 pl) from
    ⟨q1, HI5.out.2.1.trans (q2.mono (fun i e => .inl e)), q2.blk HI5.out.2.2.1 HN.out.1, q2.blk HI5.out.2.2.2 HN.out.2.1, own_mods HOW.out q2 (fun k hk e => by have h_ := (HOW.out.lt k hk).1; have h2_ := HN.out; omega)⟩)
   clear q1 q2 HI5 HOW
   obtain ⟨B2, hB2⟩ : ∃ B2, w6.heap.size = B2 := ⟨_, rfl⟩
   have HPB := Lib.hid (show ∀ k, PV.ownBlock = some k → k < B2 from fun k hk => by rw [← hB2]; exact (HI6.out.2.2.2.2.lt k hk).2)
   have HNB := Lib.hid (show wo.heap.size ≤ B2 from by rw [← hB2]; exact HI6.out.2.1.size)
   have HB6 := Lib.hid (show B2 ≤ w6.heap.size from Nat.le_of_eq hB2.symm)
   clear hB2
   go_wp2_with fail
   go_loopw [24] (fun i wr => ∃ (j : Nat) (SV : Value), i = .int .i64 (j : Int) ∧ j ≤ sn ∧ Hid (RdV wr p A 256 cA ((17 + j : Nat) : Int) ∧ Mods (fun i => i = p ∨ i = qt ∨ i = qz) wo wr ∧ wr.heap[qt]? = some (.cells #[.int .u32 seq, PV, SV, .int .i64 0, .int .i64 0] 108 (0, 0)) ∧ wr.heap[qz]? = some (.cells #[.bool false] 4 (0, 0)) ∧ wr.ownsRow B2 3 1 SV j (nums .i64 (sp.take j)) ∧ B2 ≤ wr.heap.size ∧ wr.ownsRow wo.heap.size 3 1 PV 11 (nums .i64 pl))) (fun i _ => sn - (intOf i).toNat)
   case atStart => exact ⟨0, .slice none 0 0, rfl, by omega, Lib.hid ⟨HI6.out.1, HI6.out.2.1, HI6.out.2.2.1, HI6.out.2.2.2.1, own_nil _ _ _ _, HB6.out, HI6.out.2.2.2.2⟩⟩
   case round =>
    clear hlt hj
    obtain ⟨j, SV, rfl, hj, HI⟩ := hrel
    clear HI6 HB6
    by_cases hlt : j < sn
    ·have hlt' : j < sn := by omega
     obtain ⟨b8, hb8⟩ : ∃ b8, sp.getD j 0 = b8 := ⟨_, rfl⟩
     have hjl : j < sp.length := by rw [HLN.out.2]; exact hlt'
     have hget : sp[j]? = some b8 := by rw [← hb8, List.getD_eq_getElem?_getD, List.getElem?_eq_getElem hjl]; rfl
     have hrg := HRG.out b8 (by simp only [Tb.all, List.mem_append]; exact .inr (.inl (List.mem_of_getElem? hget)))
     have HB8 := Lib.hid (show 0 ≤ b8 ∧ b8 < 256 ∧ wrap64 b8 = b8 from ⟨hrg.1, by omega, by unfold wrap64; omega⟩)
     have HBy := Lib.hid (by1 xs (17 + j) b8 (HAT.out.2 j b8 hget) hrg.1)
     have htk : sp.take (j + 1) = sp.take j ++ [b8] := by
      rw [List.take_succ_eq_append_getElem hjl]
      have h_ := (List.getElem?_eq_some_iff.1 hget).2
      rw [h_]
     have HTK := Lib.hid htk
     have hj2 : (j : Int) < (sn : Int) := by omega
     clear htk hb8 hjl hget hrg
     go_wp2_with fail
     refine start_ (n := 9) (S := fun w' => True) (ds := []) _ (by kernel_rfl) rfl rfl trivial (fun hHeld => ?_)
     refine with_tabW TuB.tab7 TuB.bits7 (fun HT_ HW_ => ?_)
     have hnb := HNB.out
     have HNz := HN
     have HXz := HX
     have HB8z := HB8
     have MM := Lib.hid (show Mods (fun i => i = p ∨ i = qt ∨ i = qz) wo wr.drew from ⟨HI.out.2.1.os, HI.out.2.1.tape, HI.out.2.1.output, HI.out.2.1.size, HI.out.2.1.block⟩)
     have HZ := Lib.hid (show wr.drew.heap[qz]? = some (.cells #[.bool false] 4 (0, 0)) from HI.out.2.2.2.1)
     have R0 := Lib.hid (show RdV wr.drew p A 256 cA (((17 + j) : Nat) : Int) from HI.out.1)
     have HQ := Lib.hid (show wr.drew.heap[qt]? = some (.cells #[.int .u32 seq, PV, SV, .int .i64 0, .int .i64 0] 108 (0, 0)) from HI.out.2.2.1)
     have OP := Lib.hid (show wr.drew.ownsRow B2 3 1 SV j (nums .i64 (sp.take j)) from HI.out.2.2.2.2.1)
     have HB := Lib.hid (show B2 ≤ wr.drew.heap.size from HI.out.2.2.2.2.2.1)
     have OQ := Lib.hid (show wr.drew.ownsRow wo.heap.size 3 1 PV 11 (nums .i64 pl) from HI.out.2.2.2.2.2.2)
     have HPBz := HPB
     generalize wr.drew = wz at MM HZ R0 HQ OP HB OQ hHeld ⊢
     refine pur_ 0 (some 26) HT_.out rfl rfl (by kernel_rfl) (fun _ _ _ h => h) (by rfl) (fun w' => by go_simp; with_reducible rfl) (by simp only [Act.put, List.setIfInBounds_toArray, List.set_cons_zero, List.set_cons_succ, i64_w, i32_w]; rfl) ?_
     refine pur_ 2 (some 28) HT_.out rfl rfl (by kernel_rfl) (fun _ _ _ h => h) (by rfl) (fun w' => by go_simp; with_reducible rfl) (by simp only [Act.put, List.setIfInBounds_toArray, List.set_cons_zero, List.set_cons_succ, i64_w, i32_w]; rfl) ?_
     refine inv_at [1, 3, 4, 5, 6, 7, 8] (fun a0_ b a w' => ∃ (x0 : Nat) (xg : Nat) (xc : Nat) (m5_ : Value) (m6_ : Value), a = putSel a0_ b [(1, 27, SV), (3, 29, .int .u8 b8), (4, 30, .int .i64 b8), (5, 31, m5_), (6, 32, m6_), (7, 33, .pointer (some ⟨qt, 2, none⟩))] ∧ (Mods (fun i => i = p ∨ i = qt ∨ i = qz) wo w') ∧ (B2 ≤ w'.heap.size) ∧ (w'.heap[qz]? = some (.cells #[.bool false] 4 (0, 0))) ∧ (b 3 = false → RdV w' p A 256 cA (((17 + j) : Nat) : Int)) ∧ (b 3 = true → RdV w' p A 256 cA (((17 + j) + 1 : Nat) : Int)) ∧ (b 8 = false → w'.heap[qt]? = some (.cells #[.int .u32 seq, PV, SV, .int .i64 0, .int .i64 0] 108 (0, 0))) ∧ (b 8 = true → w'.heap[qt]? = some (.cells #[.int .u32 seq, PV, .slice (some ⟨xg, 0, none⟩) (j + 1) xc, .int .i64 0, .int .i64 0] 108 (0, 0))) ∧ (b 6 = false → w'.ownsRow B2 3 1 SV j (nums .i64 (sp.take j))) ∧ (b 6 = true → w'.ownsRow B2 3 1 (.slice (some ⟨xg, 0, none⟩) (j + 1) xc) (j + 1) (nums .i64 ((sp.take j) ++ [b8]))) ∧ (b 5 = true → b 6 = false → w'.cell? ⟨x0, 0, none⟩ = some (.int .i64 b8)) ∧ (w'.ownsRow wo.heap.size 3 1 PV 11 (nums .i64 pl)) ∧ (b 5 = true → (m5_ : Value) = .slice (some ⟨x0, 0, none⟩) 1 1) ∧ (b 6 = true → (m6_ : Value) = .slice (some ⟨xg, 0, none⟩) (j + 1) xc)) HT_.out HW_.out (by kernel_rfl) (by kernel_rfl) ?_ ?_ ?_
     ·exact ⟨0, 0, 0, .bool false, .bool false, by simp only [putSel, Bool.false_eq_true, if_false], MM.out, HB.out, HZ.out, fun _ => R0.out, fun h_ => absurd h_ (by decide), fun _ => HQ.out, fun h_ => absurd h_ (by decide), fun _ => OP.out, fun h_ => absurd h_ (by decide), fun h_ => absurd h_ (by decide), OQ.out, fun h_ => absurd h_ (by decide), fun h_ => absurd h_ (by decide)⟩
     ·skip
      clear HB HQ HZ MM OP OQ R0
      refine steps_cons ?_ ?_
      ·rintro b a w' ⟨x0, xg, xc, m5_, m6_, ha, Q_MM, Q_HB, Q_HZ, Q_R0, Q_R1, Q_HQ, Q_HQ1, Q_OP, Q_OP1, Q_LT, Q_OQ, Q_X5_, Q_X6_⟩ hb_ hon hoff
       refine ⟨_, rfl, fun K hK => ?_⟩
       have e26 : a.tmps[26]? = some (.pointer (some ⟨qt, 2, none⟩)) := by rw [ha]; exact (putSel_off rfl).trans rfl
       replace ha := Aside0.mk ha
       have MM := Aside0.mk Q_MM
       have HB := Aside0.mk Q_HB
       have HZ := Aside0.mk Q_HZ
       have HQ := Aside0.mk (Q_HQ (hoff 8 (by kernel_rfl)))
       have OP := Aside0.mk (Q_OP (hoff 6 (by kernel_rfl)))
       have OQ := Aside0.mk Q_OQ
       have hc_ : w'.cell? ⟨qt, 2, none⟩ = some SV := (blk_cell HQ.out 2).trans rfl
       refine value_ (w1 := w') (v := SV) (by rfl) rfl ?_ ?_
       ·go_simp
        (try simp only [i64_w])
        try rfl
       refine hK.out _ _ ⟨x0, xg, xc, m5_, m6_, (ptup_ ha.out 0 hb_ rfl rfl rfl), Q_MM, Q_HB, Q_HZ, Q_R0, Q_R1, Q_HQ, off_ (hoff 8 (by kernel_rfl)), Q_OP, off_ (hoff 6 (by kernel_rfl)), Q_LT, Q_OQ, Q_X5_, off_ (hoff 6 (by kernel_rfl))⟩
      refine steps_cons ?_ ?_
      ·rintro b a w' ⟨x0, xg, xc, m5_, m6_, ha, Q_MM, Q_HB, Q_HZ, Q_R0, Q_R1, Q_HQ, Q_HQ1, Q_OP, Q_OP1, Q_LT, Q_OQ, Q_X5_, Q_X6_⟩ hb_ hon hoff
       refine ⟨_, rfl, fun K hK => ?_⟩
       have e28 : a.tmps[28]? = some (.pointer (some ⟨p, 0, none⟩)) := by rw [ha]; exact (putSel_off rfl).trans rfl
       replace ha := Aside0.mk ha
       have MM := Aside0.mk Q_MM
       have HB := Aside0.mk Q_HB
       have HZ := Aside0.mk Q_HZ
       have R0 := Aside0.mk (Q_R0 hb_)
       have HQ := Aside0.mk (Q_HQ (hoff 8 (by kernel_rfl)))
       have OP := Aside0.mk (Q_OP (hoff 6 (by kernel_rfl)))
       have OQ := Aside0.mk Q_OQ
       refine goes_ Try.func49 (by kernel_rfl) rfl #[.pointer (some ⟨p, 0, none⟩)] (by rfl) rfl rfl (by first | (simp only [List.map_toArray, List.map_cons, List.map_nil, Act.eval, Array.getD_eq_getD_getElem?, Option.getD_some, e28]; done) | (simp only [List.map_toArray, List.map_cons, List.map_nil, Act.eval, Array.getD_eq_getD_getElem?, Option.getD_some, e28]; rfl)) ?_
       refine (mU8_yes p A 256 cA (17 + j) xs w' R0.out (MM.out.reads HXz.out.1 HXz.out.2.2.1) HXz.out.2.1 hcA (by omega) HXz.out.2.2.2).mono ?_
       rintro e w1 ⟨he_, q1, q2⟩
       rw [HBy.out] at he_
       subst he_
       refine ⟨_, rfl, ?_⟩
       refine hK.out _ _ ⟨x0, xg, xc, m5_, m6_, (ptup_ ha.out 1 hb_ rfl rfl rfl), MM.out.trans (q2.mono (fun i e => .inl e)), Nat.le_trans HB.out q2.size, q2.blk HZ.out HNz.out.2.1, fun h0_ => absurd ((up_self b 3).symm.trans h0_) (by decide), fun _ => q1, fun _ => q2.blk HQ.out HNz.out.1, off_ (hoff 8 (by kernel_rfl)), fun _ => own_mods OP.out q2 (fun k hk e => by have h_ := (OP.out.lt k (hk)).1; have h2_ := HNz.out; omega), off_ (hoff 6 (by kernel_rfl)), fun h0_ _ => off_ (hoff 5 (by kernel_rfl)) h0_, own_mods OQ.out q2 (fun k hk e => by have h_ := (OQ.out.lt k (hk)).1; have h2_ := HNz.out; omega), off_ (hoff 5 (by kernel_rfl)), off_ (hoff 6 (by kernel_rfl))⟩
      refine steps_cons ?_ ?_
      ·rintro b a w' ⟨x0, xg, xc, m5_, m6_, ha, Q_MM, Q_HB, Q_HZ, Q_R0, Q_R1, Q_HQ, Q_HQ1, Q_OP, Q_OP1, Q_LT, Q_OQ, Q_X5_, Q_X6_⟩ hb_ hon hoff
       refine ⟨_, rfl, fun K hK => ?_⟩
       have e29 : a.tmps[29]? = some (.int .u8 b8) := pton_ ha 1 rfl rfl (hon 3 (by kernel_rfl)) rfl
       replace ha := Aside0.mk ha
       have MM := Aside0.mk Q_MM
       have HB := Aside0.mk Q_HB
       have HZ := Aside0.mk Q_HZ
       have R1 := Aside0.mk (Q_R1 (hon 3 (by kernel_rfl)))
       have HQ := Aside0.mk (Q_HQ (hoff 8 (by kernel_rfl)))
       have OP := Aside0.mk (Q_OP (hoff 6 (by kernel_rfl)))
       have OQ := Aside0.mk Q_OQ
       refine value_ (w1 := w') (v := .int .i64 b8) (by rfl) rfl ?_ ?_
       ·go_simp
        try simp only [i64_w]
        first | rfl | (simp only [HB8z.out.2.2]) | (rw [HB8z.out.2.2])
       refine hK.out _ _ ⟨x0, xg, xc, m5_, m6_, (ptup_ ha.out 2 hb_ rfl rfl rfl), MM.out, HB.out, HZ.out, fun h0_ => absurd ((hon 3 (by kernel_rfl)).symm.trans h0_) (by decide), fun _ => R1.out, fun _ => HQ.out, off_ (hoff 8 (by kernel_rfl)), fun _ => OP.out, off_ (hoff 6 (by kernel_rfl)), fun h0_ _ => off_ (hoff 5 (by kernel_rfl)) h0_, OQ.out, off_ (hoff 5 (by kernel_rfl)), off_ (hoff 6 (by kernel_rfl))⟩
      refine steps_cons ?_ ?_
      ·rintro b a w' ⟨x0, xg, xc, m5_, m6_, ha, Q_MM, Q_HB, Q_HZ, Q_R0, Q_R1, Q_HQ, Q_HQ1, Q_OP, Q_OP1, Q_LT, Q_OQ, Q_X5_, Q_X6_⟩ hb_ hon hoff
       refine ⟨_, rfl, fun K hK => ?_⟩
       have e30 : a.tmps[30]? = some (.int .i64 b8) := pton_ ha 2 rfl rfl (hon 4 (by kernel_rfl)) rfl
       replace ha := Aside0.mk ha
       have MM := Aside0.mk Q_MM
       have HB := Aside0.mk Q_HB
       have HZ := Aside0.mk Q_HZ
       have R1 := Aside0.mk (Q_R1 (hon 3 (by kernel_rfl)))
       have HQ := Aside0.mk (Q_HQ (hoff 8 (by kernel_rfl)))
       have OP := Aside0.mk (Q_OP (hoff 6 (by kernel_rfl)))
       have OQ := Aside0.mk Q_OQ
       refine value_ (w1 := w'.alloc (.cells #[.int .i64 b8] 3)) (v := .slice (some ⟨w'.heap.size, 0, none⟩) 1 1) (by rfl) rfl ?_ ?_
       ·go_simp
        try rfl
       refine hK.out _ _ ⟨w'.heap.size, xg, xc, (.slice (some ⟨w'.heap.size, 0, none⟩) 1 1), m6_, (ptup_ ha.out 3 hb_ rfl rfl rfl), MM.out.alloc _, Nat.le_trans HB.out ((bl_alloc (Below.refl w'.heap.size w') (.cells #[.int .i64 b8] 3))).size, blk_below HZ.out (bl_alloc (Below.refl w'.heap.size w') (.cells #[.int .i64 b8] 3)), fun h0_ => absurd ((hon 3 (by kernel_rfl)).symm.trans h0_) (by decide), fun _ => blk_below R1.out (bl_alloc (Below.refl w'.heap.size w') (.cells #[.int .i64 b8] 3)), fun _ => blk_below HQ.out (bl_alloc (Below.refl w'.heap.size w') (.cells #[.int .i64 b8] 3)), off_ (hoff 8 (by kernel_rfl)), fun _ => OP.out.alloc _, off_ (hoff 6 (by kernel_rfl)), fun _ _ => (blk_cell (heap_alloc_new w' (.cells #[.int .i64 b8] 3)) 0).trans rfl, OQ.out.alloc _, fun _ => rfl, off_ (hoff 6 (by kernel_rfl))⟩
      refine steps_cons ?_ ?_
      ·rintro b a w' ⟨x0, xg, xc, m5_, m6_, ha, Q_MM, Q_HB, Q_HZ, Q_R0, Q_R1, Q_HQ, Q_HQ1, Q_OP, Q_OP1, Q_LT, Q_OQ, Q_X5_, Q_X6_⟩ hb_ hon hoff
       refine ⟨_, rfl, fun K hK => ?_⟩
       have e27 : a.tmps[27]? = some (SV) := pton_ ha 0 rfl rfl (hon 1 (by kernel_rfl)) rfl
       have e31 : a.tmps[31]? = some (m5_) := pton_ ha 3 rfl rfl (hon 5 (by kernel_rfl)) rfl
       rw [Q_X5_ (hon 5 (by kernel_rfl))] at e31
       replace ha := Aside0.mk ha
       have MM := Aside0.mk Q_MM
       have HB := Aside0.mk Q_HB
       have HZ := Aside0.mk Q_HZ
       have R1 := Aside0.mk (Q_R1 (hon 3 (by kernel_rfl)))
       have HQ := Aside0.mk (Q_HQ (hoff 8 (by kernel_rfl)))
       have OP := Aside0.mk (Q_OP hb_)
       have LT := Aside0.mk (Q_LT (hon 5 (by kernel_rfl)) hb_)
       have OQ := Aside0.mk Q_OQ
       obtain ⟨g6_, c6_, w1, hr6, o6, g6⟩ := appN OP.out LT.out (by omega) HB.out
       refine app_ (by rfl) rfl rfl rfl (eval_of e27) (eval_of e31) hr6 ?_
       refine hK.out _ _ ⟨x0, g6_, c6_, m5_, (.slice (some ⟨g6_, 0, none⟩) (j + 1) c6_), (ptup_ ha.out 4 hb_ rfl rfl rfl), MM.out.grown_ g6 (fun k hk => .inr (by have h_ := (OP.out.lt k (hk)).1; have h2_ := HNz.out; omega)), Nat.le_trans HB.out g6.size, grown_blk g6 HZ.out (fun e => by have h_ := (OP.out.lt _ (e.symm)).1; have h2_ := HNz.out; omega), fun h0_ => absurd ((hon 3 (by kernel_rfl)).symm.trans h0_) (by decide), fun _ => grown_blk g6 R1.out (fun e => by have h_ := (OP.out.lt _ (e.symm)).1; have h2_ := HNz.out; omega), fun _ => grown_blk g6 HQ.out (fun e => by have h_ := (OP.out.lt _ (e.symm)).1; have h2_ := HNz.out; omega), off_ (hoff 8 (by kernel_rfl)), fun h0_ => absurd ((up_self b 6).symm.trans h0_) (by decide), fun _ => o6, fun _ h1_ => absurd ((up_self b 6).symm.trans h1_) (by decide), own_grown g6 OQ.out (fun k hk e => by have h_ := (OP.out.lt k (e)).1; have h2_ := HPBz.out k hk; omega), Q_X5_, fun _ => rfl⟩
      refine steps_cons ?_ ?_
      ·rintro b a w' ⟨x0, xg, xc, m5_, m6_, ha, Q_MM, Q_HB, Q_HZ, Q_R0, Q_R1, Q_HQ, Q_HQ1, Q_OP, Q_OP1, Q_LT, Q_OQ, Q_X5_, Q_X6_⟩ hb_ hon hoff
       refine ⟨_, rfl, fun K hK => ?_⟩
       have e1 : a.tmps[1]? = some (.pointer (some ⟨qt, 0, none⟩)) := by rw [ha]; exact (putSel_off rfl).trans rfl
       replace ha := Aside0.mk ha
       have MM := Aside0.mk Q_MM
       have HB := Aside0.mk Q_HB
       have HZ := Aside0.mk Q_HZ
       have R1 := Aside0.mk (Q_R1 (hon 3 (by kernel_rfl)))
       have HQ := Aside0.mk (Q_HQ (hoff 8 (by kernel_rfl)))
       have OP1 := Aside0.mk (Q_OP1 (hon 6 (by kernel_rfl)))
       have OQ := Aside0.mk Q_OQ
       refine value_ (w1 := w') (v := .pointer (some ⟨qt, 2, none⟩)) (by rfl) rfl ?_ ?_
       ·go_simp
        (try simp only [i64_w])
        try rfl
       refine hK.out _ _ ⟨x0, xg, xc, m5_, m6_, (ptup_ ha.out 5 hb_ rfl rfl rfl), Q_MM, Q_HB, Q_HZ, fun h0_ => absurd ((hon 3 (by kernel_rfl)).symm.trans h0_) (by decide), Q_R1, Q_HQ, off_ (hoff 8 (by kernel_rfl)), fun h0_ => absurd ((hon 6 (by kernel_rfl)).symm.trans h0_) (by decide), Q_OP1, fun _ h1_ => absurd ((hon 6 (by kernel_rfl)).symm.trans h1_) (by decide), Q_OQ, Q_X5_, Q_X6_⟩
      refine steps_cons ?_ ?_
      ·rintro b a w' ⟨x0, xg, xc, m5_, m6_, ha, Q_MM, Q_HB, Q_HZ, Q_R0, Q_R1, Q_HQ, Q_HQ1, Q_OP, Q_OP1, Q_LT, Q_OQ, Q_X5_, Q_X6_⟩ hb_ hon hoff
       refine ⟨_, rfl, fun K hK => ?_⟩
       have e33 : a.tmps[33]? = some (.pointer (some ⟨qt, 2, none⟩)) := pton_ ha 5 rfl rfl (hon 7 (by kernel_rfl)) rfl
       have e32 : a.tmps[32]? = some (m6_) := pton_ ha 4 rfl rfl (hon 6 (by kernel_rfl)) rfl
       rw [Q_X6_ (hon 6 (by kernel_rfl))] at e32
       replace ha := Aside0.mk ha
       have MM := Aside0.mk Q_MM
       have HB := Aside0.mk Q_HB
       have HZ := Aside0.mk Q_HZ
       have R1 := Aside0.mk (Q_R1 (hon 3 (by kernel_rfl)))
       have HQ := Aside0.mk (Q_HQ hb_)
       have OP1 := Aside0.mk (Q_OP1 (hon 6 (by kernel_rfl)))
       have OQ := Aside0.mk Q_OQ
       have cc_ : w'.cell? ⟨qt, 2, none⟩ = some SV := (blk_cell HQ.out 2).trans rfl
       have cf_ := blk_frozen HQ.out 2
       refine skip_ (w1 := w'.setCell ⟨qt, 2, none⟩ (.slice (some ⟨xg, 0, none⟩) (j + 1) xc)) (by rfl) rfl ?_ ?_
       ·go_simp
        try simp only [cc_, cf_]
        try rfl
       refine hK.out _ _ ⟨x0, xg, xc, m5_, m6_, (by rw [ha.out]; exact putSel_none (v := undef) rfl), MM.out.at_ (.inl (.inr (.inl rfl))) 2 _, (by simpa [World.setCell] using HB.out), blk_far HZ.out (p := ⟨qt, 2, none⟩) HNz.out.2.2.1 _, fun h0_ => absurd ((hon 3 (by kernel_rfl)).symm.trans h0_) (by decide), fun _ => blk_far R1.out (p := ⟨qt, 2, none⟩) (Ne.symm HNz.out.1) _, fun h0_ => absurd ((up_self b 8).symm.trans h0_) (by decide), fun _ => blk_put HQ.out 2 _ rfl, fun h0_ => absurd ((hon 6 (by kernel_rfl)).symm.trans h0_) (by decide), fun _ => own_setCell OP1.out (p := ⟨qt, 2, none⟩) (fun e => by have h_ := (OP1.out.lt _ (e.symm)).1; have h2_ := HNz.out; simp only at h_; omega) _, fun _ h1_ => absurd ((hon 6 (by kernel_rfl)).symm.trans h1_) (by decide), own_setCell OQ.out (p := ⟨qt, 2, none⟩) (fun e => by have h_ := (OQ.out.lt _ (e.symm)).1; have h2_ := HNz.out; simp only at h_; omega) _, Q_X5_, Q_X6_⟩
      exact steps_nil
     ·rintro b a w' hall ⟨x0, xg, xc, m5_, m6_, ha, Q_MM, Q_HB, Q_HZ, Q_R0, Q_R1, Q_HQ, Q_HQ1, Q_OP, Q_OP1, Q_LT, Q_OQ, Q_X5_, Q_X6_⟩
      clear HB HQ HZ MM OP OQ R0
      have hb1_ := hall 1 (by kernel_rfl)
      have hb3_ := hall 3 (by kernel_rfl)
      have hb4_ := hall 4 (by kernel_rfl)
      have hb5_ := hall 5 (by kernel_rfl)
      have hb6_ := hall 6 (by kernel_rfl)
      have hb7_ := hall 7 (by kernel_rfl)
      have hb8_ := hall 8 (by kernel_rfl)
      subst ha
      obtain rfl := Q_X5_ hb5_
      obtain rfl := Q_X6_ hb6_
      simp only [putSel, hb1_, hb3_, hb4_, hb5_, hb6_, hb7_, hb8_, if_true, Act.put, List.setIfInBounds_toArray, List.set_cons_zero, List.set_cons_succ]
      have MM := Aside0.mk Q_MM
      clear Q_MM
      have HB := Aside0.mk Q_HB
      clear Q_HB
      have HZ := Aside0.mk Q_HZ
      clear Q_HZ
      clear Q_R0
      have R1 := Aside0.mk (Q_R1 hb3_)
      clear Q_R1
      clear Q_HQ
      have HQ1 := Aside0.mk (Q_HQ1 hb8_)
      clear Q_HQ1
      clear Q_OP
      have OP1 := Aside0.mk (Q_OP1 hb6_)
      clear Q_OP1
      clear Q_LT
      have OQ := Aside0.mk Q_OQ
      clear Q_OQ
      clear hall hb1_ hb3_ hb4_ hb5_ hb6_ hb7_ hb8_
      have HI2 := Lib.hid (show RdV w' p A 256 cA ((17 + (j + 1) : Nat) : Int) ∧ Mods (fun i => i = p ∨ i = qt ∨ i = qz) wo w' ∧ w'.heap[qt]? = some (.cells #[.int .u32 seq, PV, .slice (some ⟨xg, 0, none⟩) (j + 1) xc, .int .i64 0, .int .i64 0] 108 (0, 0)) ∧ w'.heap[qz]? = some (.cells #[.bool false] 4 (0, 0)) ∧ w'.ownsRow B2 3 1 (.slice (some ⟨xg, 0, none⟩) (j + 1) xc) (j + 1) (nums .i64 (sp.take (j + 1))) ∧ B2 ≤ w'.heap.size ∧ w'.ownsRow wo.heap.size 3 1 PV 11 (nums .i64 pl) from
       ⟨R1.out, MM.out, HQ1.out, HZ.out, by rw [HTK.out]; exact OP1.out, HB.out, OQ.out⟩)
      clear R1 MM HQ1 HZ OP1 HB HNz HXz HB8z OQ HPBz
      go_wp2_with fail
      go_roundw
      case rel => exact ⟨j + 1, _, by go_num, by omega, HI2⟩
      case measure => simp [intOf]; omega
    ·obtain rfl : j = sn := by omega
     have hown := HI.out.2.2.2.2.1
     rw [List.take_of_length_le (by rw [HLN.out.2]; exact Nat.le_refl _)] at hown
     have HOW := Lib.hid hown
     clear hown
     have HI7 := Lib.hid (show RdV wr p A 256 cA ((17 + j : Nat) : Int) ∧ Mods (fun i => i = p ∨ i = qt ∨ i = qz) wo wr ∧ wr.heap[qt]? = some (.cells #[.int .u32 seq, PV, SV, .int .i64 0, .int .i64 0] 108 (0, 0)) ∧ wr.heap[qz]? = some (.cells #[.bool false] 4 (0, 0)) ∧ wr.ownsRow wo.heap.size 3 1 PV 11 (nums .i64 pl) from ⟨HI.out.1, HI.out.2.1, HI.out.2.2.1, HI.out.2.2.2.1, HI.out.2.2.2.2.2.2⟩)
     clear HI HPB
     go_wp2_with fail
     refine (mU8_yes p A 256 cA (17 + j) xs wr HI7.out.1 (HI7.out.2.1.reads HX.out.1 HX.out.2.2.1) HX.out.2.1 hcA (by omega) HX.out.2.2.2).mono ?_
     rintro e w8 ⟨he_, q1, q2⟩
     rw [B17.out] at he_
     subst he_
     have HI8 := Lib.hid (show RdV w8 p A 256 cA ((17 + j + 1 : Nat) : Int) ∧ Mods (fun i => i = p ∨ i = qt ∨ i = qz) wo w8 ∧ w8.heap[qt]? = some (.cells #[.int .u32 seq, PV, SV, .int .i64 0, .int .i64 0] 108 (0, 0)) ∧ w8.heap[qz]? = some (.cells #[.bool false] 4 (0, 0)) ∧ w8.ownsRow wo.heap.size 3 1 PV 11 (nums .i64 pl) ∧ w8.ownsRow B2 3 1 SV j (nums .i64 sp) from
      ⟨q1, HI7.out.2.1.trans (q2.mono (fun i e => .inl e)), q2.blk HI7.out.2.2.1 HN.out.1, q2.blk HI7.out.2.2.2.1 HN.out.2.1, own_mods HI7.out.2.2.2.2 q2 (fun k hk e => by have h_ := (HI7.out.2.2.2.2.lt k hk).1; have h2_ := HN.out; omega), own_mods HOW.out q2 (fun k hk e => by have h_ := (HOW.out.lt k hk).1; have h2_ := HN.out; have h3_ := HNB.out; omega)⟩)
     clear q1 q2 HI7 HOW
     go_wp2_with fail
     refine (mU8_yes p A 256 cA (17 + j + 1) xs w8 HI8.out.1 (HI8.out.2.1.reads HX.out.1 HX.out.2.2.1) HX.out.2.1 hcA (by omega) HX.out.2.2.2).mono ?_
     rintro e w9 ⟨he_, q1, q2⟩
     rw [B18.out] at he_
     subst he_
     have HI9 := Lib.hid (show RdV w9 p A 256 cA ((17 + j + 1 + 1 : Nat) : Int) ∧ Mods (fun i => i = p ∨ i = qt ∨ i = qz) wo w9 ∧ w9.heap[qt]? = some (.cells #[.int .u32 seq, PV, SV, .int .i64 0, .int .i64 0] 108 (0, 0)) ∧ w9.heap[qz]? = some (.cells #[.bool false] 4 (0, 0)) ∧ w9.ownsRow wo.heap.size 3 1 PV 11 (nums .i64 pl) ∧ w9.ownsRow B2 3 1 SV j (nums .i64 sp) from
      ⟨q1, HI8.out.2.1.trans (q2.mono (fun i e => .inl e)), q2.blk HI8.out.2.2.1 HN.out.1, q2.blk HI8.out.2.2.2.1 HN.out.2.1, own_mods HI8.out.2.2.2.2.1 q2 (fun k hk e => by have h_ := (HI8.out.2.2.2.2.1.lt k hk).1; have h2_ := HN.out; omega), own_mods HI8.out.2.2.2.2.2 q2 (fun k hk e => by have h_ := (HI8.out.2.2.2.2.2.lt k hk).1; have h2_ := HN.out; have h3_ := HNB.out; omega)⟩)
     clear q1 q2 HI8
     have cc3 : w9.cell? ⟨qt, 3, none⟩ = some (.int .i64 0) := (blk_cell HI9.out.2.2.1 3).trans rfl
     have cc4 : w9.cell? ⟨qt, 4, none⟩ = some (.int .i64 0) := (blk_cell HI9.out.2.2.1 4).trans rfl
     have cf := fun k => blk_frozen HI9.out.2.2.1 k
     go_wp2_with fail
     have HIA := Lib.hid (show RdV ((w9.setCell ⟨qt, 3, none⟩ (.int .i64 t0)).setCell ⟨qt, 4, none⟩ (.int .i64 t1)) p A 256 cA ((17 + j + 1 + 1 : Nat) : Int) ∧ Mods (fun i => i = p ∨ i = qt ∨ i = qz) wo ((w9.setCell ⟨qt, 3, none⟩ (.int .i64 t0)).setCell ⟨qt, 4, none⟩ (.int .i64 t1)) ∧ ((w9.setCell ⟨qt, 3, none⟩ (.int .i64 t0)).setCell ⟨qt, 4, none⟩ (.int .i64 t1)).heap[qt]? = some (.cells #[.int .u32 seq, PV, SV, .int .i64 t0, .int .i64 t1] 108 (0, 0)) ∧ ((w9.setCell ⟨qt, 3, none⟩ (.int .i64 t0)).setCell ⟨qt, 4, none⟩ (.int .i64 t1)).heap[qz]? = some (.cells #[.bool false] 4 (0, 0)) ∧ ((w9.setCell ⟨qt, 3, none⟩ (.int .i64 t0)).setCell ⟨qt, 4, none⟩ (.int .i64 t1)).ownsRow wo.heap.size 3 1 PV 11 (nums .i64 pl) ∧ ((w9.setCell ⟨qt, 3, none⟩ (.int .i64 t0)).setCell ⟨qt, 4, none⟩ (.int .i64 t1)).ownsRow B2 3 1 SV j (nums .i64 sp) from by
      have np : some qt ≠ PV.ownBlock := fun e => by have h_ := (HI9.out.2.2.2.2.1.lt _ e.symm).1; have h2_ := HN.out; omega
      have ns : some qt ≠ SV.ownBlock := fun e => by have h_ := (HI9.out.2.2.2.2.2.lt _ e.symm).1; have h2_ := HN.out; have h3_ := HNB.out; omega
      exact ⟨blk_far (blk_far HI9.out.1 (p := ⟨qt, 3, none⟩) (Ne.symm HN.out.1) _) (p := ⟨qt, 4, none⟩) (Ne.symm HN.out.1) _, (HI9.out.2.1.at_ (p := qt) (.inl (.inr (.inl rfl))) 3 _).at_ (p := qt) (.inl (.inr (.inl rfl))) 4 _, blk_put (blk_put HI9.out.2.2.1 3 _ rfl) 4 _ rfl, blk_far (blk_far HI9.out.2.2.2.1 (p := ⟨qt, 3, none⟩) HN.out.2.2.1 _) (p := ⟨qt, 4, none⟩) HN.out.2.2.1 _,
       own_setCell (own_setCell HI9.out.2.2.2.2.1 (p := ⟨qt, 3, none⟩) np _) (p := ⟨qt, 4, none⟩) np _, own_setCell (own_setCell HI9.out.2.2.2.2.2 (p := ⟨qt, 3, none⟩) ns _) (p := ⟨qt, 4, none⟩) ns _⟩)
     clear cc3 cc4 cf
     generalize (w9.setCell ⟨qt, 3, none⟩ (.int .i64 t0)).setCell ⟨qt, 4, none⟩ (.int .i64 t1) = wA at HIA ⊢
     clear HI9
     refine (mZero p A 256 cA (17 + j + 1 + 1) xs wA HIA.out.1 (HIA.out.2.1.reads HX.out.1 HX.out.2.2.1) hcA (by omega)).mono ?_
     rintro e wB ⟨he_, hdr⟩
     rw [BZ.out] at he_
     subst he_
     obtain ⟨n_, rfl⟩ := hdr
     have hzB : (wA.drewN n_).heap[qz]? = some (.cells #[.bool false] 4 (0, 0)) := HIA.out.2.2.2.1
     have ccz : (wA.drewN n_).cell? ⟨qz, 0, none⟩ = some (.bool false) := (blk_cell hzB 0).trans rfl
     have cfz := blk_frozen hzB 0
     go_wp2_with fail
     go_end0
     have nz : ∀ v k, v = some k → wo.heap.size ≤ k → some qz ≠ v := fun v k hv hk e => by
      rw [hv] at e
      have := Option.some.inj e; have h2_ := HN.out; omega
     have op2 : ((wA.drewN n_).setCell ⟨qz, 0, none⟩ (.bool true)).ownsRow wo.heap.size 3 1 PV 11 (nums .i64 pl) := own_setCell (show (wA.drewN n_).ownsRow wo.heap.size 3 1 PV 11 (nums .i64 pl) from HIA.out.2.2.2.2.1) (p := ⟨qz, 0, none⟩) (fun e => by have h_ := (HIA.out.2.2.2.2.1.lt _ e.symm).1; have h2_ := HN.out; simp only at h_; omega) _
     have os2 : ((wA.drewN n_).setCell ⟨qz, 0, none⟩ (.bool true)).ownsRow B2 3 1 SV j (nums .i64 sp) := own_setCell (show (wA.drewN n_).ownsRow B2 3 1 SV j (nums .i64 sp) from HIA.out.2.2.2.2.2) (p := ⟨qz, 0, none⟩) (fun e => by have h_ := (HIA.out.2.2.2.2.2.lt _ e.symm).1; have h2_ := HN.out; have h3_ := HNB.out; simp only at h_; omega) _
     exact ⟨(HIA.out.2.1.drewN n_).at_ (p := qz) (.inl (.inr (.inr rfl))) 0 _, rfl, ⟨_, blk_far (show (wA.drewN n_).heap[qt]? = some (.cells #[.int .u32 seq, PV, SV, .int .i64 t0, .int .i64 t1] 108 (0, 0)) from HIA.out.2.2.1) (p := ⟨qz, 0, none⟩) (Ne.symm HN.out.2.2.1) _, tb_of_own op2 os2 HLN.out.2 hls HNB.out⟩, blk_put hzB 0 _ rfl⟩
end Go.Proofs.Ytffalemndjampaa
end
section
set_option linter.unusedVariables false
set_option linter.unusedSimpArgs false
namespace Go.Proofs.Ytffalemndjampaa
open Go.RowKit Go.Proofs.YtffalemndjampaaW.PrintWords Go.Proofs.YtffalemndjampaaW.PrintLast
theorem TbR.keepbut {w1 w2 : World} {B : Nat} {C : Array Value} {T : Tb} (h : TbR w1 (fun k => B < k) C T) (k : KeepBut w1 w2 B none) : TbR w2 (fun k => B < k) C T := by
 obtain ⟨PA, pc, SA, sc, h1, h2, h3, h4, h5, h6, h7, h8⟩ := h
 exact ⟨PA, pc, SA, sc, h1, h2, h3, h4, reads_keep h5 k (fun _ a ha => by obtain rfl := Option.some.inj ha; exact ⟨Nat.ne_of_gt h7, by simp⟩), reads_keep h6 k (fun hp a ha => ⟨Nat.ne_of_gt (h8 a ha hp), by simp⟩), h7, h8⟩
theorem alloc4 (w : World) (c1 c2 c3 c4 : Array Value) (t1 t2 t3 t4 : TypeId) (W : World) (hW : W = (((w.alloc (.cells c1 t1)).alloc (.cells c2 t2)).alloc (.cells c3 t3)).alloc (.cells c4 t4)) : W.heap[w.heap.size]? = some (.cells c1 t1 (0, 0)) ∧ W.heap[w.heap.size + 1]? = some (.cells c2 t2 (0, 0)) ∧ W.heap[w.heap.size + 1 + 1]? = some (.cells c3 t3 (0, 0)) ∧ W.heap[w.heap.size + 1 + 1 + 1]? = some (.cells c4 t4 (0, 0)) ∧ Below w.heap.size w W ∧ W.heap.size = w.heap.size + 4 := by
 subst hW
 have h2 := heap_alloc_new (w.alloc (.cells c1 t1)) (.cells c2 t2)
 have h3 := heap_alloc_new ((w.alloc (.cells c1 t1)).alloc (.cells c2 t2)) (.cells c3 t3)
 have h4 := heap_alloc_new (((w.alloc (.cells c1 t1)).alloc (.cells c2 t2)).alloc (.cells c3 t3)) (.cells c4 t4)
 simp only [World.size_alloc] at h2 h3 h4
 exact ⟨blk_alloc (blk_alloc (blk_alloc (heap_alloc_new w _) _) _) _, blk_alloc (blk_alloc h2 _) _, blk_alloc h3 _, h4, bl_alloc (bl_alloc (bl_alloc (bl_alloc (Below.refl _ _) _) _) _) _, by simp⟩
set_option maxHeartbeats 16000000 in
set_option maxRecDepth 100000 in
theorem decode_any (A : Addr) (c : Nat) (T : Tb) (w : World) (hr : ReadsInt w .u8 (some A) 256 (tbD T)) (hc : 256 ≤ c) (hT : TbOk T) (hlp : T.place.length = 11) (hls : T.spare.length ≤ 3) (hbx : Byt (tbD T)) :
  Calls Try.prog 61 #[.slice (some A) 256 c, .agg #[.int .i64 3, .int .i64 16, .int .i64 6, .int .i64 256]] w fun e w' => Below w.heap.size w w' ∧ ∃ C, e = .returned (.tuple #[.agg C, .int .i64 0]) ∧ TbR w' (fun k => w.heap.size ≤ k) C T := by
 have HR := Lib.hid hr
 have HT := Lib.hid (And.intro hT (And.intro hlp (And.intro hls hbx)))
 have hmf := makeFunc_
 clear hr hT hlp hls hbx
 go_enter Try.func61, Try.ntmps61
 go_wp2_with fail
 have ha := alloc4 w #[.int .i64 3, .int .i64 16, .int .i64 6, .int .i64 256] #[.int .u32 0, .slice none 0 0, .slice none 0 0, .int .i64 0, .int .i64 0] #[.int .u32 0, .slice none 0 0, .slice none 0 0, .int .i64 0, .int .i64 0] #[.bool false] 50 108 108 4 _ rfl
 obtain ⟨W, hW⟩ : ∃ W, (((w.alloc (.cells #[.int .i64 3, .int .i64 16, .int .i64 6, .int .i64 256] 50)).alloc (.cells #[.int .u32 0, .slice none 0 0, .slice none 0 0, .int .i64 0, .int .i64 0] 108)).alloc (.cells #[.int .u32 0, .slice none 0 0, .slice none 0 0, .int .i64 0, .int .i64 0] 108)).alloc (.cells #[.bool false] 4) = W := ⟨_, rfl⟩
 rw [hW] at ha ⊢
 have HW := Lib.hid ha
 clear hW ha
 refine (read_mods (some A) 256 c 63 #[.pointer (some ⟨w.heap.size + 1 + 1, 0, none⟩), .pointer (some ⟨w.heap.size + 1 + 1 + 1, 0, none⟩)] W (fun i => i = w.heap.size + 1 + 1 ∨ i = w.heap.size + 1 + 1 + 1)
  (fun w' => (∃ C, w'.heap[w.heap.size + 1 + 1]? = some (.cells C 108 (0, 0)) ∧ TbR w' (fun k => W.heap.size < k) C T) ∧ w'.heap[w.heap.size + 1 + 1 + 1]? = some (.cells #[.bool true] 4 (0, 0))) (fun _ => False)
  Try.f63 Try.func63 (by kernel_rfl) (by kernel_rfl) (by have h_ := HW.out.2.2.2.2.2; rintro i (rfl | rfl) <;> omega) (fun wa wb h k => by
   have h_ := HW.out.2.2.2.2.2
   obtain ⟨⟨C, h1, h2⟩, h3⟩ := h
   exact ⟨⟨C, k.blk h1 (by omega) (by simp), h2.keepbut k⟩, k.blk h3 (by omega) (by simp)⟩) (fun _ _ h _ => h.elim) ?_).mono ?_
 ·intro w2 he hrd hbl hsz
  have h_ := HW.out.2.2.2.2.2
  refine (dec1_any (W.heap.size + 1) (w.heap.size + 1 + 1) (w.heap.size + 1 + 1 + 1) (some A) c (tbD T) T w2 hrd ((HR.out.below HW.out.2.2.2.2.1).below hbl) hc rfl HT.out.2.2.2 HT.out.1 HT.out.2.1 HT.out.2.2.1
   (fun a ha => by have := reads_lt HR.out (by decide) a ha; omega) (blk_below HW.out.2.2.1 hbl) (blk_below HW.out.2.2.2.1 hbl) (by omega) (by omega) (by omega)).mono ?_
  rintro e w' ⟨hM, he2, ⟨C, hq2, hq3⟩, hq4⟩
  exact ⟨hM, .inl ⟨he2, ⟨C, hq2, hq3.mono (fun k hk => by omega)⟩, hq4⟩⟩
 ·rintro e w5 ⟨hM, ⟨rfl, ⟨C, hP1, hP2⟩, hP3⟩ | ⟨rfl, hF⟩⟩
  case inr => exact hF.elim
  obtain ⟨P3, p3, S3, q3, rfl⟩ := hP2.shape
  have hR5 := hM.blk HW.out.1 (by rintro (e | e) <;> omega)
  have hR6 := hM.blk HW.out.2.1 (by rintro (e | e) <;> omega)
  have T5 : Hid (Below w.heap.size w w5) := Lib.hid (HW.out.2.2.2.2.1.trans (hM.below (B := w.heap.size) (by have h_ := HW.out.2.2.2.2.2; omega) (by rintro i (rfl | rfl) <;> omega)))
  have zr : w5.cell? ⟨w.heap.size + 1 + 1 + 1, 0, none⟩ = some (.bool true) := (blk_cell hP3 0).trans rfl
  obtain ⟨v0, v1, v2, v3, v4⟩ := tab_facts hP1
  have x0 : w5.cell? ⟨w.heap.size, 0, none⟩ = some (.int .i64 3) := (blk_cell hR5 0).trans rfl
  have x1 : w5.cell? ⟨w.heap.size, 1, none⟩ = some (.int .i64 16) := (blk_cell hR5 1).trans rfl
  have x2 : w5.cell? ⟨w.heap.size, 2, none⟩ = some (.int .i64 6) := (blk_cell hR5 2).trans rfl
  have x3 : w5.cell? ⟨w.heap.size, 3, none⟩ = some (.int .i64 256) := (blk_cell hR5 3).trans rfl
  have HP := Lib.hid (And.intro hP1 (And.intro hP2 hR6))
  clear hM hP1 hP2 hP3 hR5 hR6
  go_wp2_with fail
  refine (check_any (tbC P3 p3 S3 q3 T) T _ w5 HP.out.2.1 HT.out.1).mono ?_
  rintro e w6 ⟨rfl, hb6⟩
  have hP6 := blk_below HP.out.1 hb6
  have hR7 := blk_below HP.out.2.2 hb6
  obtain ⟨v0', v1', v2', v3', v4'⟩ := tab_facts hP6
  have z0 : w6.cell? ⟨w.heap.size + 1, 0, none⟩ = some (.int .u32 0) := (blk_cell hR7 0).trans rfl
  have z1 : w6.cell? ⟨w.heap.size + 1, 1, none⟩ = some (.slice none 0 0) := (blk_cell hR7 1).trans rfl
  have z2 : w6.cell? ⟨w.heap.size + 1, 2, none⟩ = some (.slice none 0 0) := (blk_cell hR7 2).trans rfl
  have z3 : w6.cell? ⟨w.heap.size + 1, 3, none⟩ = some (.int .i64 0) := (blk_cell hR7 3).trans rfl
  have z4 : w6.cell? ⟨w.heap.size + 1, 4, none⟩ = some (.int .i64 0) := (blk_cell hR7 4).trans rfl
  have zf := fun k => blk_frozen hR7 k
  have H6 := Lib.hid (And.intro (bl_seq T5.out hb6) (And.intro (HP.out.2.1.below hb6) hR7))
  clear hb6 hP6 v0 v1 v2 v3 v4 zr x0 x1 x2 x3 T5 HP hR7
  go_wp2_with fail
  have hW := HW.out.2.2.2.2.2
  have hz9 := put5 H6.out.2.2 (.int .u32 T.seq) (.slice (some P3) 11 p3) (.slice S3 T.spare.length q3) (.int .i64 T.t0) (.int .i64 T.t1)
  have hb9 := bel5 H6.out.1 (show w.heap.size ≤ w.heap.size + 1 by omega) (.int .u32 T.seq) (.slice (some P3) 11 p3) (.slice S3 T.spare.length q3) (.int .i64 T.t0) (.int .i64 T.t1)
  have hm9 : Mods (fun k => k = w.heap.size + 1) w6 (((((w6.setCell ⟨w.heap.size + 1, 0, none⟩ (.int .u32 T.seq)).setCell ⟨w.heap.size + 1, 1, none⟩ (.slice (some P3) 11 p3)).setCell ⟨w.heap.size + 1, 2, none⟩ (.slice S3 T.spare.length q3)).setCell ⟨w.heap.size + 1, 3, none⟩ (.int .i64 T.t0)).setCell ⟨w.heap.size + 1, 4, none⟩ (.int .i64 T.t1)) :=
   (((((Mods.refl (fun k => k = w.heap.size + 1) w6).at_ (.inl rfl) 0 _).at_ (.inl rfl) 1 _).at_ (.inl rfl) 2 _).at_ (.inl rfl) 3 _).at_ (.inl rfl) 4 _
  have ht9 := H6.out.2.1.mods hm9 (fun k hk => by omega)
  obtain ⟨w9, hw9⟩ : ∃ w9, ((((w6.setCell ⟨w.heap.size + 1, 0, none⟩ (.int .u32 T.seq)).setCell ⟨w.heap.size + 1, 1, none⟩ (.slice (some P3) 11 p3)).setCell ⟨w.heap.size + 1, 2, none⟩ (.slice S3 T.spare.length q3)).setCell ⟨w.heap.size + 1, 3, none⟩ (.int .i64 T.t0)).setCell ⟨w.heap.size + 1, 4, none⟩ (.int .i64 T.t1) = w9 := ⟨_, rfl⟩
  rw [hw9] at hz9 hb9 ht9 ⊢
  have c0 : w9.cell? ⟨w.heap.size + 1, 0, none⟩ = some (.int .u32 T.seq) := (blk_cell hz9 0).trans rfl
  have c1 : w9.cell? ⟨w.heap.size + 1, 1, none⟩ = some (.slice (some P3) 11 p3) := (blk_cell hz9 1).trans rfl
  have c2 : w9.cell? ⟨w.heap.size + 1, 2, none⟩ = some (.slice S3 T.spare.length q3) := (blk_cell hz9 2).trans rfl
  have c3 : w9.cell? ⟨w.heap.size + 1, 3, none⟩ = some (.int .i64 T.t0) := (blk_cell hz9 3).trans rfl
  have c4 : w9.cell? ⟨w.heap.size + 1, 4, none⟩ = some (.int .i64 T.t1) := (blk_cell hz9 4).trans rfl
  clear hw9 hz9
  refine bodyPost_ret (v := .tuple #[.agg #[.int .u32 T.seq, .slice (some P3) 11 p3, .slice S3 T.spare.length q3, .int .i64 T.t0, .int .i64 T.t1], .int .i64 0]) (by simp [results, Try.results61, go_sem, c0, c1, c2, c3, c4]) rfl ⟨hb9, _, rfl, ht9.mono (fun k hk => by omega)⟩
end Go.Proofs.Ytffalemndjampaa
end
section
set_option linter.unusedVariables false
set_option linter.unusedSimpArgs false
namespace Go.Proofs.Ytffalemndjampaa
open Go.RowKit Go.Proofs.YtffalemndjampaaW.PrintWords Go.Proofs.YtffalemndjampaaW.PrintLast
def IsTab (x : List Int × List Int) (T : Tb) : Prop := x = (tbD T, tbO T) ∧ TbOk T ∧ T.place.length = 11 ∧ T.spare.length ≤ 3
def NoTab (x : List Int × List Int) : Prop := ¬ (openB x.1 x.2 = true ∧ (openH x.2).k = 1)
def tb0 : Array Value := #[.int .u32 0, .slice none 0 0, .slice none 0 0, .int .i64 0, .int .i64 0]
def JoinQ (w : World) (x : List Int × List Int) (e : Ending) (w' : World) : Prop :=
 Below w.heap.size w w' ∧ ((∃ T C, IsTab x T ∧ e = .returned (.tuple #[.agg C, .int .i64 0]) ∧ TbR w' (fun k => w.heap.size ≤ k) C T) ∨ (NoTab x ∧ e = .returned (.tuple #[.agg tb0, .int .i64 62])))
theorem tab_open {T : Tb} (h : TbOk T) : openB (tbD T) (tbO T) = true ∧ openR (tbD T) (tbO T) = tbH T := by
 have h1 : openB (tbD T) (tbO T) = true := by unfold tbO; rw [seal_open _ _ (tbH_ok h)]; rfl
 exact ⟨h1, by rw [openR_yes h1]; exact seal_head _ _ (tbH_ok h)⟩
def TwR.T9 : Bool × List (List Nat × List Nat) := (true, [([], []), ([], []), ([0, 1], [0, 1]), ([2], [2]), ([3], [3]), ([], []), ([], []), ([5, 6], [5, 6]), ([7], [7]), ([8], [8]), ([4, 9], [4, 9]), ([10], [10]), ([11], [11]), ([11], [11]), ([], []), ([14, 12, 10, 0, 1, 2, 3, 4, 5, 6, 7, 8, 9, 10, 11, 12, 14], [12, 14]), ([13, 15, 0, 1, 2, 3, 4, 5, 6, 7, 8, 9, 10, 11, 12, 13, 14, 15], [13])])
def TwR.B9 : List Nat := [0, 0, 3, 7, 15, 0, 0, 96, 224, 480, 1023, 2047, 4095, 4095, 0, 24575, 65535]
theorem TwR.tab9 : rtab .any (opsOf Try.f56 9) = TwR.T9 := by kernel_rfl
theorem TwR.bits9 : waitsOk TwR.T9.2 TwR.B9 = true := by kernel_rfl
set_option maxHeartbeats 16000000 in
set_option maxRecDepth 100000 in
theorem join_any (G n cG : Nat) (D O : Addr) (cd co : Nat) (x1 x2 : List Int) (w : World) (h0 : w.cell? ⟨G, 0, none⟩ = some (.slice (some D) 256 cd)) (h1 : w.cell? ⟨G, 1, none⟩ = some (.slice (some O) 64 co)) (hr1 : ReadsInt w .u8 (some D) 256 x1) (hr2 : ReadsInt w .u8 (some O) 64 x2) (hb1 : Byt x1) (hb2 : Byt x2) (hcd : 256 ≤ cd) (hco : 64 ≤ co)
  (hn : 0 < n) (hn2 : n ≤ 100) (hx : (∃ T, IsTab (x1, x2) T) ∨ NoTab (x1, x2)) :
  Calls Try.prog 56 #[.slice (some ⟨G, 0, none⟩) n cG, .agg #[.int .i64 3, .int .i64 16, .int .i64 6, .int .i64 256]] w (JoinQ w (x1, x2)) := by
 have hn0 : ((0 : Int) < (n : Int)) := by omega
 obtain ⟨⟨hk, he, hb, hi, hc, hl, hm⟩, hhd⟩ : ∃ H, openR x1 x2 = H := ⟨_, rfl⟩
 obtain ⟨ob, hob⟩ : ∃ ob, openB x1 x2 = ob := ⟨_, rfl⟩
 have HO := Lib.hid (show openR x1 x2 = ⟨hk, he, hb, hi, hc, hl, hm⟩ ∧ openB x1 x2 = ob from ⟨hhd, hob⟩)
 have HG := Lib.hid (And.intro h0 h1)
 have HR := Lib.hid (And.intro hr1 (And.intro hr2 (And.intro hb1 (And.intro hb2 (And.intro hcd hco)))))
 have HX := Lib.hid hx
 clear h0 h1 hr1 hr2 hb1 hb2 hcd hco hx hhd hob
 have ha := al2_ w #[.int .i64 3, .int .i64 16, .int .i64 6, .int .i64 256] #[.int .u32 0, .slice none 0 0, .slice none 0 0, .int .i64 0, .int .i64 0] 50 108
 go_enter Try.func56, Try.ntmps56
 go_wp2_with fail
 obtain ⟨w0, hw0⟩ : ∃ w0, (w.alloc (.cells #[.int .i64 3, .int .i64 16, .int .i64 6, .int .i64 256] 50)).alloc (.cells #[.int .u32 0, .slice none 0 0, .slice none 0 0, .int .i64 0, .int .i64 0] 108) = w0 := ⟨_, rfl⟩
 rw [hw0] at ha ⊢
 obtain ⟨g3, hg3⟩ : ∃ g3, w.heap.size = g3 := ⟨_, rfl⟩
 obtain ⟨g4, hg4⟩ : ∃ g4, w.heap.size + 1 = g4 := ⟨_, rfl⟩
 rw [hg4] at ha
 have HNE := Lib.hid (show g3 ≠ g4 ∧ w.heap.size ≤ g4 ∧ w.heap.size ≤ g3 by omega)
 rw [hg3] at ha
 try rw [hg4]
 try rw [hg3]
 have H0 := Lib.hid (And.intro (And.intro ha.1 ha.2.1) (show Below w.heap.size w w0 by rw [hg3]; exact ha.2.2))
 clear hw0 ha hg3 hg4
 go_loopw [6, 7, 8, 9] (fun b cnt sq i wr => (b = .slice none 0 0 ∧ cnt = .int .i64 1 ∧ sq = .int .u32 0 ∧ i = .int .i64 0 ∧ wr = w0) ∨ (∃ T B y, cnt = .int .i64 1 ∧ i = .int .i64 1 ∧ b = .slice (some ⟨B, 0, none⟩) 256 y ∧ sq = .int .u32 T.seq ∧ Hid (IsTab (x1, x2) T ∧ Below w0.heap.size w0 wr ∧ w0.heap.size ≤ B ∧ 256 ≤ y ∧ ReadsInt wr .u8 (some ⟨B, 0, none⟩) 256 x1))) (fun _ _ _ i _ => 1 - (intOf i).toNat)
 case atStart => exact .inl ⟨rfl, rfl, rfl, rfl, rfl⟩
 case round =>
  rcases hrel with ⟨rfl, rfl, rfl, rfl, rfl⟩ | ⟨T, B, y, rfl, rfl, rfl, rfl, HXX⟩
  ·have HGr := Lib.hid (show wr.cell? ⟨G, 0, none⟩ = some (.slice (some D) 256 cd) ∧ wr.cell? ⟨G, 1, none⟩ = some (.slice (some O) 64 co) from ⟨pw_cell_below H0.out.2 HG.out.1, pw_cell_below H0.out.2 HG.out.2⟩)
   have HRr := Lib.hid (show ReadsInt wr .u8 (some D) 256 x1 ∧ ReadsInt wr .u8 (some O) 64 x2 ∧ Byt x1 ∧ Byt x2 ∧ 256 ≤ cd ∧ 64 ≤ co from ⟨HR.out.1.below H0.out.2, HR.out.2.1.below H0.out.2, HR.out.2.2⟩)
   go_wp2_with fail
   refine start_ (n := 17) (S := fun w' => True) (ds := []) _ (by kernel_rfl) rfl rfl trivial (fun hHeld => ?_)
   refine with_tabW TwR.tab9 TwR.bits9 (fun HT_ HW_ => ?_)
   have HGz := Lib.hid (show wr.drew.cell? ⟨G, 0, none⟩ = some (.slice (some D) 256 cd) ∧ wr.drew.cell? ⟨G, 1, none⟩ = some (.slice (some O) 64 co) from ⟨HGr.out.1, HGr.out.2⟩)
   have HRz := Lib.hid (show ReadsInt wr.drew .u8 (some D) 256 x1 ∧ ReadsInt wr.drew .u8 (some O) 64 x2 ∧ Byt x1 ∧ Byt x2 ∧ 256 ≤ cd ∧ 64 ≤ co from ⟨HRr.out.1.below (bl_drew (Below.refl _ _)), HRr.out.2.1.below (bl_drew (Below.refl _ _)), HRr.out.2.2⟩)
   have HOz := HO
   have hn0z := hn0
   have DZ := Lib.hid (show Below wr.heap.size wr wr.drew from bl_drew (Below.refl _ _))
   generalize wr.drew = wz at HGz HRz DZ hHeld ⊢
   have VB := Lib.hid (Below.refl wz.heap.size wz)
   refine pur_ 0 (some 25) HT_.out rfl rfl (by kernel_rfl) (fun _ _ _ h => h) (by rfl) (fun w' => by go_simp; with_reducible rfl) (by simp only [Act.put, List.setIfInBounds_toArray, List.set_cons_zero, List.set_cons_succ, i64_w, i32_w]; rfl) ?_
   refine pur_ 1 (some 26) HT_.out rfl rfl (by kernel_rfl) (fun _ _ _ h => h) (by rfl) (fun w' => by go_simp; with_reducible rfl) (by simp only [Act.put, List.setIfInBounds_toArray, List.set_cons_zero, List.set_cons_succ, i64_w, i32_w]; rfl) ?_
   refine pur_ 5 (some 30) HT_.out rfl rfl (by kernel_rfl) (fun _ _ _ h => h) (by rfl) (fun w' => by go_simp; with_reducible rfl) (by simp only [Act.put, List.setIfInBounds_toArray, List.set_cons_zero, List.set_cons_succ, i64_w, i32_w]; rfl) ?_
   refine pur_ 6 (some 31) HT_.out rfl rfl (by kernel_rfl) (fun _ _ _ h => h) (by rfl) (fun w' => by go_simp; with_reducible rfl) (by simp only [Act.put, List.setIfInBounds_toArray, List.set_cons_zero, List.set_cons_succ, i64_w, i32_w]; rfl) ?_
   refine inv_at [2, 3, 4, 7, 8, 9, 10, 11, 12, 13, 14, 15, 16] (fun a0_ b a w' => ∃ (g10 : Nat) (m14_ : Value), a = putSel a0_ b [(2, 27, .pointer (some ⟨G, 0, none⟩)), (3, 28, .pointer (some ⟨G, 0, none⟩)), (4, 29, .slice (some D) 256 cd), (7, 32, .pointer (some ⟨G, 0, none⟩)), (8, 33, .pointer (some ⟨G, 1, none⟩)), (9, 34, .slice (some O) 64 co), (10, 35, .tuple #[.agg #[.int .u8 hk, .int .u32 he, .int .u32 hb, .int .u16 hi, .int .u16 hc, .int .u32 hl, .int .u32 hm], .bool ob]), (11, 24, .tuple #[.agg #[.int .u8 hk, .int .u32 he, .int .u32 hb, .int .u16 hi, .int .u16 hc, .int .u32 hl, .int .u32 hm], .bool ob]), (12, 36, .agg #[.int .u8 hk, .int .u32 he, .int .u32 hb, .int .u16 hi, .int .u16 hc, .int .u32 hl, .int .u32 hm]), (13, 37, .bool ob), (14, 10, m14_), (16, 11, .bool ob)] ∧ (Below wz.heap.size wz w') ∧ (b 14 = true → wz.heap.size ≤ g10) ∧ (b 14 = true → b 15 = false → w'.heap[g10]? = some (.cells #[.int .u8 0, .int .u32 0, .int .u32 0, .int .u16 0, .int .u16 0, .int .u32 0, .int .u32 0] 65 (0, 0))) ∧ (b 15 = true → w'.heap[g10]? = some (.cells #[.int .u8 hk, .int .u32 he, .int .u32 hb, .int .u16 hi, .int .u16 hc, .int .u32 hl, .int .u32 hm] 65 (0, 0))) ∧ (b 14 = true → (m14_ : Value) = .pointer (some ⟨g10, 0, none⟩))) HT_.out HW_.out (by kernel_rfl) (by kernel_rfl) ?_ ?_ ?_
   ·exact ⟨0, .bool false, by simp only [putSel, Bool.false_eq_true, if_false], VB.out, fun h_ => absurd h_ (by decide), fun h_ => absurd h_ (by decide), fun h_ => absurd h_ (by decide), fun h_ => absurd h_ (by decide)⟩
   ·skip
    clear VB
    refine steps_cons ?_ ?_
    ·rintro b a w' ⟨g10, m14_, ha, Q_VB, Q_GE, Q_HD0, Q_HD1, Q_X14_⟩ hb_ hon hoff
     refine ⟨_, rfl, fun K hK => ?_⟩
     have e25 : a.tmps[25]? = some (.slice (some ⟨G, 0, none⟩) n cG) := by rw [ha]; exact (putSel_off rfl).trans rfl
     have e26 : a.tmps[26]? = some (.int .i64 0) := by rw [ha]; exact (putSel_off rfl).trans rfl
     replace ha := Aside0.mk ha
     have VB := Aside0.mk Q_VB
     have hn_ := hn0z
     refine value_ (w1 := w') (v := .pointer (some ⟨G, 0, none⟩)) (by rfl) rfl ?_ ?_
     ·go_simp
      (try simp only [i64_w])
      try rfl
     refine hK.out _ _ ⟨g10, m14_, (ptup_ ha.out 0 hb_ rfl rfl rfl), Q_VB, Q_GE, Q_HD0, off_ (hoff 15 (by kernel_rfl)), Q_X14_⟩
    refine steps_cons ?_ ?_
    ·rintro b a w' ⟨g10, m14_, ha, Q_VB, Q_GE, Q_HD0, Q_HD1, Q_X14_⟩ hb_ hon hoff
     refine ⟨_, rfl, fun K hK => ?_⟩
     have e27 : a.tmps[27]? = some (.pointer (some ⟨G, 0, none⟩)) := pton_ ha 0 rfl rfl (hon 2 (by kernel_rfl)) rfl
     replace ha := Aside0.mk ha
     have VB := Aside0.mk Q_VB
     refine value_ (w1 := w') (v := .pointer (some ⟨G, 0, none⟩)) (by rfl) rfl ?_ ?_
     ·go_simp
      (try simp only [i64_w])
      try rfl
     refine hK.out _ _ ⟨g10, m14_, (ptup_ ha.out 1 hb_ rfl rfl rfl), Q_VB, Q_GE, Q_HD0, off_ (hoff 15 (by kernel_rfl)), Q_X14_⟩
    refine steps_cons ?_ ?_
    ·rintro b a w' ⟨g10, m14_, ha, Q_VB, Q_GE, Q_HD0, Q_HD1, Q_X14_⟩ hb_ hon hoff
     refine ⟨_, rfl, fun K hK => ?_⟩
     have e28 : a.tmps[28]? = some (.pointer (some ⟨G, 0, none⟩)) := pton_ ha 1 rfl rfl (hon 3 (by kernel_rfl)) rfl
     replace ha := Aside0.mk ha
     have VB := Aside0.mk Q_VB
     have hc_ : w'.cell? ⟨G, 0, none⟩ = some (.slice (some D) 256 cd) := pw_cell_below VB.out HGz.out.1
     refine value_ (w1 := w') (v := .slice (some D) 256 cd) (by rfl) rfl ?_ ?_
     ·go_simp
      (try simp only [i64_w])
      try rfl
     refine hK.out _ _ ⟨g10, m14_, (ptup_ ha.out 2 hb_ rfl rfl rfl), Q_VB, Q_GE, Q_HD0, off_ (hoff 15 (by kernel_rfl)), Q_X14_⟩
    refine steps_cons ?_ ?_
    ·rintro b a w' ⟨g10, m14_, ha, Q_VB, Q_GE, Q_HD0, Q_HD1, Q_X14_⟩ hb_ hon hoff
     refine ⟨_, rfl, fun K hK => ?_⟩
     have e30 : a.tmps[30]? = some (.slice (some ⟨G, 0, none⟩) n cG) := by rw [ha]; exact (putSel_off rfl).trans rfl
     have e31 : a.tmps[31]? = some (.int .i64 0) := by rw [ha]; exact (putSel_off rfl).trans rfl
     replace ha := Aside0.mk ha
     have VB := Aside0.mk Q_VB
     have hn_ := hn0z
     refine value_ (w1 := w') (v := .pointer (some ⟨G, 0, none⟩)) (by rfl) rfl ?_ ?_
     ·go_simp
      (try simp only [i64_w])
      try rfl
     refine hK.out _ _ ⟨g10, m14_, (ptup_ ha.out 3 hb_ rfl rfl rfl), Q_VB, Q_GE, Q_HD0, off_ (hoff 15 (by kernel_rfl)), Q_X14_⟩
    refine steps_cons ?_ ?_
    ·rintro b a w' ⟨g10, m14_, ha, Q_VB, Q_GE, Q_HD0, Q_HD1, Q_X14_⟩ hb_ hon hoff
     refine ⟨_, rfl, fun K hK => ?_⟩
     have e32 : a.tmps[32]? = some (.pointer (some ⟨G, 0, none⟩)) := pton_ ha 3 rfl rfl (hon 7 (by kernel_rfl)) rfl
     replace ha := Aside0.mk ha
     have VB := Aside0.mk Q_VB
     refine value_ (w1 := w') (v := .pointer (some ⟨G, 1, none⟩)) (by rfl) rfl ?_ ?_
     ·go_simp
      (try simp only [i64_w])
      try rfl
     refine hK.out _ _ ⟨g10, m14_, (ptup_ ha.out 4 hb_ rfl rfl rfl), Q_VB, Q_GE, Q_HD0, off_ (hoff 15 (by kernel_rfl)), Q_X14_⟩
    refine steps_cons ?_ ?_
    ·rintro b a w' ⟨g10, m14_, ha, Q_VB, Q_GE, Q_HD0, Q_HD1, Q_X14_⟩ hb_ hon hoff
     refine ⟨_, rfl, fun K hK => ?_⟩
     have e33 : a.tmps[33]? = some (.pointer (some ⟨G, 1, none⟩)) := pton_ ha 4 rfl rfl (hon 8 (by kernel_rfl)) rfl
     replace ha := Aside0.mk ha
     have VB := Aside0.mk Q_VB
     have hc_ : w'.cell? ⟨G, 1, none⟩ = some (.slice (some O) 64 co) := pw_cell_below VB.out HGz.out.2
     refine value_ (w1 := w') (v := .slice (some O) 64 co) (by rfl) rfl ?_ ?_
     ·go_simp
      (try simp only [i64_w])
      try rfl
     refine hK.out _ _ ⟨g10, m14_, (ptup_ ha.out 5 hb_ rfl rfl rfl), Q_VB, Q_GE, Q_HD0, off_ (hoff 15 (by kernel_rfl)), Q_X14_⟩
    refine steps_cons ?_ ?_
    ·rintro b a w' ⟨g10, m14_, ha, Q_VB, Q_GE, Q_HD0, Q_HD1, Q_X14_⟩ hb_ hon hoff
     refine ⟨_, rfl, fun K hK => ?_⟩
     have e29 : a.tmps[29]? = some (.slice (some D) 256 cd) := pton_ ha 2 rfl rfl (hon 4 (by kernel_rfl)) rfl
     have e34 : a.tmps[34]? = some (.slice (some O) 64 co) := pton_ ha 5 rfl rfl (hon 9 (by kernel_rfl)) rfl
     replace ha := Aside0.mk ha
     have VB := Aside0.mk Q_VB
     refine goes_ Try.func27 (by kernel_rfl) rfl #[.slice (some D) 256 cd, .slice (some O) 64 co] (by rfl) rfl rfl (by first | (simp only [List.map_toArray, List.map_cons, List.map_nil, Act.eval, Array.getD_eq_getD_getElem?, Option.getD_some, e29, e34]; done) | (simp only [List.map_toArray, List.map_cons, List.map_nil, Act.eval, Array.getD_eq_getD_getElem?, Option.getD_some, e29, e34]; rfl)) ?_
     refine (open_any (some O) (some D) co 256 cd 64 x2 x1 w' (HRz.out.2.1.below VB.out) HRz.out.2.2.2.1 HRz.out.2.2.2.2.2 (HRz.out.1.below VB.out) HRz.out.2.2.1 HRz.out.2.2.2.2.1).mono ?_
     rintro e w1 ⟨q1, he_⟩
     rw [HOz.out.1, HOz.out.2] at he_
     subst he_
     refine ⟨_, rfl, ?_⟩
     refine hK.out _ _ ⟨g10, m14_, (ptup_ ha.out 6 hb_ rfl rfl rfl), bl_seq VB.out q1, fun h0_ => (Q_GE h0_), fun h0_ h1_ => blk_below (Q_HD0 h0_ h1_) q1, off_ (hoff 15 (by kernel_rfl)), Q_X14_⟩
    refine steps_cons ?_ ?_
    ·rintro b a w' ⟨g10, m14_, ha, Q_VB, Q_GE, Q_HD0, Q_HD1, Q_X14_⟩ hb_ hon hoff
     refine ⟨_, rfl, fun K hK => ?_⟩
     have e35 : a.tmps[35]? = some (.tuple #[.agg #[.int .u8 hk, .int .u32 he, .int .u32 hb, .int .u16 hi, .int .u16 hc, .int .u32 hl, .int .u32 hm], .bool ob]) := pton_ ha 6 rfl rfl (hon 10 (by kernel_rfl)) rfl
     replace ha := Aside0.mk ha
     have VB := Aside0.mk Q_VB
     refine value_ (w1 := w') (v := .tuple #[.agg #[.int .u8 hk, .int .u32 he, .int .u32 hb, .int .u16 hi, .int .u16 hc, .int .u32 hl, .int .u32 hm], .bool ob]) (by rfl) rfl ?_ ?_
     ·go_simp
      (try simp only [i64_w])
      try rfl
     refine hK.out _ _ ⟨g10, m14_, (ptup_ ha.out 7 hb_ rfl rfl rfl), Q_VB, Q_GE, Q_HD0, off_ (hoff 15 (by kernel_rfl)), Q_X14_⟩
    refine steps_cons ?_ ?_
    ·rintro b a w' ⟨g10, m14_, ha, Q_VB, Q_GE, Q_HD0, Q_HD1, Q_X14_⟩ hb_ hon hoff
     refine ⟨_, rfl, fun K hK => ?_⟩
     have e24 : a.tmps[24]? = some (.tuple #[.agg #[.int .u8 hk, .int .u32 he, .int .u32 hb, .int .u16 hi, .int .u16 hc, .int .u32 hl, .int .u32 hm], .bool ob]) := pton_ ha 7 rfl rfl (hon 11 (by kernel_rfl)) rfl
     replace ha := Aside0.mk ha
     have VB := Aside0.mk Q_VB
     refine value_ (w1 := w') (v := .agg #[.int .u8 hk, .int .u32 he, .int .u32 hb, .int .u16 hi, .int .u16 hc, .int .u32 hl, .int .u32 hm]) (by rfl) rfl ?_ ?_
     ·go_simp
      (try simp only [i64_w])
      try rfl
     refine hK.out _ _ ⟨g10, m14_, (ptup_ ha.out 8 hb_ rfl rfl rfl), Q_VB, Q_GE, Q_HD0, off_ (hoff 15 (by kernel_rfl)), Q_X14_⟩
    refine steps_cons ?_ ?_
    ·rintro b a w' ⟨g10, m14_, ha, Q_VB, Q_GE, Q_HD0, Q_HD1, Q_X14_⟩ hb_ hon hoff
     refine ⟨_, rfl, fun K hK => ?_⟩
     have e24 : a.tmps[24]? = some (.tuple #[.agg #[.int .u8 hk, .int .u32 he, .int .u32 hb, .int .u16 hi, .int .u16 hc, .int .u32 hl, .int .u32 hm], .bool ob]) := pton_ ha 7 rfl rfl (hon 11 (by kernel_rfl)) rfl
     replace ha := Aside0.mk ha
     have VB := Aside0.mk Q_VB
     refine value_ (w1 := w') (v := .bool ob) (by rfl) rfl ?_ ?_
     ·go_simp
      (try simp only [i64_w])
      try rfl
     refine hK.out _ _ ⟨g10, m14_, (ptup_ ha.out 9 hb_ rfl rfl rfl), Q_VB, Q_GE, Q_HD0, Q_HD1, Q_X14_⟩
    refine steps_cons ?_ ?_
    ·rintro b a w' ⟨g10, m14_, ha, Q_VB, Q_GE, Q_HD0, Q_HD1, Q_X14_⟩ hb_ hon hoff
     refine ⟨_, rfl, fun K hK => ?_⟩
     replace ha := Aside0.mk ha
     have VB := Aside0.mk Q_VB
     refine value_ (w1 := w'.alloc (.cells #[.int .u8 0, .int .u32 0, .int .u32 0, .int .u16 0, .int .u16 0, .int .u32 0, .int .u32 0] 65)) (v := .pointer (some ⟨w'.heap.size, 0, none⟩)) (by rfl) rfl ?_ ?_
     ·go_simp
      try rfl
     refine hK.out _ _ ⟨w'.heap.size, (.pointer (some ⟨w'.heap.size, 0, none⟩)), (ptup_ ha.out 10 hb_ rfl rfl rfl), bl_alloc VB.out _, fun _ => VB.out.size, fun _ _ => heap_alloc_new w' _, off_ (hoff 15 (by kernel_rfl)), fun _ => rfl⟩
    refine steps_cons ?_ ?_
    ·rintro b a w' ⟨g10, m14_, ha, Q_VB, Q_GE, Q_HD0, Q_HD1, Q_X14_⟩ hb_ hon hoff
     refine ⟨_, rfl, fun K hK => ?_⟩
     have e10 : a.tmps[10]? = some (m14_) := pton_ ha 10 rfl rfl (hon 14 (by kernel_rfl)) rfl
     rw [Q_X14_ (hon 14 (by kernel_rfl))] at e10
     have e36 : a.tmps[36]? = some (.agg #[.int .u8 hk, .int .u32 he, .int .u32 hb, .int .u16 hi, .int .u16 hc, .int .u32 hl, .int .u32 hm]) := pton_ ha 8 rfl rfl (hon 12 (by kernel_rfl)) rfl
     replace ha := Aside0.mk ha
     have VB := Aside0.mk Q_VB
     have GE := Aside0.mk (Q_GE (hon 14 (by kernel_rfl)))
     have HD0 := Aside0.mk (Q_HD0 (hon 14 (by kernel_rfl)) hb_)
     have zc0_ : w'.cell? ⟨g10, 0, none⟩ = some (.int .u8 0) := (blk_cell HD0.out 0).trans rfl
     have zc1_ : w'.cell? ⟨g10, 1, none⟩ = some (.int .u32 0) := (blk_cell HD0.out 1).trans rfl
     have zc2_ : w'.cell? ⟨g10, 2, none⟩ = some (.int .u32 0) := (blk_cell HD0.out 2).trans rfl
     have zc3_ : w'.cell? ⟨g10, 3, none⟩ = some (.int .u16 0) := (blk_cell HD0.out 3).trans rfl
     have zc4_ : w'.cell? ⟨g10, 4, none⟩ = some (.int .u16 0) := (blk_cell HD0.out 4).trans rfl
     have zc5_ : w'.cell? ⟨g10, 5, none⟩ = some (.int .u32 0) := (blk_cell HD0.out 5).trans rfl
     have zc6_ : w'.cell? ⟨g10, 6, none⟩ = some (.int .u32 0) := (blk_cell HD0.out 6).trans rfl
     have zf0_ := blk_frozen HD0.out 0
     have zf1_ := blk_frozen HD0.out 1
     have zf2_ := blk_frozen HD0.out 2
     have zf3_ := blk_frozen HD0.out 3
     have zf4_ := blk_frozen HD0.out 4
     have zf5_ := blk_frozen HD0.out 5
     have zf6_ := blk_frozen HD0.out 6
     refine skip_ (w1 := ((((((w'.setCell ⟨g10, 0, none⟩ (.int .u8 hk)).setCell ⟨g10, 1, none⟩ (.int .u32 he)).setCell ⟨g10, 2, none⟩ (.int .u32 hb)).setCell ⟨g10, 3, none⟩ (.int .u16 hi)).setCell ⟨g10, 4, none⟩ (.int .u16 hc)).setCell ⟨g10, 5, none⟩ (.int .u32 hl)).setCell ⟨g10, 6, none⟩ (.int .u32 hm)) (by rfl) rfl ?_ ?_
     ·go_simp
      try simp only [zc0_, zf0_, zc1_, zf1_, zc2_, zf2_, zc3_, zf3_, zc4_, zf4_, zc5_, zf5_, zc6_, zf6_]
      try rfl
     refine hK.out _ _ ⟨g10, m14_, (by rw [ha.out]; exact putSel_none (v := undef) rfl), bel7 VB.out GE.out _ _ _ _ _ _ _, fun _ => GE.out, fun _ h1_ => absurd ((up_self b 15).symm.trans h1_) (by decide), fun _ => put7 HD0.out _ _ _ _ _ _ _, Q_X14_⟩
    refine steps_cons ?_ ?_
    ·rintro b a w' ⟨g10, m14_, ha, Q_VB, Q_GE, Q_HD0, Q_HD1, Q_X14_⟩ hb_ hon hoff
     refine ⟨_, rfl, fun K hK => ?_⟩
     have e37 : a.tmps[37]? = some (.bool ob) := pton_ ha 9 rfl rfl (hon 13 (by kernel_rfl)) rfl
     replace ha := Aside0.mk ha
     have VB := Aside0.mk Q_VB
     have GE := Aside0.mk (Q_GE (hon 14 (by kernel_rfl)))
     have HD1 := Aside0.mk (Q_HD1 (hon 15 (by kernel_rfl)))
     refine value_ (w1 := w') (v := .bool ob) (by rfl) rfl ?_ ?_
     ·go_simp
      (try simp only [i64_w])
      try rfl
     refine hK.out _ _ ⟨g10, m14_, (ptup_ ha.out 11 hb_ rfl rfl rfl), Q_VB, Q_GE, fun _ h1_ => absurd ((hon 15 (by kernel_rfl)).symm.trans h1_) (by decide), Q_HD1, Q_X14_⟩
    exact steps_nil
   ·rintro b a w' hall ⟨g10, m14_, ha, Q_VB, Q_GE, Q_HD0, Q_HD1, Q_X14_⟩
    clear VB
    have hb2_ := hall 2 (by kernel_rfl)
    have hb3_ := hall 3 (by kernel_rfl)
    have hb4_ := hall 4 (by kernel_rfl)
    have hb7_ := hall 7 (by kernel_rfl)
    have hb8_ := hall 8 (by kernel_rfl)
    have hb9_ := hall 9 (by kernel_rfl)
    have hb10_ := hall 10 (by kernel_rfl)
    have hb11_ := hall 11 (by kernel_rfl)
    have hb12_ := hall 12 (by kernel_rfl)
    have hb13_ := hall 13 (by kernel_rfl)
    have hb14_ := hall 14 (by kernel_rfl)
    have hb15_ := hall 15 (by kernel_rfl)
    have hb16_ := hall 16 (by kernel_rfl)
    subst ha
    obtain rfl := Q_X14_ hb14_
    simp only [putSel, hb2_, hb3_, hb4_, hb7_, hb8_, hb9_, hb10_, hb11_, hb12_, hb13_, hb14_, hb15_, hb16_, if_true, Act.put, List.setIfInBounds_toArray, List.set_cons_zero, List.set_cons_succ]
    have VB := Aside0.mk Q_VB
    clear Q_VB
    have GE := Aside0.mk (Q_GE hb14_)
    clear Q_GE
    clear Q_HD0
    have HD1 := Aside0.mk (Q_HD1 hb15_)
    clear Q_HD1
    clear hall hb2_ hb3_ hb4_ hb7_ hb8_ hb9_ hb10_ hb11_ hb12_ hb13_ hb14_ hb15_ hb16_
    have hbz := bl_seq DZ.out VB.out
    have H5 := Lib.hid (And.intro hbz HD1.out)
    have v0 : w'.cell? ⟨g10, 0, none⟩ = some (.int .u8 hk) := (blk_cell HD1.out 0).trans rfl
    have v1 : w'.cell? ⟨g10, 1, none⟩ = some (.int .u32 he) := (blk_cell HD1.out 1).trans rfl
    have v3 : w'.cell? ⟨g10, 3, none⟩ = some (.int .u16 hi) := (blk_cell HD1.out 3).trans rfl
    have v4 : w'.cell? ⟨g10, 4, none⟩ = some (.int .u16 hc) := (blk_cell HD1.out 4).trans rfl
    have hg4' := blk_below H0.out.1.2 hbz
    have z0 : w'.cell? ⟨g4, 0, none⟩ = some (.int .u32 0) := (blk_cell hg4' 0).trans rfl
    have z1 : w'.cell? ⟨g4, 1, none⟩ = some (.slice none 0 0) := (blk_cell hg4' 1).trans rfl
    have z2 : w'.cell? ⟨g4, 2, none⟩ = some (.slice none 0 0) := (blk_cell hg4' 2).trans rfl
    have z3 : w'.cell? ⟨g4, 3, none⟩ = some (.int .i64 0) := (blk_cell hg4' 3).trans rfl
    have z4 : w'.cell? ⟨g4, 4, none⟩ = some (.int .i64 0) := (blk_cell hg4' 4).trans rfl
    have zf := fun k => blk_frozen hg4' k
    clear hbz VB GE HD1 DZ HGz HRz HOz hn0z
    rcases HX.out with ⟨T, hT⟩ | hno
    ·have ho := tab_open hT.2.1
     have e1 : x1 = tbD T := congrArg Prod.fst hT.1
     have e2 : x2 = tbO T := congrArg Prod.snd hT.1
     have ho1 := HO.out
     rw [e1, e2, ho.1, ho.2] at ho1
     obtain ⟨ho2, rfl⟩ := ho1
     simp only [tbH, Hd.mk.injEq] at ho2
     obtain ⟨rfl, rfl, rfl, rfl, rfl, rfl, rfl⟩ := ho2
     have HTT := Lib.hid hT
     clear hT ho e1 e2 z0 z1 z2 z3 z4 zf
     go_wp2_with fail
     go_quiet (fail)
     generalize hwD : World.drewN w' _ = wD
     have HD5 := Lib.hid (show Below wr.heap.size wr wD from by rw [← hwD]; exact pw_below_drewN H5.out.1 _)
     clear hwD v0 v1 v3 v4
     have u0 : wD.cell? ⟨G, 0, none⟩ = some (.slice (some D) 256 cd) := pw_cell_below HD5.out HGr.out.1
     have HRD := Lib.hid (HRr.out.1.below HD5.out)
     have HL1 := Lib.hid HRr.out.1.1
     go_wp2_with (at_builtin; refine print_append_row (w0 := wr) wr.heap.size rfl (.tmp 75) (.tmp 80) 27 5 .u8 1 rfl Try.underlying27 info5' (by decide) (.slice none 0 0) [] x1 (some D) 256 cd rfl rfl (own_nil _ _ _ _) ?aR HD5.out HD5.out.size ?aL ?_; (case aR => exact HRD.out); (case aL => simp); intro v2 w2 ho hb_ hg hat; have G2 := Lib.hid (And.intro ho hb_); clear ho hb_ hg hat)
     obtain ⟨B, y, rfl, p1, p2, p3⟩ := own_some_ (n := 256) (l := x1) G2.out.1 HL1.out (by decide)
     have HE := Lib.hid (And.intro p1 (And.intro p2 p3))
     clear p1 p2 p3
     go_roundw
     case rel => exact .inr ⟨T, B, y, rfl, rfl, rfl, rfl, Lib.hid ⟨HTT.out, G2.out.2, HE.out.1, HE.out.2.1, HE.out.2.2⟩⟩
     case measure => simp [intOf]
    ·cases ob with
     | false =>
      go_wp2_with fail
      have hz9 := put5 (blk_below H0.out.1.2 H5.out.1) (.int .u32 0) (.slice none 0 0) (.slice none 0 0) (.int .i64 0) (.int .i64 0)
      have hb9 := bel5 (bl_seq H0.out.2 H5.out.1) HNE.out.2.1 (.int .u32 0) (.slice none 0 0) (.slice none 0 0) (.int .i64 0) (.int .i64 0)
      obtain ⟨w9, hw9⟩ : ∃ w9, ((((w'.setCell ⟨g4, 0, none⟩ (.int .u32 0)).setCell ⟨g4, 1, none⟩ (.slice none 0 0)).setCell ⟨g4, 2, none⟩ (.slice none 0 0)).setCell ⟨g4, 3, none⟩ (.int .i64 0)).setCell ⟨g4, 4, none⟩ (.int .i64 0) = w9 := ⟨_, rfl⟩
      rw [hw9] at hz9 hb9 ⊢
      have c0 : w9.cell? ⟨g4, 0, none⟩ = some (.int .u32 0) := (blk_cell hz9 0).trans rfl
      have c1 : w9.cell? ⟨g4, 1, none⟩ = some (.slice none 0 0) := (blk_cell hz9 1).trans rfl
      have c2 : w9.cell? ⟨g4, 2, none⟩ = some (.slice none 0 0) := (blk_cell hz9 2).trans rfl
      have c3 : w9.cell? ⟨g4, 3, none⟩ = some (.int .i64 0) := (blk_cell hz9 3).trans rfl
      have c4 : w9.cell? ⟨g4, 4, none⟩ = some (.int .i64 0) := (blk_cell hz9 4).trans rfl
      clear hw9 hz9
      refine bodyPost_ret (v := .tuple #[.agg #[.int .u32 0, .slice none 0 0, .slice none 0 0, .int .i64 0, .int .i64 0], .int .i64 62]) (by simp [results, Try.results56, go_sem, c0, c1, c2, c3, c4]) rfl ⟨hb9, .inr ⟨hno, rfl⟩⟩
     | true =>
      have hk1 : hk ≠ 1 := fun e => hno ⟨HO.out.2, by have h_ := HO.out.1; rw [openR_yes HO.out.2] at h_; rw [h_]; exact e⟩
      go_wp2_with fail
      have hz9 := put5 (blk_below H0.out.1.2 H5.out.1) (.int .u32 0) (.slice none 0 0) (.slice none 0 0) (.int .i64 0) (.int .i64 0)
      have hb9 := bel5 (bl_seq H0.out.2 H5.out.1) HNE.out.2.1 (.int .u32 0) (.slice none 0 0) (.slice none 0 0) (.int .i64 0) (.int .i64 0)
      obtain ⟨w9, hw9⟩ : ∃ w9, ((((w'.setCell ⟨g4, 0, none⟩ (.int .u32 0)).setCell ⟨g4, 1, none⟩ (.slice none 0 0)).setCell ⟨g4, 2, none⟩ (.slice none 0 0)).setCell ⟨g4, 3, none⟩ (.int .i64 0)).setCell ⟨g4, 4, none⟩ (.int .i64 0) = w9 := ⟨_, rfl⟩
      rw [hw9] at hz9 hb9 ⊢
      have c0 : w9.cell? ⟨g4, 0, none⟩ = some (.int .u32 0) := (blk_cell hz9 0).trans rfl
      have c1 : w9.cell? ⟨g4, 1, none⟩ = some (.slice none 0 0) := (blk_cell hz9 1).trans rfl
      have c2 : w9.cell? ⟨g4, 2, none⟩ = some (.slice none 0 0) := (blk_cell hz9 2).trans rfl
      have c3 : w9.cell? ⟨g4, 3, none⟩ = some (.int .i64 0) := (blk_cell hz9 3).trans rfl
      have c4 : w9.cell? ⟨g4, 4, none⟩ = some (.int .i64 0) := (blk_cell hz9 4).trans rfl
      clear hw9 hz9
      refine bodyPost_ret (v := .tuple #[.agg #[.int .u32 0, .slice none 0 0, .slice none 0 0, .int .i64 0, .int .i64 0], .int .i64 62]) (by simp [results, Try.results56, go_sem, c0, c1, c2, c3, c4]) rfl ⟨hb9, .inr ⟨hno, rfl⟩⟩
  ·have hg3 := blk_below H0.out.1.1 HXX.out.2.1
   have x0 : wr.cell? ⟨g3, 0, none⟩ = some (.int .i64 3) := (blk_cell hg3 0).trans rfl
   have x1_ : wr.cell? ⟨g3, 1, none⟩ = some (.int .i64 16) := (blk_cell hg3 1).trans rfl
   have x2_ : wr.cell? ⟨g3, 2, none⟩ = some (.int .i64 6) := (blk_cell hg3 2).trans rfl
   have x3 : wr.cell? ⟨g3, 3, none⟩ = some (.int .i64 256) := (blk_cell hg3 3).trans rfl
   have e1 : x1 = tbD T := congrArg Prod.fst HXX.out.1.1
   have HXD := Lib.hid (show ReadsInt wr .u8 (some ⟨B, 0, none⟩) 256 (tbD T) ∧ Byt (tbD T) from by
    have h_ := HXX.out.2.2.2.2
    have h2_ := HR.out.2.2.1
    rw [e1] at h_ h2_
    exact ⟨h_, h2_⟩)
   clear hg3 e1
   go_wp2_with fail
   refine (decode_any ⟨B, 0, none⟩ y T wr HXD.out.1 HXX.out.2.2.2.1 HXX.out.1.2.1 HXX.out.1.2.2.1 HXX.out.1.2.2.2 HXD.out.2).mono ?_
   rintro e w6 ⟨hb6, C, rfl, hT6⟩
   obtain ⟨P3, p3, S3, q3, rfl⟩ := hT6.shape
   have hg4' := fun o => blk_below (blk_below H0.out.1.2 HXX.out.2.1) (bl_alloc hb6 o)
   have z0 : ∀ o, (w6.alloc o).cell? ⟨g4, 0, none⟩ = some (.int .u32 0) := fun o => (blk_cell (hg4' o) 0).trans rfl
   have z1 : ∀ o, (w6.alloc o).cell? ⟨g4, 1, none⟩ = some (.slice none 0 0) := fun o => (blk_cell (hg4' o) 1).trans rfl
   have z2 : ∀ o, (w6.alloc o).cell? ⟨g4, 2, none⟩ = some (.slice none 0 0) := fun o => (blk_cell (hg4' o) 2).trans rfl
   have z3 : ∀ o, (w6.alloc o).cell? ⟨g4, 3, none⟩ = some (.int .i64 0) := fun o => (blk_cell (hg4' o) 3).trans rfl
   have z4 : ∀ o, (w6.alloc o).cell? ⟨g4, 4, none⟩ = some (.int .i64 0) := fun o => (blk_cell (hg4' o) 4).trans rfl
   have zf := fun o k => blk_frozen (hg4' o) k
   have H6 := Lib.hid (And.intro hb6 hT6)
   clear hb6 hT6 x0 x1_ x2_ x3 hg4'
   simp only [tbC]
   go_wp2_with fail
   have hba : Below wr.heap.size wr (w6.alloc (.cells #[.int .u32 T.seq, .slice (some P3) 11 p3, .slice S3 T.spare.length q3, .int .i64 T.t0, .int .i64 T.t1] 108)) := bl_alloc H6.out.1 _
   have ht7 := H6.out.2.below (bl_alloc (Below.refl w6.heap.size w6) (.cells #[.int .u32 T.seq, .slice (some P3) 11 p3, .slice S3 T.spare.length q3, .int .i64 T.t0, .int .i64 T.t1] 108))
   obtain ⟨w7, hw7⟩ : ∃ w7, w6.alloc (.cells #[.int .u32 T.seq, .slice (some P3) 11 p3, .slice S3 T.spare.length q3, .int .i64 T.t0, .int .i64 T.t1] 108) = w7 := ⟨_, rfl⟩
   rw [hw7] at hba ht7 ⊢
   have hb7 : Below w.heap.size w w7 := bl_seq (bl_seq H0.out.2 HXX.out.2.1) hba
   have hz9 := put5 (blk_below (blk_below H0.out.1.2 HXX.out.2.1) hba) (.int .u32 T.seq) (.slice (some P3) 11 p3) (.slice S3 T.spare.length q3) (.int .i64 T.t0) (.int .i64 T.t1)
   have hb9 := bel5 hb7 HNE.out.2.1 (.int .u32 T.seq) (.slice (some P3) 11 p3) (.slice S3 T.spare.length q3) (.int .i64 T.t0) (.int .i64 T.t1)
   have hm9 : Mods (fun k => k = g4) w7 (((((w7.setCell ⟨g4, 0, none⟩ (.int .u32 T.seq)).setCell ⟨g4, 1, none⟩ (.slice (some P3) 11 p3)).setCell ⟨g4, 2, none⟩ (.slice S3 T.spare.length q3)).setCell ⟨g4, 3, none⟩ (.int .i64 T.t0)).setCell ⟨g4, 4, none⟩ (.int .i64 T.t1)) :=
    (((((Mods.refl (fun k => k = g4) w7).at_ (.inl rfl) 0 _).at_ (.inl rfl) 1 _).at_ (.inl rfl) 2 _).at_ (.inl rfl) 3 _).at_ (.inl rfl) 4 _
   have hlt4 : g4 < wr.heap.size := blk_lt (blk_below H0.out.1.2 HXX.out.2.1)
   have ht9 := ht7.mods hm9 (fun k hk => by omega)
   have hsz : w.heap.size ≤ wr.heap.size := (bl_seq H0.out.2 HXX.out.2.1).size
   obtain ⟨w9, hw9⟩ : ∃ w9, ((((w7.setCell ⟨g4, 0, none⟩ (.int .u32 T.seq)).setCell ⟨g4, 1, none⟩ (.slice (some P3) 11 p3)).setCell ⟨g4, 2, none⟩ (.slice S3 T.spare.length q3)).setCell ⟨g4, 3, none⟩ (.int .i64 T.t0)).setCell ⟨g4, 4, none⟩ (.int .i64 T.t1) = w9 := ⟨_, rfl⟩
   rw [hw9] at hz9 hb9 ht9 ⊢
   have c0 : w9.cell? ⟨g4, 0, none⟩ = some (.int .u32 T.seq) := (blk_cell hz9 0).trans rfl
   have c1 : w9.cell? ⟨g4, 1, none⟩ = some (.slice (some P3) 11 p3) := (blk_cell hz9 1).trans rfl
   have c2 : w9.cell? ⟨g4, 2, none⟩ = some (.slice S3 T.spare.length q3) := (blk_cell hz9 2).trans rfl
   have c3 : w9.cell? ⟨g4, 3, none⟩ = some (.int .i64 T.t0) := (blk_cell hz9 3).trans rfl
   have c4 : w9.cell? ⟨g4, 4, none⟩ = some (.int .i64 T.t1) := (blk_cell hz9 4).trans rfl
   clear hw9 hz9
   refine bodyPost_ret (v := .tuple #[.agg #[.int .u32 T.seq, .slice (some P3) 11 p3, .slice S3 T.spare.length q3, .int .i64 T.t0, .int .i64 T.t1], .int .i64 0]) (by simp [results, Try.results56, go_sem, c0, c1, c2, c3, c4]) rfl ⟨hb9, .inl ⟨T, _, HXX.out.1, rfl, ht9.mono (fun k hk => by omega)⟩⟩
end Go.Proofs.Ytffalemndjampaa
end
