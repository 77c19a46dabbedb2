import Derived.Test.YtffalemndjampaaFlip
import Derived.Test.YtffalemndjampaaChain
import Derived.StillTailTactics
/-! gabiontop.pick; the closure of TopFrames. -/
set_option linter.unusedVariables false
set_option linter.unusedSimpArgs false
namespace Go.Proofs.Ytffalemndjampaa
open Go.RowKit Go.Proofs.YtffalemndjampaaW.PrintWords Go.Proofs.YtffalemndjampaaW.PrintLast
def TpcR.T3 : Bool × List (List Nat × List Nat) := (true, [([], []), ([0], [0]), ([1], [1]), ([1], [1]), ([3, 1], [1, 3]), ([2, 4, 1], [1, 2, 4]), ([1, 5], [1, 5]), ([6, 1], [6]), ([7], [7]), ([8, 7], [7, 8]), ([7], [7]), ([7], [7]), ([10, 11, 7], [7, 10, 11]), ([12, 7], [7, 12]), ([13, 7], [7, 13]), ([9, 14, 7], [7, 9, 14]), ([7, 15], [7, 15]), ([16, 7], [16]), ([17], [17]), ([18, 17], [17, 18]), ([19, 17, 17], [17, 19]), ([17], [17]), ([20, 21, 17], [17, 20, 21]), ([17, 22], [17, 22]), ([23, 20, 0, 1, 2, 3, 4, 5, 6, 7, 8, 9, 10, 11, 12, 13, 14, 15, 16, 17, 18, 19, 20, 21, 22, 23], [23])])
def TpcR.B3 : List Nat := [0, 1, 3, 3, 11, 31, 63, 127, 255, 511, 255, 255, 3327, 7423, 15615, 32767, 65535, 131071, 262143, 524287, 1048575, 262143, 4194303, 8388607, 16777215]
theorem TpcR.tab3 : rtab .any (opsOf Try.f11 3) = TpcR.T3 := by kernel_rfl
theorem TpcR.bits3 : waitsOk TpcR.T3.2 TpcR.B3 = true := by kernel_rfl
def TpcR.T4 : Bool × List (List Nat × List Nat) := (true, [([], []), ([0], [0]), ([1], [1]), ([2], [2]), ([3], [3]), ([3], [3]), ([3], [3]), ([6, 3], [3, 6]), ([5, 7, 3, 3], [3, 5, 7]), ([4, 8, 3], [3, 4, 8]), ([3, 9], [3, 9]), ([10, 8], [10]), ([11], [11]), ([12, 11], [11, 12]), ([11, 13], [11, 13]), ([14, 11], [14]), ([15], [15]), ([16, 15], [15, 16]), ([15, 17], [15, 17])])
def TpcR.B4 : List Nat := [0, 1, 3, 7, 15, 15, 15, 79, 239, 511, 1023, 2047, 4095, 8191, 16383, 32767, 65535, 131071, 262143]
theorem TpcR.tab4 : rtab .any (opsOf Try.f11 4) = TpcR.T4 := by kernel_rfl
theorem TpcR.bits4 : waitsOk TpcR.T4.2 TpcR.B4 = true := by kernel_rfl
theorem mods_drew {S : Nat → Prop} {w w1 : World} (h : Mods S w w1) : Mods S w w1.drew := ⟨h.os, h.tape, h.output, h.size, h.block⟩
theorem tf_row {w : World} {ad : Addr} {rs : List Row} {j : Nat} {r : Row} (h : RdRows w (some ad) rs) (hj : j < rs.length) (e : rs.getD j default = r) : w.cell? (ad.add j) = some (.slice r.A r.l.length r.c) ∧ r.l.length ≤ r.c ∧ ReadsInt w .u8 r.A r.l.length r.l ∧ Byt r.l := by
  obtain ⟨a, e1, h1, h2, h3, h4⟩ := h.2 j hj
  obtain rfl := Option.some.inj e1
  rw [e] at h1 h2 h3 h4
  exact ⟨h1, h2, h3, h4⟩
theorem own_eqn {w : World} {base n c L sz : Nat} {e : TypeId} {xs : List Value} {A : Option Addr} (h : w.ownsRow base e sz (.slice A n c) L xs) : n = L := by
  rcases h.2 with ⟨h2, h3⟩ | ⟨g, cap, cur, h2, _⟩
  · injection h2 with _ h2 _; omega
  · injection h2 with _ h2 _
def RowOk (w : World) (r : Row) : Prop := r.l.length ≤ r.c ∧ ReadsInt w .u8 r.A r.l.length r.l ∧ Byt r.l
theorem RowOk.below {w w1 : World} {r : Row} (h : RowOk w r) (hb : Below w.heap.size w w1) : RowOk w1 r := ⟨h.1, h.2.1.below hb, h.2.2⟩
theorem rows1 {w : World} {A : Option Addr} {c : Nat} {l : List Int} (h : RowOk w ⟨A, c, l⟩) : RdRows (w.alloc (.cells #[.slice A l.length c] 27)) (some ⟨w.heap.size, 0, none⟩) [⟨A, c, l⟩] := by
  have bb : Below w.heap.size w (w.alloc (.cells #[.slice A l.length c] 27)) := bl_alloc (Below.refl _ _) _
  refine ⟨by simp, fun i hi => ⟨_, rfl, ?_⟩⟩
  obtain rfl : i = 0 := by simpa using hi
  exact ⟨(blk_cell (heap_alloc_new w (.cells #[.slice A l.length c] 27)) 0).trans rfl, h.1, h.2.1.below bb, h.2.2⟩
theorem pick_any (q m : Int) (h0 : 0 < m) (h1 : m ≤ 9223372036854775807) : ∃ p : Nat, (p : Int) < m ∧ ∀ w : World, Calls Try.prog 15 #[.int .i64 q, .int .i64 m] w fun e w' => e = .returned (.int .i64 (p : Int)) ∧ Drawn0 w w' := by
  obtain ⟨p, hp, hpm⟩ := modU q m h0 h1
  refine ⟨p, hpm, fun w => ?_⟩
  have hw : IntKind.u64.wrap m = m := by rw [IntKind.wrap_u64]; omega
  have hm0 : m ≠ 0 := by omega
  go_enter Try.func15, Try.ntmps15
  go_wp2_with fail
  go_ret
  have hz : ∀ z : Int, z = (p : Int) → Ending.returned (Value.int .i64 z) = .returned (.int .i64 (p : Int)) := fun z h => by rw [h]
  exact ⟨hz _ hp, by repeat (first | exact Drawn0.refl _ | apply Drawn0.step)⟩
/-- What the closure reads besides. -/
def TfC (W : World) (qp qw qb qa : Nat) (AP : Option Addr) (cP : Nat) (rs : List Row) (wh at0 : Int) (bt : Nat) (A : Option Addr) (m : Nat) (L : List Int) : Prop :=
  W.heap[qp]? = some (.cells #[.slice AP rs.length cP] 22 (0, 0)) ∧ W.heap[qw]? = some (.cells #[.int .i64 wh] 3 (0, 0)) ∧ W.heap[qb]? = some (.cells #[.int .u32 (bt : Int)] 23 (0, 0)) ∧ W.heap[qa]? = some (.cells #[.int .i64 at0] 3 (0, 0)) ∧ RdRows W AP rs ∧ ReadsInt W .u8 A m L
/-- Where the reading stands. -/
def TfG (w : World) (p qk qn : Nat) (A : Option Addr) (m c k j : Nat) (W : World) : Prop :=
  RdV W p A m c (k : Int) ∧ Mods (fun i => i = p ∨ i = qk ∨ i = qn) w W ∧ W.heap[qk]? = some (.cells #[.bool true] 4 (0, 0)) ∧ W.heap[qn]? = some (.cells #[.int .i64 (j : Int)] 3 (0, 0))
theorem TfG.step {w : World} {p qk qn : Nat} {A : Option Addr} {m c k k' j : Nat} {W W' : World} (g : TfG w p qk qn A m c k j W) (dk : qk ≠ p) (dn : qn ≠ p) (h1 : RdV W' p A m c (k' : Int)) (h2 : Mods (fun i => i = p) W W') : TfG w p qk qn A m c k' j W' :=
  ⟨h1, g.2.1.trans (h2.mono (fun i e => .inl e)), h2.blk g.2.2.1 dk, h2.blk g.2.2.2 dn⟩
theorem TfG.below {w : World} {p qk qn : Nat} {A : Option Addr} {m c k j : Nat} {W W' : World} (g : TfG w p qk qn A m c k j W) (hd : Below W.heap.size W W') : TfG w p qk qn A m c k j W' :=
  ⟨blk_below g.1 hd, g.2.1.trans (Mods.of_below hd), blk_below g.2.2.1 hd, blk_below g.2.2.2 hd⟩
theorem TfG.ok {w : World} {p qk qn : Nat} {A : Option Addr} {m c k j : Nat} {W : World} (g : TfG w p qk qn A m c k j W) (dk : qk ≠ p) (dq : qk ≠ qn) : TfG w p qk qn A m c k j (W.setCell ⟨qk, 0, none⟩ (.bool true)) :=
  ⟨blk_far g.1 (p := ⟨qk, 0, none⟩) (Ne.symm dk) _, g.2.1.at_ (.inl (.inr (.inl rfl))) 0 _, blk_put g.2.2.1 0 _ (by simp), blk_far g.2.2.2 (p := ⟨qk, 0, none⟩) (Ne.symm dq) _⟩
theorem TfG.next {w : World} {p qk qn : Nat} {A : Option Addr} {m c k j : Nat} {W : World} (g : TfG w p qk qn A m c k j W) (dn : qn ≠ p) (dq : qk ≠ qn) : TfG w p qk qn A m c k (j + 1) (W.setCell ⟨qn, 0, none⟩ (.int .i64 ((j : Int) + 1))) :=
  ⟨blk_far g.1 (p := ⟨qn, 0, none⟩) (Ne.symm dn) _, g.2.1.at_ (.inl (.inr (.inr rfl))) 0 _, blk_far g.2.2.1 (p := ⟨qn, 0, none⟩) dq _, blk_put g.2.2.2 0 _ (by simp)⟩
theorem TfG.mods {w : World} {p qk qn : Nat} {A : Option Addr} {m c k j g0 : Nat} {W W' : World} (g : TfG w p qk qn A m c k j W) (h : Mods (fun i => i = g0) W W') (hg : w.heap.size ≤ g0) (h1 : g0 ≠ p) (h2 : g0 ≠ qk) (h3 : g0 ≠ qn) : TfG w p qk qn A m c k j W' :=
  ⟨h.blk g.1 (Ne.symm h1), ((g.2.1.mono (T := fun i => (i = p ∨ i = qk ∨ i = qn) ∨ i = g0) (fun i e => .inl e)).trans (h.mono (fun i e => .inr e))).less (fun i e => e.elim .inl (fun e => .inr (by omega))), h.blk g.2.2.1 (Ne.symm h2), h.blk g.2.2.2 (Ne.symm h3)⟩
/-- How many parts are still to come. -/
def leftN (n q : Nat) (W : World) : Nat := match W.cell? ⟨q, 0, none⟩ with | some (.int _ v) => n - v.toNat | _ => 0
theorem leftN_at {n q j : Nat} {W : World} (h : W.heap[q]? = some (.cells #[.int .i64 (j : Int)] 3 (0, 0))) : leftN n q W = n - j := by
  have h_ : W.cell? ⟨q, 0, none⟩ = some (.int .i64 (j : Int)) := (blk_cell h 0).trans rfl
  rw [leftN, h_]; simp
set_option maxHeartbeats 4000000 in
set_option maxRecDepth 100000 in
theorem topc_any (p qk qn qp qw qb qa : Nat) (A AP : Option Addr) (m c cP bt : Nat) (wh at0 : Int) (rs : List Row) (w : World)
    (hC : ∀ W, Mods (fun i => i = p ∨ i = qk ∨ i = qn) w W → TfC W qp qw qb qa AP cP rs wh at0 bt A m (framesL (ll rs)))
    (hG : TfG w p qk qn A m c 0 0 w) (hc : m ≤ c) (dk : qk ≠ p) (dn : qn ≠ p) (dq : qk ≠ qn) (hne : ∀ a, A = some a → a.block ≠ p) (hl : ∀ r ∈ rs, r.l.length ≤ 300) (hrl : rs.length ≤ 1000) (hbt : bt < 4294967296) (hm : m ≤ 1099511627776) :
    Calls Try.prog 11 #[.pointer (some ⟨p, 0, none⟩), .pointer (some ⟨qk, 0, none⟩), .pointer (some ⟨qn, 0, none⟩), .pointer (some ⟨qp, 0, none⟩), .pointer (some ⟨qw, 0, none⟩), .pointer (some ⟨qb, 0, none⟩), .pointer (some ⟨qa, 0, none⟩)] w fun e w' => e = .returned (.tuple #[]) ∧ ∃ k, TfG w p qk qn A m c k rs.length w' := by
  have HC := Lib.hid hC
  have HL := Lib.hid hl
  have HNE := Lib.hid hne
  have G0 := Lib.hid hG
  have hL0 := (hC w (Mods.refl _ _)).2.2.2.2.2.1
  have HLB : Hid (Byt (framesL (ll rs))) := Lib.hid (framesL_byt fun q hq => by
    simp only [ll, List.mem_map] at hq
    obtain ⟨r, hr, rfl⟩ := hq
    obtain ⟨i, hi, rfl⟩ := List.getElem_of_mem hr
    have h_ := (hC w (Mods.refl _ _)).2.2.2.2.1.2 i hi
    obtain ⟨_, _, _, _, _, h5⟩ := h_
    rwa [List.getD_eq_getElem?_getD, List.getElem?_eq_getElem hi] at h5)
  clear hC hl hne hG
  go_enter Try.func11, Try.ntmps11
  go_wp2_with fail
  go_loopw [13] (fun _ wr => ∃ j k : Nat, j ≤ rs.length ∧ k = (framesL ((ll rs).take j)).length ∧ Hid (TfG w p qk qn A m c k j wr)) (fun _ wr => leftN rs.length qn wr)
  case atStart => exact ⟨0, 0, Nat.zero_le _, by simp [framesL], G0⟩
  case round =>
    obtain ⟨j, k, hj, hk, G⟩ := hrel
    clear G0
    have hll : (ll rs).length = rs.length := by simp [ll]
    by_cases hlt : j < rs.length
    · have hlj : ((ll rs).getD j []).length ≤ 300 := by
        rw [List.getD_eq_getElem?_getD, List.getElem?_eq_getElem (by omega)]
        simp only [ll, List.getElem_map, Option.getD_some]
        exact HL.out _ (List.getElem_mem _)
      obtain ⟨f1, f2, f3, f4, f5⟩ := frames_read (ps := ll rs) (j := j) (a := k) (by omega) hk (by omega)
      obtain ⟨r0, hr0⟩ : ∃ r0, rs.getD j default = r0 := ⟨_, rfl⟩
      have hpl : (ll rs).getD j [] = r0.l := by rw [← hr0]; simp [ll, List.getD_eq_getElem?_getD, hlt]
      rw [hpl] at hlj f1 f2 f3 f4 f5
      have HF := Lib.hid (And.intro f1 (And.intro f2 (And.intro f3 (And.intro f4 (And.intro hk (And.intro hpl (And.intro hr0 hll)))))))
      rw [hL0] at f5
      clear f1 f2 f3 f4 hk hpl hll hr0
      have hcr := HC.out wr G.out.2.1
      have HM0 : Hid (leftN rs.length qn wr = rs.length - j) := Lib.hid (leftN_at G.out.2.2.2)
      go_wp2_with fail
      refine (mLeft p A m c k wr G.out.1 (by omega) (by have h_ := hcr.2.2.2.2.2.2.1; omega)).mono ?_
      rintro e w1 ⟨rfl, q1, rfl⟩
      have G1 := Lib.hid (G.out.below (bl_drewN (Below.refl _ _) q1))
      obtain ⟨w1, hw1⟩ : ∃ w1, wr.drewN q1 = w1 := ⟨_, rfl⟩
      rw [hw1] at G1 ⊢
      clear hw1 G hcr
      have hgt : (0 : Int) < (m : Int) - (k : Int) := by omega
      go_wp2_with fail
      have hcr := HC.out w1 G1.out.2.1
      refine (mU32_yes p A m c k (framesL (ll rs)) w1 G1.out.1 hcr.2.2.2.2.2 HLB.out hc (by omega) HNE.out).mono ?_
      rintro e w2 ⟨rfl, h1, h2⟩
      rw [HF.out.1]
      have G2 := Lib.hid (G1.out.step dk dn h1 h2)
      clear h1 h2 hcr G1
      have ew : IntKind.i64.wrap (r0.l.length : Int) = (r0.l.length : Int) := by rw [i64_w]; unfold wrap64; omega
      go_wp2_with fail
      have hcr := HC.out w2 G2.out.2.1
      refine (mU32_yes p A m c (k + 4) (framesL (ll rs)) w2 G2.out.1 hcr.2.2.2.2.2 HLB.out hc (by omega) HNE.out).mono ?_
      rintro e w3 ⟨rfl, h1, h2⟩
      rw [HF.out.2.1]
      have G3 := Lib.hid (G2.out.step dk dn h1 h2)
      clear h1 h2 hcr G2
      go_wp2_with fail
      have hcr := HC.out w3 G3.out.2.1
      refine (mRaw_yes p A m c (k + 4 + 4) r0.l.length (framesL (ll rs)) w3 G3.out.1 hcr.2.2.2.2.2 hc (by omega) (by omega) HNE.out).mono ?_
      rintro e w4 ⟨v4, rfl, ho4, h1, h2⟩
      rw [HF.out.2.2.1] at ho4
      obtain ⟨Av, nv, cv, rfl⟩ := own_slice' ho4
      obtain rfl := own_eqn ho4
      have Gy := Lib.hid (G3.out.step dk dn h1 h2)
      have Py := Lib.hid ho4
      have Ry : Hid (RowOk w4 ⟨Av, cv, r0.l⟩) := Lib.hid ⟨own_le ho4, own_reads' ho4, by
        have h_ := (hcr.2.2.2.2.1).2 j hlt
        obtain ⟨_, _, _, _, _, h5⟩ := h_
        rwa [HF.out.2.2.2.2.2.2.1] at h5⟩
      have Y3 := Lib.hid (And.intro (blk_lt G3.out.1) (And.intro (blk_lt G3.out.2.2.1) (And.intro (blk_lt G3.out.2.2.2) G3.out.2.1.size)))
      obtain ⟨ad, hAP, -⟩ := hcr.2.2.2.2.1.2 j hlt
      subst hAP
      clear h1 h2 hcr G3 ho4
      go_wp2_with fail
      obtain ⟨wy, hwy⟩ : ∃ wy, wy = w4 := ⟨_, rfl⟩
      rw [← hwy] at Gy Py Ry ⊢
      clear hwy
      have hltI : (j : Int) < (rs.length : Int) := by omega
      refine start_ (n := 25) (S := fun w' => True) (ds := []) #[false, false, false, false, false, false, false, false, false, false, false, false, false, false, false, false, false, false, false, false, false, false, false, false, false] (by kernel_rfl) rfl rfl trivial (fun hHeld => ?_)
      refine with_tabW TpcR.tab3 TpcR.bits3 (fun HT_ HW_ => ?_)
      have Gz := Lib.hid (Gy.out.below (bl_drew (Below.refl _ _)))
      have Rz := Lib.hid (Ry.out.below (bl_drew (Below.refl _ _)))
      have Pz := Lib.hid (show wy.drew.ownsRow _ _ _ _ _ _ from Py.out)
      generalize wy.drew = wz at Gz Rz Pz hHeld ⊢
      have Cz := Lib.hid (HC.out wz Gz.out.2.1)
      have RJz := Lib.hid (tf_row Cz.out.2.2.2.2.1 hlt HF.out.2.2.2.2.2.2.1)
      have BB := Lib.hid (Below.refl wz.heap.size wz)
      refine inv_at [0, 1, 2, 3, 4, 5, 6, 7, 8, 9, 10, 11, 12, 13, 14, 15, 16, 17, 18, 19, 20, 21, 22, 23, 24] (fun a0_ b a w' => ∃ (b43 : Nat) (m19_ : Value), a = putSel a0_ b [(0, 24, .bool true), (1, 25, .bool true), (2, 26, .int .i64 (j : Int)), (3, 27, .slice (some ad) rs.length cP), (4, 28, .int .i64 (rs.length : Int)), (5, 29, .bool true), (6, 30, .bool true), (7, 31, .bool true), (8, 32, .slice Av r0.l.length cv), (9, 33, .string (strOfNums r0.l)), (10, 34, .slice (some ad) rs.length cP), (11, 35, .int .i64 (j : Int)), (12, 36, .pointer (some (ad.add j))), (13, 37, .slice r0.A r0.l.length r0.c), (14, 38, .string (strOfNums r0.l)), (15, 39, .bool true), (16, 40, .bool true), (17, 41, .bool true), (18, 42, .slice Av r0.l.length cv), (19, 43, m19_), (20, 44, .int .u32 (crcOf r0.l)), (21, 45, .int .u32 (crcOf r0.l)), (22, 46, .bool true), (23, 47, .bool true)] ∧ (b 24 = false → Below wz.heap.size wz w') ∧ (b 19 = true → b 24 = false → RdRows w' (some ⟨b43, 0, none⟩) [(⟨Av, cv, r0.l⟩ : Row)]) ∧ (b 24 = true → ∃ w0, Below wz.heap.size wz w0 ∧ w' = w0.setCell ⟨qk, 0, none⟩ (.bool true)) ∧ (b 19 = true → (m19_ : Value) = .slice (some ⟨b43, 0, none⟩) 1 1)) HT_.out HW_.out (by kernel_rfl) (by kernel_rfl) ?_ ?_ ?_
      · exact ⟨0, .bool false, by simp only [putSel, Bool.false_eq_true, if_false], fun _ => BB.out, fun h_ => absurd h_ (by decide), fun h_ => absurd h_ (by decide), fun h_ => absurd h_ (by decide)⟩
      · skip
        clear BB
        refine steps_cons ?_ ?_
        · rintro b a w' ⟨b43, m19_, ha, Q_BB, Q_RB, Q_FIN, Q_X19_⟩ hb_ hon hoff
          refine ⟨_, rfl, fun K hK => ?_⟩
          have e1 : a.tmps[1]? = some (.pointer (some ⟨qk, 0, none⟩)) := by rw [ha]; exact (putSel_off rfl).trans rfl
          replace ha := Aside0.mk ha
          have BB := Aside0.mk (Q_BB (hoff 24 (by kernel_rfl)))
          have hc_qk : w'.cell? ⟨qk, 0, none⟩ = some (.bool true) := (blk_cell (blk_below Gz.out.2.2.1 BB.out) 0).trans rfl
          refine value_ (w1 := w') (v := .bool true) (by rfl) rfl ?_ ?_
          · go_simp
            (try simp only [i64_w])
            try rfl
          refine hK.out _ _ ⟨b43, m19_, (by rw [ha.out]; exact putSel_upk 0 hb_ rfl rfl rfl), Q_BB, fun h0_ _ => absurd ((hoff 19 (by kernel_rfl)).symm.trans h0_) (by decide), fun h0_ => absurd ((hoff 24 (by kernel_rfl)).symm.trans h0_) (by decide), fun h0_ => absurd ((hoff 19 (by kernel_rfl)).symm.trans h0_) (by decide)⟩
        refine steps_cons ?_ ?_
        · rintro b a w' ⟨b43, m19_, ha, Q_BB, Q_RB, Q_FIN, Q_X19_⟩ hb_ hon hoff
          refine ⟨_, rfl, fun K hK => ?_⟩
          have e24 : a.tmps[24]? = some (.bool true) := by rw [ha]; exact putSel_on (e := (0, 24, .bool true)) 0 rfl rfl (hon 0 (by kernel_rfl)) rfl
          replace ha := Aside0.mk ha
          have BB := Aside0.mk (Q_BB (hoff 24 (by kernel_rfl)))
          refine value_ (w1 := w') (v := .bool true) (by rfl) rfl ?_ ?_
          · go_simp
            (try simp only [i64_w])
            try rfl
          refine hK.out _ _ ⟨b43, m19_, (by rw [ha.out]; exact putSel_upk 1 hb_ rfl rfl rfl), Q_BB, fun h0_ _ => absurd ((hoff 19 (by kernel_rfl)).symm.trans h0_) (by decide), fun h0_ => absurd ((hoff 24 (by kernel_rfl)).symm.trans h0_) (by decide), fun h0_ => absurd ((hoff 19 (by kernel_rfl)).symm.trans h0_) (by decide)⟩
        refine steps_cons ?_ ?_
        · rintro b a w' ⟨b43, m19_, ha, Q_BB, Q_RB, Q_FIN, Q_X19_⟩ hb_ hon hoff
          refine ⟨_, rfl, fun K hK => ?_⟩
          have e2 : a.tmps[2]? = some (.pointer (some ⟨qn, 0, none⟩)) := by rw [ha]; exact (putSel_off rfl).trans rfl
          have e25 : a.tmps[25]? = some (.bool true) := by rw [ha]; exact putSel_on (e := (1, 25, .bool true)) 1 rfl rfl (hon 1 (by kernel_rfl)) rfl
          replace ha := Aside0.mk ha
          have BB := Aside0.mk (Q_BB (hoff 24 (by kernel_rfl)))
          have hc_qn : w'.cell? ⟨qn, 0, none⟩ = some (.int .i64 (j : Int)) := (blk_cell (blk_below Gz.out.2.2.2 BB.out) 0).trans rfl
          refine value_ (w1 := w') (v := .int .i64 (j : Int)) (wanted_on rfl rfl rfl (e25.trans (by first | rfl | (simp [*]; done)))) rfl ?_ ?_
          · go_simp
            (try simp only [i64_w])
            try rfl
          refine hK.out _ _ ⟨b43, m19_, (by rw [ha.out]; exact putSel_upk 2 hb_ rfl rfl rfl), Q_BB, fun h0_ _ => absurd ((hoff 19 (by kernel_rfl)).symm.trans h0_) (by decide), fun h0_ => absurd ((hoff 24 (by kernel_rfl)).symm.trans h0_) (by decide), fun h0_ => absurd ((hoff 19 (by kernel_rfl)).symm.trans h0_) (by decide)⟩
        refine steps_cons ?_ ?_
        · rintro b a w' ⟨b43, m19_, ha, Q_BB, Q_RB, Q_FIN, Q_X19_⟩ hb_ hon hoff
          refine ⟨_, rfl, fun K hK => ?_⟩
          have e3 : a.tmps[3]? = some (.pointer (some ⟨qp, 0, none⟩)) := by rw [ha]; exact (putSel_off rfl).trans rfl
          have e25 : a.tmps[25]? = some (.bool true) := by rw [ha]; exact putSel_on (e := (1, 25, .bool true)) 1 rfl rfl (hon 1 (by kernel_rfl)) rfl
          replace ha := Aside0.mk ha
          have BB := Aside0.mk (Q_BB (hoff 24 (by kernel_rfl)))
          have hc_qp : w'.cell? ⟨qp, 0, none⟩ = some (.slice (some ad) rs.length cP) := (blk_cell (blk_below Cz.out.1 BB.out) 0).trans rfl
          refine value_ (w1 := w') (v := .slice (some ad) rs.length cP) (wanted_on rfl rfl rfl (e25.trans (by first | rfl | (simp [*]; done)))) rfl ?_ ?_
          · go_simp
            (try simp only [i64_w])
            try rfl
          refine hK.out _ _ ⟨b43, m19_, (by rw [ha.out]; exact putSel_upk 3 hb_ rfl rfl rfl), Q_BB, fun h0_ _ => absurd ((hoff 19 (by kernel_rfl)).symm.trans h0_) (by decide), fun h0_ => absurd ((hoff 24 (by kernel_rfl)).symm.trans h0_) (by decide), fun h0_ => absurd ((hoff 19 (by kernel_rfl)).symm.trans h0_) (by decide)⟩
        refine steps_cons ?_ ?_
        · rintro b a w' ⟨b43, m19_, ha, Q_BB, Q_RB, Q_FIN, Q_X19_⟩ hb_ hon hoff
          refine ⟨_, rfl, fun K hK => ?_⟩
          have e27 : a.tmps[27]? = some (.slice (some ad) rs.length cP) := by rw [ha]; exact putSel_on (e := (3, 27, .slice (some ad) rs.length cP)) 3 rfl rfl (hon 3 (by kernel_rfl)) rfl
          have e25 : a.tmps[25]? = some (.bool true) := by rw [ha]; exact putSel_on (e := (1, 25, .bool true)) 1 rfl rfl (hon 1 (by kernel_rfl)) rfl
          replace ha := Aside0.mk ha
          have BB := Aside0.mk (Q_BB (hoff 24 (by kernel_rfl)))
          refine value_ (w1 := w') (v := .int .i64 (rs.length : Int)) (wanted_on rfl rfl rfl (e25.trans (by first | rfl | (simp [*]; done)))) rfl ?_ ?_
          · go_simp
            (try simp only [i64_w])
            try rfl
          refine hK.out _ _ ⟨b43, m19_, (by rw [ha.out]; exact putSel_upk 4 hb_ rfl rfl rfl), Q_BB, fun h0_ _ => absurd ((hoff 19 (by kernel_rfl)).symm.trans h0_) (by decide), fun h0_ => absurd ((hoff 24 (by kernel_rfl)).symm.trans h0_) (by decide), fun h0_ => absurd ((hoff 19 (by kernel_rfl)).symm.trans h0_) (by decide)⟩
        refine steps_cons ?_ ?_
        · rintro b a w' ⟨b43, m19_, ha, Q_BB, Q_RB, Q_FIN, Q_X19_⟩ hb_ hon hoff
          refine ⟨_, rfl, fun K hK => ?_⟩
          have e26 : a.tmps[26]? = some (.int .i64 (j : Int)) := by rw [ha]; exact putSel_on (e := (2, 26, .int .i64 (j : Int))) 2 rfl rfl (hon 2 (by kernel_rfl)) rfl
          have e28 : a.tmps[28]? = some (.int .i64 (rs.length : Int)) := by rw [ha]; exact putSel_on (e := (4, 28, .int .i64 (rs.length : Int))) 4 rfl rfl (hon 4 (by kernel_rfl)) rfl
          have e25 : a.tmps[25]? = some (.bool true) := by rw [ha]; exact putSel_on (e := (1, 25, .bool true)) 1 rfl rfl (hon 1 (by kernel_rfl)) rfl
          replace ha := Aside0.mk ha
          have BB := Aside0.mk (Q_BB (hoff 24 (by kernel_rfl)))
          refine value_ (w1 := w') (v := .bool true) (wanted_on rfl rfl rfl (e25.trans (by first | rfl | (simp [*]; done)))) rfl ?_ ?_
          · go_simp
            (try simp only [i64_w])
            try rfl
          refine hK.out _ _ ⟨b43, m19_, (by rw [ha.out]; exact putSel_upk 5 hb_ rfl rfl rfl), Q_BB, fun h0_ _ => absurd ((hoff 19 (by kernel_rfl)).symm.trans h0_) (by decide), fun h0_ => absurd ((hoff 24 (by kernel_rfl)).symm.trans h0_) (by decide), fun h0_ => absurd ((hoff 19 (by kernel_rfl)).symm.trans h0_) (by decide)⟩
        refine steps_cons ?_ ?_
        · rintro b a w' ⟨b43, m19_, ha, Q_BB, Q_RB, Q_FIN, Q_X19_⟩ hb_ hon hoff
          refine ⟨_, rfl, fun K hK => ?_⟩
          have e25 : a.tmps[25]? = some (.bool true) := by rw [ha]; exact putSel_on (e := (1, 25, .bool true)) 1 rfl rfl (hon 1 (by kernel_rfl)) rfl
          have e29 : a.tmps[29]? = some (.bool true) := by rw [ha]; exact putSel_on (e := (5, 29, .bool true)) 5 rfl rfl (hon 5 (by kernel_rfl)) rfl
          replace ha := Aside0.mk ha
          have BB := Aside0.mk (Q_BB (hoff 24 (by kernel_rfl)))
          refine value_ (w1 := w') (v := .bool true) (by rfl) rfl ?_ ?_
          · go_simp
            (try simp only [i64_w])
            try rfl
          refine hK.out _ _ ⟨b43, m19_, (by rw [ha.out]; exact putSel_upk 6 hb_ rfl rfl rfl), Q_BB, fun h0_ _ => absurd ((hoff 19 (by kernel_rfl)).symm.trans h0_) (by decide), fun h0_ => absurd ((hoff 24 (by kernel_rfl)).symm.trans h0_) (by decide), fun h0_ => absurd ((hoff 19 (by kernel_rfl)).symm.trans h0_) (by decide)⟩
        refine steps_cons ?_ ?_
        · rintro b a w' ⟨b43, m19_, ha, Q_BB, Q_RB, Q_FIN, Q_X19_⟩ hb_ hon hoff
          refine ⟨_, rfl, fun K hK => ?_⟩
          have e30 : a.tmps[30]? = some (.bool true) := by rw [ha]; exact putSel_on (e := (6, 30, .bool true)) 6 rfl rfl (hon 6 (by kernel_rfl)) rfl
          replace ha := Aside0.mk ha
          have BB := Aside0.mk (Q_BB (hoff 24 (by kernel_rfl)))
          refine value_ (w1 := w') (v := .bool true) (by rfl) rfl ?_ ?_
          · go_simp
            (try simp only [i64_w])
            try rfl
          refine hK.out _ _ ⟨b43, m19_, (by rw [ha.out]; exact putSel_upk 7 hb_ rfl rfl rfl), Q_BB, fun h0_ _ => absurd ((hoff 19 (by kernel_rfl)).symm.trans h0_) (by decide), fun h0_ => absurd ((hoff 24 (by kernel_rfl)).symm.trans h0_) (by decide), fun h0_ => absurd ((hoff 19 (by kernel_rfl)).symm.trans h0_) (by decide)⟩
        refine steps_cons ?_ ?_
        · rintro b a w' ⟨b43, m19_, ha, Q_BB, Q_RB, Q_FIN, Q_X19_⟩ hb_ hon hoff
          refine ⟨_, rfl, fun K hK => ?_⟩
          have e10 : a.tmps[10]? = some (.slice Av r0.l.length cv) := by rw [ha]; exact (putSel_off rfl).trans rfl
          have e31 : a.tmps[31]? = some (.bool true) := by rw [ha]; exact putSel_on (e := (7, 31, .bool true)) 7 rfl rfl (hon 7 (by kernel_rfl)) rfl
          replace ha := Aside0.mk ha
          have BB := Aside0.mk (Q_BB (hoff 24 (by kernel_rfl)))
          refine value_ (w1 := w') (v := .slice Av r0.l.length cv) (wanted_on rfl rfl rfl (e31.trans (by first | rfl | (simp [*]; done)))) rfl ?_ ?_
          · go_simp
            (try simp only [i64_w])
            try rfl
          refine hK.out _ _ ⟨b43, m19_, (by rw [ha.out]; exact putSel_upk 8 hb_ rfl rfl rfl), Q_BB, fun h0_ _ => absurd ((hoff 19 (by kernel_rfl)).symm.trans h0_) (by decide), fun h0_ => absurd ((hoff 24 (by kernel_rfl)).symm.trans h0_) (by decide), fun h0_ => absurd ((hoff 19 (by kernel_rfl)).symm.trans h0_) (by decide)⟩
        refine steps_cons ?_ ?_
        · rintro b a w' ⟨b43, m19_, ha, Q_BB, Q_RB, Q_FIN, Q_X19_⟩ hb_ hon hoff
          refine ⟨_, rfl, fun K hK => ?_⟩
          have e32 : a.tmps[32]? = some (.slice Av r0.l.length cv) := by rw [ha]; exact putSel_on (e := (8, 32, .slice Av r0.l.length cv)) 8 rfl rfl (hon 8 (by kernel_rfl)) rfl
          have e31 : a.tmps[31]? = some (.bool true) := by rw [ha]; exact putSel_on (e := (7, 31, .bool true)) 7 rfl rfl (hon 7 (by kernel_rfl)) rfl
          replace ha := Aside0.mk ha
          have BB := Aside0.mk (Q_BB (hoff 24 (by kernel_rfl)))
          have kx_ := string_of_reads (P := Try.prog) (c := cv) Try.underlying27 Try.underlying5 Try.underlying9 (Rz.out.2.1.below BB.out)
          refine value_ (w1 := w') (v := .string (strOfNums r0.l)) (wanted_on rfl rfl rfl (e31.trans (by first | rfl | (simp [*]; done)))) rfl ?_ ?_
          · go_simp
            (try simp only [i64_w])
            try rfl
          refine hK.out _ _ ⟨b43, m19_, (by rw [ha.out]; exact putSel_upk 9 hb_ rfl rfl rfl), Q_BB, fun h0_ _ => absurd ((hoff 19 (by kernel_rfl)).symm.trans h0_) (by decide), fun h0_ => absurd ((hoff 24 (by kernel_rfl)).symm.trans h0_) (by decide), fun h0_ => absurd ((hoff 19 (by kernel_rfl)).symm.trans h0_) (by decide)⟩
        refine steps_cons ?_ ?_
        · rintro b a w' ⟨b43, m19_, ha, Q_BB, Q_RB, Q_FIN, Q_X19_⟩ hb_ hon hoff
          refine ⟨_, rfl, fun K hK => ?_⟩
          have e3 : a.tmps[3]? = some (.pointer (some ⟨qp, 0, none⟩)) := by rw [ha]; exact (putSel_off rfl).trans rfl
          have e31 : a.tmps[31]? = some (.bool true) := by rw [ha]; exact putSel_on (e := (7, 31, .bool true)) 7 rfl rfl (hon 7 (by kernel_rfl)) rfl
          replace ha := Aside0.mk ha
          have BB := Aside0.mk (Q_BB (hoff 24 (by kernel_rfl)))
          have hc_qp : w'.cell? ⟨qp, 0, none⟩ = some (.slice (some ad) rs.length cP) := (blk_cell (blk_below Cz.out.1 BB.out) 0).trans rfl
          refine value_ (w1 := w') (v := .slice (some ad) rs.length cP) (wanted_on rfl rfl rfl (e31.trans (by first | rfl | (simp [*]; done)))) rfl ?_ ?_
          · go_simp
            (try simp only [i64_w])
            try rfl
          refine hK.out _ _ ⟨b43, m19_, (by rw [ha.out]; exact putSel_upk 10 hb_ rfl rfl rfl), Q_BB, fun h0_ _ => absurd ((hoff 19 (by kernel_rfl)).symm.trans h0_) (by decide), fun h0_ => absurd ((hoff 24 (by kernel_rfl)).symm.trans h0_) (by decide), fun h0_ => absurd ((hoff 19 (by kernel_rfl)).symm.trans h0_) (by decide)⟩
        refine steps_cons ?_ ?_
        · rintro b a w' ⟨b43, m19_, ha, Q_BB, Q_RB, Q_FIN, Q_X19_⟩ hb_ hon hoff
          refine ⟨_, rfl, fun K hK => ?_⟩
          have e2 : a.tmps[2]? = some (.pointer (some ⟨qn, 0, none⟩)) := by rw [ha]; exact (putSel_off rfl).trans rfl
          have e31 : a.tmps[31]? = some (.bool true) := by rw [ha]; exact putSel_on (e := (7, 31, .bool true)) 7 rfl rfl (hon 7 (by kernel_rfl)) rfl
          replace ha := Aside0.mk ha
          have BB := Aside0.mk (Q_BB (hoff 24 (by kernel_rfl)))
          have hc_qn : w'.cell? ⟨qn, 0, none⟩ = some (.int .i64 (j : Int)) := (blk_cell (blk_below Gz.out.2.2.2 BB.out) 0).trans rfl
          refine value_ (w1 := w') (v := .int .i64 (j : Int)) (wanted_on rfl rfl rfl (e31.trans (by first | rfl | (simp [*]; done)))) rfl ?_ ?_
          · go_simp
            (try simp only [i64_w])
            try rfl
          refine hK.out _ _ ⟨b43, m19_, (by rw [ha.out]; exact putSel_upk 11 hb_ rfl rfl rfl), Q_BB, fun h0_ _ => absurd ((hoff 19 (by kernel_rfl)).symm.trans h0_) (by decide), fun h0_ => absurd ((hoff 24 (by kernel_rfl)).symm.trans h0_) (by decide), fun h0_ => absurd ((hoff 19 (by kernel_rfl)).symm.trans h0_) (by decide)⟩
        refine steps_cons ?_ ?_
        · rintro b a w' ⟨b43, m19_, ha, Q_BB, Q_RB, Q_FIN, Q_X19_⟩ hb_ hon hoff
          refine ⟨_, rfl, fun K hK => ?_⟩
          have e34 : a.tmps[34]? = some (.slice (some ad) rs.length cP) := by rw [ha]; exact putSel_on (e := (10, 34, .slice (some ad) rs.length cP)) 10 rfl rfl (hon 10 (by kernel_rfl)) rfl
          have e35 : a.tmps[35]? = some (.int .i64 (j : Int)) := by rw [ha]; exact putSel_on (e := (11, 35, .int .i64 (j : Int))) 11 rfl rfl (hon 11 (by kernel_rfl)) rfl
          have e31 : a.tmps[31]? = some (.bool true) := by rw [ha]; exact putSel_on (e := (7, 31, .bool true)) 7 rfl rfl (hon 7 (by kernel_rfl)) rfl
          replace ha := Aside0.mk ha
          have BB := Aside0.mk (Q_BB (hoff 24 (by kernel_rfl)))
          refine value_ (w1 := w') (v := .pointer (some (ad.add j))) (wanted_on rfl rfl rfl (e31.trans (by first | rfl | (simp [*]; done)))) rfl ?_ ?_
          · go_simp
            (try simp only [i64_w])
            try rfl
          refine hK.out _ _ ⟨b43, m19_, (by rw [ha.out]; exact putSel_upk 12 hb_ rfl rfl rfl), Q_BB, fun h0_ _ => absurd ((hoff 19 (by kernel_rfl)).symm.trans h0_) (by decide), fun h0_ => absurd ((hoff 24 (by kernel_rfl)).symm.trans h0_) (by decide), fun h0_ => absurd ((hoff 19 (by kernel_rfl)).symm.trans h0_) (by decide)⟩
        refine steps_cons ?_ ?_
        · rintro b a w' ⟨b43, m19_, ha, Q_BB, Q_RB, Q_FIN, Q_X19_⟩ hb_ hon hoff
          refine ⟨_, rfl, fun K hK => ?_⟩
          have e36 : a.tmps[36]? = some (.pointer (some (ad.add j))) := by rw [ha]; exact putSel_on (e := (12, 36, .pointer (some (ad.add j)))) 12 rfl rfl (hon 12 (by kernel_rfl)) rfl
          have e31 : a.tmps[31]? = some (.bool true) := by rw [ha]; exact putSel_on (e := (7, 31, .bool true)) 7 rfl rfl (hon 7 (by kernel_rfl)) rfl
          replace ha := Aside0.mk ha
          have BB := Aside0.mk (Q_BB (hoff 24 (by kernel_rfl)))
          have hc_j : w'.cell? (ad.add j) = some (.slice r0.A r0.l.length r0.c) := pw_cell_below BB.out RJz.out.1
          refine value_ (w1 := w') (v := .slice r0.A r0.l.length r0.c) (wanted_on rfl rfl rfl (e31.trans (by first | rfl | (simp [*]; done)))) rfl ?_ ?_
          · go_simp
            (try simp only [i64_w])
            try rfl
          refine hK.out _ _ ⟨b43, m19_, (by rw [ha.out]; exact putSel_upk 13 hb_ rfl rfl rfl), Q_BB, fun h0_ _ => absurd ((hoff 19 (by kernel_rfl)).symm.trans h0_) (by decide), fun h0_ => absurd ((hoff 24 (by kernel_rfl)).symm.trans h0_) (by decide), fun h0_ => absurd ((hoff 19 (by kernel_rfl)).symm.trans h0_) (by decide)⟩
        refine steps_cons ?_ ?_
        · rintro b a w' ⟨b43, m19_, ha, Q_BB, Q_RB, Q_FIN, Q_X19_⟩ hb_ hon hoff
          refine ⟨_, rfl, fun K hK => ?_⟩
          have e37 : a.tmps[37]? = some (.slice r0.A r0.l.length r0.c) := by rw [ha]; exact putSel_on (e := (13, 37, .slice r0.A r0.l.length r0.c)) 13 rfl rfl (hon 13 (by kernel_rfl)) rfl
          have e31 : a.tmps[31]? = some (.bool true) := by rw [ha]; exact putSel_on (e := (7, 31, .bool true)) 7 rfl rfl (hon 7 (by kernel_rfl)) rfl
          replace ha := Aside0.mk ha
          have BB := Aside0.mk (Q_BB (hoff 24 (by kernel_rfl)))
          have kx_ := string_of_reads (P := Try.prog) (c := r0.c) Try.underlying27 Try.underlying5 Try.underlying9 (RJz.out.2.2.1.below BB.out)
          refine value_ (w1 := w') (v := .string (strOfNums r0.l)) (wanted_on rfl rfl rfl (e31.trans (by first | rfl | (simp [*]; done)))) rfl ?_ ?_
          · go_simp
            (try simp only [i64_w])
            try rfl
          refine hK.out _ _ ⟨b43, m19_, (by rw [ha.out]; exact putSel_upk 14 hb_ rfl rfl rfl), Q_BB, fun h0_ _ => absurd ((hoff 19 (by kernel_rfl)).symm.trans h0_) (by decide), fun h0_ => absurd ((hoff 24 (by kernel_rfl)).symm.trans h0_) (by decide), fun h0_ => absurd ((hoff 19 (by kernel_rfl)).symm.trans h0_) (by decide)⟩
        refine steps_cons ?_ ?_
        · rintro b a w' ⟨b43, m19_, ha, Q_BB, Q_RB, Q_FIN, Q_X19_⟩ hb_ hon hoff
          refine ⟨_, rfl, fun K hK => ?_⟩
          have e33 : a.tmps[33]? = some (.string (strOfNums r0.l)) := by rw [ha]; exact putSel_on (e := (9, 33, .string (strOfNums r0.l))) 9 rfl rfl (hon 9 (by kernel_rfl)) rfl
          have e38 : a.tmps[38]? = some (.string (strOfNums r0.l)) := by rw [ha]; exact putSel_on (e := (14, 38, .string (strOfNums r0.l))) 14 rfl rfl (hon 14 (by kernel_rfl)) rfl
          have e31 : a.tmps[31]? = some (.bool true) := by rw [ha]; exact putSel_on (e := (7, 31, .bool true)) 7 rfl rfl (hon 7 (by kernel_rfl)) rfl
          replace ha := Aside0.mk ha
          have BB := Aside0.mk (Q_BB (hoff 24 (by kernel_rfl)))
          refine value_ (w1 := w') (v := .bool true) (wanted_on rfl rfl rfl (e31.trans (by first | rfl | (simp [*]; done)))) rfl ?_ ?_
          · go_simp
            (try simp only [i64_w])
            try rfl
          refine hK.out _ _ ⟨b43, m19_, (by rw [ha.out]; exact putSel_upk 15 hb_ rfl rfl rfl), Q_BB, fun h0_ _ => absurd ((hoff 19 (by kernel_rfl)).symm.trans h0_) (by decide), fun h0_ => absurd ((hoff 24 (by kernel_rfl)).symm.trans h0_) (by decide), fun h0_ => absurd ((hoff 19 (by kernel_rfl)).symm.trans h0_) (by decide)⟩
        refine steps_cons ?_ ?_
        · rintro b a w' ⟨b43, m19_, ha, Q_BB, Q_RB, Q_FIN, Q_X19_⟩ hb_ hon hoff
          refine ⟨_, rfl, fun K hK => ?_⟩
          have e31 : a.tmps[31]? = some (.bool true) := by rw [ha]; exact putSel_on (e := (7, 31, .bool true)) 7 rfl rfl (hon 7 (by kernel_rfl)) rfl
          have e39 : a.tmps[39]? = some (.bool true) := by rw [ha]; exact putSel_on (e := (15, 39, .bool true)) 15 rfl rfl (hon 15 (by kernel_rfl)) rfl
          replace ha := Aside0.mk ha
          have BB := Aside0.mk (Q_BB (hoff 24 (by kernel_rfl)))
          refine value_ (w1 := w') (v := .bool true) (by rfl) rfl ?_ ?_
          · go_simp
            (try simp only [i64_w])
            try rfl
          refine hK.out _ _ ⟨b43, m19_, (by rw [ha.out]; exact putSel_upk 16 hb_ rfl rfl rfl), Q_BB, fun h0_ _ => absurd ((hoff 19 (by kernel_rfl)).symm.trans h0_) (by decide), fun h0_ => absurd ((hoff 24 (by kernel_rfl)).symm.trans h0_) (by decide), fun h0_ => absurd ((hoff 19 (by kernel_rfl)).symm.trans h0_) (by decide)⟩
        refine steps_cons ?_ ?_
        · rintro b a w' ⟨b43, m19_, ha, Q_BB, Q_RB, Q_FIN, Q_X19_⟩ hb_ hon hoff
          refine ⟨_, rfl, fun K hK => ?_⟩
          have e40 : a.tmps[40]? = some (.bool true) := by rw [ha]; exact putSel_on (e := (16, 40, .bool true)) 16 rfl rfl (hon 16 (by kernel_rfl)) rfl
          replace ha := Aside0.mk ha
          have BB := Aside0.mk (Q_BB (hoff 24 (by kernel_rfl)))
          refine value_ (w1 := w') (v := .bool true) (by rfl) rfl ?_ ?_
          · go_simp
            (try simp only [i64_w])
            try rfl
          refine hK.out _ _ ⟨b43, m19_, (by rw [ha.out]; exact putSel_upk 17 hb_ rfl rfl rfl), Q_BB, fun h0_ _ => absurd ((hoff 19 (by kernel_rfl)).symm.trans h0_) (by decide), fun h0_ => absurd ((hoff 24 (by kernel_rfl)).symm.trans h0_) (by decide), fun h0_ => absurd ((hoff 19 (by kernel_rfl)).symm.trans h0_) (by decide)⟩
        refine steps_cons ?_ ?_
        · rintro b a w' ⟨b43, m19_, ha, Q_BB, Q_RB, Q_FIN, Q_X19_⟩ hb_ hon hoff
          refine ⟨_, rfl, fun K hK => ?_⟩
          have e10 : a.tmps[10]? = some (.slice Av r0.l.length cv) := by rw [ha]; exact (putSel_off rfl).trans rfl
          have e41 : a.tmps[41]? = some (.bool true) := by rw [ha]; exact putSel_on (e := (17, 41, .bool true)) 17 rfl rfl (hon 17 (by kernel_rfl)) rfl
          replace ha := Aside0.mk ha
          have BB := Aside0.mk (Q_BB (hoff 24 (by kernel_rfl)))
          refine value_ (w1 := w') (v := .slice Av r0.l.length cv) (wanted_on rfl rfl rfl (e41.trans (by first | rfl | (simp [*]; done)))) rfl ?_ ?_
          · go_simp
            (try simp only [i64_w])
            try rfl
          refine hK.out _ _ ⟨b43, m19_, (by rw [ha.out]; exact putSel_upk 18 hb_ rfl rfl rfl), Q_BB, fun h0_ _ => absurd ((hoff 19 (by kernel_rfl)).symm.trans h0_) (by decide), fun h0_ => absurd ((hoff 24 (by kernel_rfl)).symm.trans h0_) (by decide), fun h0_ => absurd ((hoff 19 (by kernel_rfl)).symm.trans h0_) (by decide)⟩
        refine steps_cons ?_ ?_
        · rintro b a w' ⟨b43, m19_, ha, Q_BB, Q_RB, Q_FIN, Q_X19_⟩ hb_ hon hoff
          refine ⟨_, rfl, fun K hK => ?_⟩
          have e42 : a.tmps[42]? = some (.slice Av r0.l.length cv) := by rw [ha]; exact putSel_on (e := (18, 42, .slice Av r0.l.length cv)) 18 rfl rfl (hon 18 (by kernel_rfl)) rfl
          have e41 : a.tmps[41]? = some (.bool true) := by rw [ha]; exact putSel_on (e := (17, 41, .bool true)) 17 rfl rfl (hon 17 (by kernel_rfl)) rfl
          replace ha := Aside0.mk ha
          have BB := Aside0.mk (Q_BB (hoff 24 (by kernel_rfl)))
          refine value_ (w1 := w'.alloc (.cells #[.slice Av r0.l.length cv] 27)) (v := .slice (some ⟨w'.heap.size, 0, none⟩) 1 1) (wanted_on rfl rfl rfl (e41.trans (by first | rfl | (simp [*]; done)))) rfl ?_ ?_
          · go_simp
            try rfl
          refine hK.out _ _ ⟨w'.heap.size, (.slice (some ⟨w'.heap.size, 0, none⟩) 1 1), (by rw [ha.out]; exact putSel_upk 19 hb_ rfl rfl rfl), fun _ => bl_alloc BB.out _, fun _ _ => rows1 (Rz.out.below BB.out), fun h0_ => absurd ((hoff 24 (by kernel_rfl)).symm.trans h0_) (by decide), fun _ => rfl⟩
        refine steps_cons ?_ ?_
        · rintro b a w' ⟨b43, m19_, ha, Q_BB, Q_RB, Q_FIN, Q_X19_⟩ hb_ hon hoff
          refine ⟨_, rfl, fun K hK => ?_⟩
          have e43 : a.tmps[43]? = some (m19_) := by rw [ha]; exact putSel_on (e := (19, 43, m19_)) 19 rfl rfl (hon 19 (by kernel_rfl)) rfl
          rw [Q_X19_ (hon 19 (by kernel_rfl))] at e43
          have e41 : a.tmps[41]? = some (.bool true) := by rw [ha]; exact putSel_on (e := (17, 41, .bool true)) 17 rfl rfl (hon 17 (by kernel_rfl)) rfl
          replace ha := Aside0.mk ha
          have BB := Aside0.mk (Q_BB (hoff 24 (by kernel_rfl)))
          have RB := Aside0.mk (Q_RB (hon 19 (by kernel_rfl)) (hoff 24 (by kernel_rfl)))
          refine goes_ Try.func8 (by kernel_rfl) rfl #[.slice (some ⟨b43, 0, none⟩) 1 1] (wanted_on rfl rfl rfl (e41.trans (by first | rfl | (simp [*]; done)))) rfl rfl (by first | (simp only [List.map_toArray, List.map_cons, List.map_nil, Act.eval, Array.getD_eq_getD_getElem?, Option.getD_some, e43, e41]; done) | (simp only [List.map_toArray, List.map_cons, List.map_nil, Act.eval, Array.getD_eq_getD_getElem?, Option.getD_some, e43, e41]; rfl)) ?_
          refine (Sum_any [(⟨Av, cv, r0.l⟩ : Row)] (some ⟨b43, 0, none⟩) 1 1 w' rfl RB.out).mono ?_
          rintro e w1 ⟨he, hn⟩
          rw [show (ll [(⟨Av, cv, r0.l⟩ : Row)]).flatten = r0.l by simp [ll]] at he
          subst he
          refine ⟨_, rfl, ?_⟩
          refine hK.out _ _ ⟨b43, m19_, (by rw [ha.out]; exact putSel_upk 20 hb_ rfl rfl rfl), fun _ => bl_seq BB.out hn.below, fun _ _ => RB.out.below hn.below, fun h0_ => absurd ((hoff 24 (by kernel_rfl)).symm.trans h0_) (by decide), Q_X19_⟩
        refine steps_cons ?_ ?_
        · rintro b a w' ⟨b43, m19_, ha, Q_BB, Q_RB, Q_FIN, Q_X19_⟩ hb_ hon hoff
          refine ⟨_, rfl, fun K hK => ?_⟩
          have e9 : a.tmps[9]? = some (.int .u32 (crcOf r0.l)) := by rw [ha]; exact (putSel_off rfl).trans rfl
          have e41 : a.tmps[41]? = some (.bool true) := by rw [ha]; exact putSel_on (e := (17, 41, .bool true)) 17 rfl rfl (hon 17 (by kernel_rfl)) rfl
          replace ha := Aside0.mk ha
          have BB := Aside0.mk (Q_BB (hoff 24 (by kernel_rfl)))
          refine value_ (w1 := w') (v := .int .u32 (crcOf r0.l)) (wanted_on rfl rfl rfl (e41.trans (by first | rfl | (simp [*]; done)))) rfl ?_ ?_
          · go_simp
            (try simp only [i64_w])
            try rfl
          refine hK.out _ _ ⟨b43, m19_, (by rw [ha.out]; exact putSel_upk 21 hb_ rfl rfl rfl), Q_BB, Q_RB, fun h0_ => absurd ((hoff 24 (by kernel_rfl)).symm.trans h0_) (by decide), Q_X19_⟩
        refine steps_cons ?_ ?_
        · rintro b a w' ⟨b43, m19_, ha, Q_BB, Q_RB, Q_FIN, Q_X19_⟩ hb_ hon hoff
          refine ⟨_, rfl, fun K hK => ?_⟩
          have e44 : a.tmps[44]? = some (.int .u32 (crcOf r0.l)) := by rw [ha]; exact putSel_on (e := (20, 44, .int .u32 (crcOf r0.l))) 20 rfl rfl (hon 20 (by kernel_rfl)) rfl
          have e45 : a.tmps[45]? = some (.int .u32 (crcOf r0.l)) := by rw [ha]; exact putSel_on (e := (21, 45, .int .u32 (crcOf r0.l))) 21 rfl rfl (hon 21 (by kernel_rfl)) rfl
          have e41 : a.tmps[41]? = some (.bool true) := by rw [ha]; exact putSel_on (e := (17, 41, .bool true)) 17 rfl rfl (hon 17 (by kernel_rfl)) rfl
          replace ha := Aside0.mk ha
          have BB := Aside0.mk (Q_BB (hoff 24 (by kernel_rfl)))
          have RB := Aside0.mk (Q_RB (hon 19 (by kernel_rfl)) (hoff 24 (by kernel_rfl)))
          refine value_ (w1 := w') (v := .bool true) (wanted_on rfl rfl rfl (e41.trans (by first | rfl | (simp [*]; done)))) rfl ?_ ?_
          · go_simp
            (try simp only [i64_w])
            try rfl
          refine hK.out _ _ ⟨b43, m19_, (by rw [ha.out]; exact putSel_upk 22 hb_ rfl rfl rfl), Q_BB, Q_RB, fun h0_ => absurd ((hoff 24 (by kernel_rfl)).symm.trans h0_) (by decide), Q_X19_⟩
        refine steps_cons ?_ ?_
        · rintro b a w' ⟨b43, m19_, ha, Q_BB, Q_RB, Q_FIN, Q_X19_⟩ hb_ hon hoff
          refine ⟨_, rfl, fun K hK => ?_⟩
          have e41 : a.tmps[41]? = some (.bool true) := by rw [ha]; exact putSel_on (e := (17, 41, .bool true)) 17 rfl rfl (hon 17 (by kernel_rfl)) rfl
          have e46 : a.tmps[46]? = some (.bool true) := by rw [ha]; exact putSel_on (e := (22, 46, .bool true)) 22 rfl rfl (hon 22 (by kernel_rfl)) rfl
          replace ha := Aside0.mk ha
          have BB := Aside0.mk (Q_BB (hoff 24 (by kernel_rfl)))
          have RB := Aside0.mk (Q_RB (hon 19 (by kernel_rfl)) (hoff 24 (by kernel_rfl)))
          refine value_ (w1 := w') (v := .bool true) (by rfl) rfl ?_ ?_
          · go_simp
            (try simp only [i64_w])
            try rfl
          refine hK.out _ _ ⟨b43, m19_, (by rw [ha.out]; exact putSel_upk 23 hb_ rfl rfl rfl), Q_BB, Q_RB, fun h0_ => absurd ((hoff 24 (by kernel_rfl)).symm.trans h0_) (by decide), Q_X19_⟩
        refine steps_cons ?_ ?_
        · rintro b a w' ⟨b43, m19_, ha, Q_BB, Q_RB, Q_FIN, Q_X19_⟩ hb_ hon hoff
          refine ⟨_, rfl, fun K hK => ?_⟩
          have e1 : a.tmps[1]? = some (.pointer (some ⟨qk, 0, none⟩)) := by rw [ha]; exact (putSel_off rfl).trans rfl
          have e47 : a.tmps[47]? = some (.bool true) := by rw [ha]; exact putSel_on (e := (23, 47, .bool true)) 23 rfl rfl (hon 23 (by kernel_rfl)) rfl
          replace ha := Aside0.mk ha
          have BB := Aside0.mk (Q_BB hb_)
          have RB := Aside0.mk (Q_RB (hon 19 (by kernel_rfl)) hb_)
          have hc_qk : w'.cell? ⟨qk, 0, none⟩ = some (.bool true) := (blk_cell (blk_below Gz.out.2.2.1 BB.out) 0).trans rfl
          have zf := blk_frozen (blk_below Gz.out.2.2.1 BB.out) 0
          refine skip_ (w1 := w'.setCell ⟨qk, 0, none⟩ (.bool true)) (by rfl) rfl ?_ ?_
          · go_simp
            try rfl
          refine hK.out _ _ ⟨b43, m19_, (by rw [ha.out]; exact putSel_none (v := undef) rfl), fun h0_ => absurd ((up_self b 24).symm.trans h0_) (by decide), fun _ h1_ => absurd ((up_self b 24).symm.trans h1_) (by decide), fun _ => ⟨w', BB.out, rfl⟩, Q_X19_⟩
        exact steps_nil
      · rintro b a w' hall ⟨b43, m19_, ha, Q_BB, Q_RB, Q_FIN, Q_X19_⟩
        clear BB
        have hb0_ := hall 0 (by kernel_rfl)
        have hb1_ := hall 1 (by kernel_rfl)
        have hb2_ := hall 2 (by kernel_rfl)
        have hb3_ := hall 3 (by kernel_rfl)
        have hb4_ := hall 4 (by kernel_rfl)
        have hb5_ := hall 5 (by kernel_rfl)
        have hb6_ := hall 6 (by kernel_rfl)
        have hb7_ := hall 7 (by kernel_rfl)
        have hb8_ := hall 8 (by kernel_rfl)
        have hb9_ := hall 9 (by kernel_rfl)
        have hb10_ := hall 10 (by kernel_rfl)
        have hb11_ := hall 11 (by kernel_rfl)
        have hb12_ := hall 12 (by kernel_rfl)
        have hb13_ := hall 13 (by kernel_rfl)
        have hb14_ := hall 14 (by kernel_rfl)
        have hb15_ := hall 15 (by kernel_rfl)
        have hb16_ := hall 16 (by kernel_rfl)
        have hb17_ := hall 17 (by kernel_rfl)
        have hb18_ := hall 18 (by kernel_rfl)
        have hb19_ := hall 19 (by kernel_rfl)
        have hb20_ := hall 20 (by kernel_rfl)
        have hb21_ := hall 21 (by kernel_rfl)
        have hb22_ := hall 22 (by kernel_rfl)
        have hb23_ := hall 23 (by kernel_rfl)
        have hb24_ := hall 24 (by kernel_rfl)
        subst ha
        obtain rfl := Q_X19_ hb19_
        simp only [putSel, hb0_, hb1_, hb2_, hb3_, hb4_, hb5_, hb6_, hb7_, hb8_, hb9_, hb10_, hb11_, hb12_, hb13_, hb14_, hb15_, hb16_, hb17_, hb18_, hb19_, hb20_, hb21_, hb22_, hb23_, hb24_, if_true, Act.put, List.setIfInBounds_toArray, List.set_cons_zero, List.set_cons_succ]
        clear Q_BB
        clear Q_RB
        have FIN := Aside0.mk (Q_FIN hb24_)
        clear Q_FIN
        clear hall hb0_ hb1_ hb2_ hb3_ hb4_ hb5_ hb6_ hb7_ hb8_ hb9_ hb10_ hb11_ hb12_ hb13_ hb14_ hb15_ hb16_ hb17_ hb18_ hb19_ hb20_ hb21_ hb22_ hb23_ hb24_
        obtain ⟨w0, hb0, hw0⟩ := FIN.out
        have G5_ : TfG w p qk qn A m c (k + 4 + 4 + r0.l.length) j w' := by rw [hw0]; exact (Gz.out.below hb0).ok dk dq
        have P5_ : w'.ownsRow w3.heap.size 5 1 (.slice Av r0.l.length cv) r0.l.length (nums .u8 r0.l) := by
          rw [hw0]
          refine own_setCell (pw_own_below Pz.out hb0) (fun e => ?_) _
          have h1_ := (Pz.out.lt qk e.symm).1
          have h2_ := Y3.out.2.1
          omega
        have G5 := Lib.hid G5_
        have P5 := Lib.hid P5_
        clear G5_ P5_ hb0 hw0 FIN Gz Pz Rz Cz RJz Ry
        obtain ⟨w5, hw5⟩ : ∃ w5, w5 = w' := ⟨_, rfl⟩
        rw [← hw5] at G5 P5 ⊢
        clear hw5
        obtain ⟨P, hPm, hPK⟩ := pick_any wh (rs.length : Int) (by omega) (by omega)
        have PK := Lib.hid hPK
        have HPm := Lib.hid hPm
        have hr0I : (0 : Int) < (rs.length : Int) := by omega
        have hr0N : 0 < rs.length := by omega
        clear hPK hPm
        go_wp2_with fail
        by_cases hjP : j = P
        · have bj : ((j : Int) == (P : Int)) = true := by rw [hjP]; simp
          have HJP := Lib.hid hjP
          clear hjP
          by_cases h4 : (4 : Int) < (r0.l.length : Int)
          · by_cases hb0 : bt = 0
            · refine start_ (n := 19) (S := fun w' => True) (ds := []) #[false, false, false, false, false, false, false, false, false, false, false, false, false, false, false, false, false, false, false] (by kernel_rfl) rfl rfl trivial (fun hHeld => ?_)
              refine with_tabW TpcR.tab4 TpcR.bits4 (fun HT_ HW_ => ?_)
              have Gz := Lib.hid (G5.out.below (bl_drew (Below.refl _ _)))
              have Pz := Lib.hid (show w5.drew.ownsRow _ _ _ _ _ _ from P5.out)
              generalize w5.drew = wz at Gz Pz hHeld ⊢
              have Cz := Lib.hid (HC.out wz Gz.out.2.1)
              have Cb0 := Lib.hid (show wz.heap[qb]? = some (.cells #[.int .u32 0] 23 (0, 0)) from (by have h_ := Cz.out.2.2.1; rw [hb0] at h_; exact h_))
              have BB := Lib.hid (Below.refl wz.heap.size wz)
              refine inv_at [0, 1, 2, 3, 4, 5, 6, 7, 8, 9, 10, 11, 12, 13, 14, 15, 16, 17, 18] (fun a0_ b a w' => a = putSel a0_ b [(0, 48, .slice (some ad) rs.length cP), (1, 49, .int .i64 (rs.length : Int)), (2, 50, .bool true), (3, 51, .bool true), (4, 52, .int .i64 (j : Int)), (5, 53, .int .i64 wh), (6, 54, .slice (some ad) rs.length cP), (7, 55, .int .i64 (rs.length : Int)), (8, 56, .int .i64 (P : Int)), (9, 57, .bool true), (10, 58, .bool true), (11, 59, .bool true), (12, 60, .int .i64 (r0.l.length : Int)), (13, 61, .bool true), (14, 62, .bool true), (15, 63, .bool true), (16, 64, .int .u32 0), (17, 65, .bool false), (18, 66, .bool false)] ∧ (Below wz.heap.size wz w')) HT_.out HW_.out (by kernel_rfl) (by kernel_rfl) ?_ ?_ ?_
              · exact ⟨by simp only [putSel, Bool.false_eq_true, if_false], BB.out⟩
              · skip
                clear BB
                refine steps_cons ?_ ?_
                · rintro b a w' ⟨ha, Q_BB⟩ hb_ hon hoff
                  refine ⟨_, rfl, fun K hK => ?_⟩
                  have e3 : a.tmps[3]? = some (.pointer (some ⟨qp, 0, none⟩)) := by rw [ha]; exact (putSel_off rfl).trans rfl
                  replace ha := Aside0.mk ha
                  have BB := Aside0.mk Q_BB
                  have hc_qp : w'.cell? ⟨qp, 0, none⟩ = some (.slice (some ad) rs.length cP) := (blk_cell (blk_below Cz.out.1 BB.out) 0).trans rfl
                  refine value_ (w1 := w') (v := .slice (some ad) rs.length cP) (by rfl) rfl ?_ ?_
                  · go_simp
                    (try simp only [i64_w])
                    try rfl
                  refine hK.out _ _ ⟨(by rw [ha.out]; exact putSel_upk 0 hb_ rfl rfl rfl), Q_BB⟩
                refine steps_cons ?_ ?_
                · rintro b a w' ⟨ha, Q_BB⟩ hb_ hon hoff
                  refine ⟨_, rfl, fun K hK => ?_⟩
                  have e48 : a.tmps[48]? = some (.slice (some ad) rs.length cP) := by rw [ha]; exact putSel_on (e := (0, 48, .slice (some ad) rs.length cP)) 0 rfl rfl (hon 0 (by kernel_rfl)) rfl
                  replace ha := Aside0.mk ha
                  have BB := Aside0.mk Q_BB
                  refine value_ (w1 := w') (v := .int .i64 (rs.length : Int)) (by rfl) rfl ?_ ?_
                  · go_simp
                    (try simp only [i64_w])
                    try rfl
                  refine hK.out _ _ ⟨(by rw [ha.out]; exact putSel_upk 1 hb_ rfl rfl rfl), Q_BB⟩
                refine steps_cons ?_ ?_
                · rintro b a w' ⟨ha, Q_BB⟩ hb_ hon hoff
                  refine ⟨_, rfl, fun K hK => ?_⟩
                  have e49 : a.tmps[49]? = some (.int .i64 (rs.length : Int)) := by rw [ha]; exact putSel_on (e := (1, 49, .int .i64 (rs.length : Int))) 1 rfl rfl (hon 1 (by kernel_rfl)) rfl
                  replace ha := Aside0.mk ha
                  have BB := Aside0.mk Q_BB
                  refine value_ (w1 := w') (v := .bool true) (by rfl) rfl ?_ ?_
                  · go_simp
                    (try simp only [i64_w])
                    try rfl
                  refine hK.out _ _ ⟨(by rw [ha.out]; exact putSel_upk 2 hb_ rfl rfl rfl), Q_BB⟩
                refine steps_cons ?_ ?_
                · rintro b a w' ⟨ha, Q_BB⟩ hb_ hon hoff
                  refine ⟨_, rfl, fun K hK => ?_⟩
                  have e50 : a.tmps[50]? = some (.bool true) := by rw [ha]; exact putSel_on (e := (2, 50, .bool true)) 2 rfl rfl (hon 2 (by kernel_rfl)) rfl
                  replace ha := Aside0.mk ha
                  have BB := Aside0.mk Q_BB
                  refine value_ (w1 := w') (v := .bool true) (by rfl) rfl ?_ ?_
                  · go_simp
                    (try simp only [i64_w])
                    try rfl
                  refine hK.out _ _ ⟨(by rw [ha.out]; exact putSel_upk 3 hb_ rfl rfl rfl), Q_BB⟩
                refine steps_cons ?_ ?_
                · rintro b a w' ⟨ha, Q_BB⟩ hb_ hon hoff
                  refine ⟨_, rfl, fun K hK => ?_⟩
                  have e2 : a.tmps[2]? = some (.pointer (some ⟨qn, 0, none⟩)) := by rw [ha]; exact (putSel_off rfl).trans rfl
                  have e51 : a.tmps[51]? = some (.bool true) := by rw [ha]; exact putSel_on (e := (3, 51, .bool true)) 3 rfl rfl (hon 3 (by kernel_rfl)) rfl
                  replace ha := Aside0.mk ha
                  have BB := Aside0.mk Q_BB
                  have hc_qn : w'.cell? ⟨qn, 0, none⟩ = some (.int .i64 (j : Int)) := (blk_cell (blk_below Gz.out.2.2.2 BB.out) 0).trans rfl
                  refine value_ (w1 := w') (v := .int .i64 (j : Int)) (wanted_on rfl rfl rfl (e51.trans (by first | rfl | (simp [*]; done)))) rfl ?_ ?_
                  · go_simp
                    (try simp only [i64_w])
                    try rfl
                  refine hK.out _ _ ⟨(by rw [ha.out]; exact putSel_upk 4 hb_ rfl rfl rfl), Q_BB⟩
                refine steps_cons ?_ ?_
                · rintro b a w' ⟨ha, Q_BB⟩ hb_ hon hoff
                  refine ⟨_, rfl, fun K hK => ?_⟩
                  have e4 : a.tmps[4]? = some (.pointer (some ⟨qw, 0, none⟩)) := by rw [ha]; exact (putSel_off rfl).trans rfl
                  have e51 : a.tmps[51]? = some (.bool true) := by rw [ha]; exact putSel_on (e := (3, 51, .bool true)) 3 rfl rfl (hon 3 (by kernel_rfl)) rfl
                  replace ha := Aside0.mk ha
                  have BB := Aside0.mk Q_BB
                  have hc_qw : w'.cell? ⟨qw, 0, none⟩ = some (.int .i64 wh) := (blk_cell (blk_below Cz.out.2.1 BB.out) 0).trans rfl
                  refine value_ (w1 := w') (v := .int .i64 wh) (wanted_on rfl rfl rfl (e51.trans (by first | rfl | (simp [*]; done)))) rfl ?_ ?_
                  · go_simp
                    (try simp only [i64_w])
                    try rfl
                  refine hK.out _ _ ⟨(by rw [ha.out]; exact putSel_upk 5 hb_ rfl rfl rfl), Q_BB⟩
                refine steps_cons ?_ ?_
                · rintro b a w' ⟨ha, Q_BB⟩ hb_ hon hoff
                  refine ⟨_, rfl, fun K hK => ?_⟩
                  have e3 : a.tmps[3]? = some (.pointer (some ⟨qp, 0, none⟩)) := by rw [ha]; exact (putSel_off rfl).trans rfl
                  have e51 : a.tmps[51]? = some (.bool true) := by rw [ha]; exact putSel_on (e := (3, 51, .bool true)) 3 rfl rfl (hon 3 (by kernel_rfl)) rfl
                  replace ha := Aside0.mk ha
                  have BB := Aside0.mk Q_BB
                  have hc_qp : w'.cell? ⟨qp, 0, none⟩ = some (.slice (some ad) rs.length cP) := (blk_cell (blk_below Cz.out.1 BB.out) 0).trans rfl
                  refine value_ (w1 := w') (v := .slice (some ad) rs.length cP) (wanted_on rfl rfl rfl (e51.trans (by first | rfl | (simp [*]; done)))) rfl ?_ ?_
                  · go_simp
                    (try simp only [i64_w])
                    try rfl
                  refine hK.out _ _ ⟨(by rw [ha.out]; exact putSel_upk 6 hb_ rfl rfl rfl), Q_BB⟩
                refine steps_cons ?_ ?_
                · rintro b a w' ⟨ha, Q_BB⟩ hb_ hon hoff
                  refine ⟨_, rfl, fun K hK => ?_⟩
                  have e54 : a.tmps[54]? = some (.slice (some ad) rs.length cP) := by rw [ha]; exact putSel_on (e := (6, 54, .slice (some ad) rs.length cP)) 6 rfl rfl (hon 6 (by kernel_rfl)) rfl
                  have e51 : a.tmps[51]? = some (.bool true) := by rw [ha]; exact putSel_on (e := (3, 51, .bool true)) 3 rfl rfl (hon 3 (by kernel_rfl)) rfl
                  replace ha := Aside0.mk ha
                  have BB := Aside0.mk Q_BB
                  refine value_ (w1 := w') (v := .int .i64 (rs.length : Int)) (wanted_on rfl rfl rfl (e51.trans (by first | rfl | (simp [*]; done)))) rfl ?_ ?_
                  · go_simp
                    (try simp only [i64_w])
                    try rfl
                  refine hK.out _ _ ⟨(by rw [ha.out]; exact putSel_upk 7 hb_ rfl rfl rfl), Q_BB⟩
                refine steps_cons ?_ ?_
                · rintro b a w' ⟨ha, Q_BB⟩ hb_ hon hoff
                  refine ⟨_, rfl, fun K hK => ?_⟩
                  have e53 : a.tmps[53]? = some (.int .i64 wh) := by rw [ha]; exact putSel_on (e := (5, 53, .int .i64 wh)) 5 rfl rfl (hon 5 (by kernel_rfl)) rfl
                  have e55 : a.tmps[55]? = some (.int .i64 (rs.length : Int)) := by rw [ha]; exact putSel_on (e := (7, 55, .int .i64 (rs.length : Int))) 7 rfl rfl (hon 7 (by kernel_rfl)) rfl
                  have e51 : a.tmps[51]? = some (.bool true) := by rw [ha]; exact putSel_on (e := (3, 51, .bool true)) 3 rfl rfl (hon 3 (by kernel_rfl)) rfl
                  replace ha := Aside0.mk ha
                  have BB := Aside0.mk Q_BB
                  refine goes_ Try.func15 (by kernel_rfl) rfl #[.int .i64 wh, .int .i64 (rs.length : Int)] (wanted_on rfl rfl rfl (e51.trans (by first | rfl | (simp [*]; done)))) rfl rfl (by first | (simp only [List.map_toArray, List.map_cons, List.map_nil, Act.eval, Array.getD_eq_getD_getElem?, Option.getD_some, e53, e55, e51]; done) | (simp only [List.map_toArray, List.map_cons, List.map_nil, Act.eval, Array.getD_eq_getD_getElem?, Option.getD_some, e53, e55, e51]; rfl)) ?_
                  refine (PK.out w').mono ?_
                  rintro e w1 ⟨rfl, hn⟩
                  refine ⟨_, rfl, ?_⟩
                  refine hK.out _ _ ⟨(by rw [ha.out]; exact putSel_upk 8 hb_ rfl rfl rfl), bl_seq BB.out hn.below⟩
                refine steps_cons ?_ ?_
                · rintro b a w' ⟨ha, Q_BB⟩ hb_ hon hoff
                  refine ⟨_, rfl, fun K hK => ?_⟩
                  have e52 : a.tmps[52]? = some (.int .i64 (j : Int)) := by rw [ha]; exact putSel_on (e := (4, 52, .int .i64 (j : Int))) 4 rfl rfl (hon 4 (by kernel_rfl)) rfl
                  have e56 : a.tmps[56]? = some (.int .i64 (P : Int)) := by rw [ha]; exact putSel_on (e := (8, 56, .int .i64 (P : Int))) 8 rfl rfl (hon 8 (by kernel_rfl)) rfl
                  have e51 : a.tmps[51]? = some (.bool true) := by rw [ha]; exact putSel_on (e := (3, 51, .bool true)) 3 rfl rfl (hon 3 (by kernel_rfl)) rfl
                  replace ha := Aside0.mk ha
                  have BB := Aside0.mk Q_BB
                  refine value_ (w1 := w') (v := .bool true) (wanted_on rfl rfl rfl (e51.trans (by first | rfl | (simp [*]; done)))) rfl ?_ ?_
                  · go_simp
                    (try simp only [i64_w])
                    try rfl
                  refine hK.out _ _ ⟨(by rw [ha.out]; exact putSel_upk 9 hb_ rfl rfl rfl), Q_BB⟩
                refine steps_cons ?_ ?_
                · rintro b a w' ⟨ha, Q_BB⟩ hb_ hon hoff
                  refine ⟨_, rfl, fun K hK => ?_⟩
                  have e51 : a.tmps[51]? = some (.bool true) := by rw [ha]; exact putSel_on (e := (3, 51, .bool true)) 3 rfl rfl (hon 3 (by kernel_rfl)) rfl
                  have e57 : a.tmps[57]? = some (.bool true) := by rw [ha]; exact putSel_on (e := (9, 57, .bool true)) 9 rfl rfl (hon 9 (by kernel_rfl)) rfl
                  replace ha := Aside0.mk ha
                  have BB := Aside0.mk Q_BB
                  refine value_ (w1 := w') (v := .bool true) (by rfl) rfl ?_ ?_
                  · go_simp
                    (try simp only [i64_w])
                    try rfl
                  refine hK.out _ _ ⟨(by rw [ha.out]; exact putSel_upk 10 hb_ rfl rfl rfl), Q_BB⟩
                refine steps_cons ?_ ?_
                · rintro b a w' ⟨ha, Q_BB⟩ hb_ hon hoff
                  refine ⟨_, rfl, fun K hK => ?_⟩
                  have e58 : a.tmps[58]? = some (.bool true) := by rw [ha]; exact putSel_on (e := (10, 58, .bool true)) 10 rfl rfl (hon 10 (by kernel_rfl)) rfl
                  replace ha := Aside0.mk ha
                  have BB := Aside0.mk Q_BB
                  refine value_ (w1 := w') (v := .bool true) (by rfl) rfl ?_ ?_
                  · go_simp
                    (try simp only [i64_w])
                    try rfl
                  refine hK.out _ _ ⟨(by rw [ha.out]; exact putSel_upk 11 hb_ rfl rfl rfl), Q_BB⟩
                refine steps_cons ?_ ?_
                · rintro b a w' ⟨ha, Q_BB⟩ hb_ hon hoff
                  refine ⟨_, rfl, fun K hK => ?_⟩
                  have e8 : a.tmps[8]? = some (.int .i64 (r0.l.length : Int)) := by rw [ha]; exact (putSel_off rfl).trans rfl
                  have e59 : a.tmps[59]? = some (.bool true) := by rw [ha]; exact putSel_on (e := (11, 59, .bool true)) 11 rfl rfl (hon 11 (by kernel_rfl)) rfl
                  replace ha := Aside0.mk ha
                  have BB := Aside0.mk Q_BB
                  refine value_ (w1 := w') (v := .int .i64 (r0.l.length : Int)) (wanted_on rfl rfl rfl (e59.trans (by first | rfl | (simp [*]; done)))) rfl ?_ ?_
                  · go_simp
                    (try simp only [i64_w])
                    try rfl
                  refine hK.out _ _ ⟨(by rw [ha.out]; exact putSel_upk 12 hb_ rfl rfl rfl), Q_BB⟩
                refine steps_cons ?_ ?_
                · rintro b a w' ⟨ha, Q_BB⟩ hb_ hon hoff
                  refine ⟨_, rfl, fun K hK => ?_⟩
                  have e60 : a.tmps[60]? = some (.int .i64 (r0.l.length : Int)) := by rw [ha]; exact putSel_on (e := (12, 60, .int .i64 (r0.l.length : Int))) 12 rfl rfl (hon 12 (by kernel_rfl)) rfl
                  have e59 : a.tmps[59]? = some (.bool true) := by rw [ha]; exact putSel_on (e := (11, 59, .bool true)) 11 rfl rfl (hon 11 (by kernel_rfl)) rfl
                  replace ha := Aside0.mk ha
                  have BB := Aside0.mk Q_BB
                  refine value_ (w1 := w') (v := .bool true) (wanted_on rfl rfl rfl (e59.trans (by first | rfl | (simp [*]; done)))) rfl ?_ ?_
                  · go_simp
                    (try simp only [i64_w])
                    try rfl
                  refine hK.out _ _ ⟨(by rw [ha.out]; exact putSel_upk 13 hb_ rfl rfl rfl), Q_BB⟩
                refine steps_cons ?_ ?_
                · rintro b a w' ⟨ha, Q_BB⟩ hb_ hon hoff
                  refine ⟨_, rfl, fun K hK => ?_⟩
                  have e59 : a.tmps[59]? = some (.bool true) := by rw [ha]; exact putSel_on (e := (11, 59, .bool true)) 11 rfl rfl (hon 11 (by kernel_rfl)) rfl
                  have e61 : a.tmps[61]? = some (.bool true) := by rw [ha]; exact putSel_on (e := (13, 61, .bool true)) 13 rfl rfl (hon 13 (by kernel_rfl)) rfl
                  replace ha := Aside0.mk ha
                  have BB := Aside0.mk Q_BB
                  refine value_ (w1 := w') (v := .bool true) (by rfl) rfl ?_ ?_
                  · go_simp
                    (try simp only [i64_w])
                    try rfl
                  refine hK.out _ _ ⟨(by rw [ha.out]; exact putSel_upk 14 hb_ rfl rfl rfl), Q_BB⟩
                refine steps_cons ?_ ?_
                · rintro b a w' ⟨ha, Q_BB⟩ hb_ hon hoff
                  refine ⟨_, rfl, fun K hK => ?_⟩
                  have e62 : a.tmps[62]? = some (.bool true) := by rw [ha]; exact putSel_on (e := (14, 62, .bool true)) 14 rfl rfl (hon 14 (by kernel_rfl)) rfl
                  replace ha := Aside0.mk ha
                  have BB := Aside0.mk Q_BB
                  refine value_ (w1 := w') (v := .bool true) (by rfl) rfl ?_ ?_
                  · go_simp
                    (try simp only [i64_w])
                    try rfl
                  refine hK.out _ _ ⟨(by rw [ha.out]; exact putSel_upk 15 hb_ rfl rfl rfl), Q_BB⟩
                refine steps_cons ?_ ?_
                · rintro b a w' ⟨ha, Q_BB⟩ hb_ hon hoff
                  refine ⟨_, rfl, fun K hK => ?_⟩
                  have e5 : a.tmps[5]? = some (.pointer (some ⟨qb, 0, none⟩)) := by rw [ha]; exact (putSel_off rfl).trans rfl
                  have e63 : a.tmps[63]? = some (.bool true) := by rw [ha]; exact putSel_on (e := (15, 63, .bool true)) 15 rfl rfl (hon 15 (by kernel_rfl)) rfl
                  replace ha := Aside0.mk ha
                  have BB := Aside0.mk Q_BB
                  have hc_qb : w'.cell? ⟨qb, 0, none⟩ = some (.int .u32 0) := (blk_cell (blk_below (Cb0.out) BB.out) 0).trans rfl
                  refine value_ (w1 := w') (v := .int .u32 0) (wanted_on rfl rfl rfl (e63.trans (by first | rfl | (simp [*]; done)))) rfl ?_ ?_
                  · go_simp
                    (try simp only [i64_w])
                    try rfl
                  refine hK.out _ _ ⟨(by rw [ha.out]; exact putSel_upk 16 hb_ rfl rfl rfl), Q_BB⟩
                refine steps_cons ?_ ?_
                · rintro b a w' ⟨ha, Q_BB⟩ hb_ hon hoff
                  refine ⟨_, rfl, fun K hK => ?_⟩
                  have e64 : a.tmps[64]? = some (.int .u32 0) := by rw [ha]; exact putSel_on (e := (16, 64, .int .u32 0)) 16 rfl rfl (hon 16 (by kernel_rfl)) rfl
                  have e63 : a.tmps[63]? = some (.bool true) := by rw [ha]; exact putSel_on (e := (15, 63, .bool true)) 15 rfl rfl (hon 15 (by kernel_rfl)) rfl
                  replace ha := Aside0.mk ha
                  have BB := Aside0.mk Q_BB
                  refine value_ (w1 := w') (v := .bool false) (wanted_on rfl rfl rfl (e63.trans (by first | rfl | (simp [*]; done)))) rfl ?_ ?_
                  · go_simp
                    (try simp only [i64_w])
                    try rfl
                  refine hK.out _ _ ⟨(by rw [ha.out]; exact putSel_upk 17 hb_ rfl rfl rfl), Q_BB⟩
                refine steps_cons ?_ ?_
                · rintro b a w' ⟨ha, Q_BB⟩ hb_ hon hoff
                  refine ⟨_, rfl, fun K hK => ?_⟩
                  have e63 : a.tmps[63]? = some (.bool true) := by rw [ha]; exact putSel_on (e := (15, 63, .bool true)) 15 rfl rfl (hon 15 (by kernel_rfl)) rfl
                  have e65 : a.tmps[65]? = some (.bool false) := by rw [ha]; exact putSel_on (e := (17, 65, .bool false)) 17 rfl rfl (hon 17 (by kernel_rfl)) rfl
                  replace ha := Aside0.mk ha
                  have BB := Aside0.mk Q_BB
                  refine value_ (w1 := w') (v := .bool false) (by rfl) rfl ?_ ?_
                  · go_simp
                    (try simp only [i64_w])
                    try rfl
                  refine hK.out _ _ ⟨(by rw [ha.out]; exact putSel_upk 18 hb_ rfl rfl rfl), Q_BB⟩
                exact steps_nil
              · rintro b a w' hall ⟨ha, Q_BB⟩
                clear BB
                have hb0_ := hall 0 (by kernel_rfl)
                have hb1_ := hall 1 (by kernel_rfl)
                have hb2_ := hall 2 (by kernel_rfl)
                have hb3_ := hall 3 (by kernel_rfl)
                have hb4_ := hall 4 (by kernel_rfl)
                have hb5_ := hall 5 (by kernel_rfl)
                have hb6_ := hall 6 (by kernel_rfl)
                have hb7_ := hall 7 (by kernel_rfl)
                have hb8_ := hall 8 (by kernel_rfl)
                have hb9_ := hall 9 (by kernel_rfl)
                have hb10_ := hall 10 (by kernel_rfl)
                have hb11_ := hall 11 (by kernel_rfl)
                have hb12_ := hall 12 (by kernel_rfl)
                have hb13_ := hall 13 (by kernel_rfl)
                have hb14_ := hall 14 (by kernel_rfl)
                have hb15_ := hall 15 (by kernel_rfl)
                have hb16_ := hall 16 (by kernel_rfl)
                have hb17_ := hall 17 (by kernel_rfl)
                have hb18_ := hall 18 (by kernel_rfl)
                subst ha
                simp only [putSel, hb0_, hb1_, hb2_, hb3_, hb4_, hb5_, hb6_, hb7_, hb8_, hb9_, hb10_, hb11_, hb12_, hb13_, hb14_, hb15_, hb16_, hb17_, hb18_, if_true, Act.put, List.setIfInBounds_toArray, List.set_cons_zero, List.set_cons_succ]
                have BB := Aside0.mk Q_BB
                clear Q_BB
                clear hall hb0_ hb1_ hb2_ hb3_ hb4_ hb5_ hb6_ hb7_ hb8_ hb9_ hb10_ hb11_ hb12_ hb13_ hb14_ hb15_ hb16_ hb17_ hb18_
                have G6 := Lib.hid (Gz.out.below BB.out)
                have P6 := Lib.hid (pw_own_below Pz.out BB.out)
                clear Gz Pz Cz BB
                obtain ⟨w6, hw6⟩ : ∃ w6, w6 = w' := ⟨_, rfl⟩
                rw [← hw6] at G6 P6 ⊢
                clear hw6
                have zn : w6.cell? ⟨qn, 0, none⟩ = some (.int .i64 (j : Int)) := (blk_cell G6.out.2.2.2 0).trans rfl
                have zf := blk_frozen G6.out.2.2.2 0
                have ew2 : wrap64 ((j : Int) + 1) = (j : Int) + 1 := by unfold wrap64; omega
                go_wp2_with fail
                go_roundw
                case rel => exact ⟨j + 1, k + 4 + 4 + r0.l.length, by omega, HF.out.2.2.2.1.symm, Lib.hid (G6.out.next dn dq)⟩
                case measure => rw [leftN_at (G6.out.next dn dq).2.2.2, HM0.out]; omega
            · have bb : ((bt : Int) == 0) = false := by simp; omega
              refine start_ (n := 19) (S := fun w' => True) (ds := []) #[false, false, false, false, false, false, false, false, false, false, false, false, false, false, false, false, false, false, false] (by kernel_rfl) rfl rfl trivial (fun hHeld => ?_)
              refine with_tabW TpcR.tab4 TpcR.bits4 (fun HT_ HW_ => ?_)
              have Gz := Lib.hid (G5.out.below (bl_drew (Below.refl _ _)))
              have Pz := Lib.hid (show w5.drew.ownsRow _ _ _ _ _ _ from P5.out)
              generalize w5.drew = wz at Gz Pz hHeld ⊢
              have Cz := Lib.hid (HC.out wz Gz.out.2.1)
              have BB := Lib.hid (Below.refl wz.heap.size wz)
              refine inv_at [0, 1, 2, 3, 4, 5, 6, 7, 8, 9, 10, 11, 12, 13, 14, 15, 16, 17, 18] (fun a0_ b a w' => a = putSel a0_ b [(0, 48, .slice (some ad) rs.length cP), (1, 49, .int .i64 (rs.length : Int)), (2, 50, .bool true), (3, 51, .bool true), (4, 52, .int .i64 (j : Int)), (5, 53, .int .i64 wh), (6, 54, .slice (some ad) rs.length cP), (7, 55, .int .i64 (rs.length : Int)), (8, 56, .int .i64 (P : Int)), (9, 57, .bool true), (10, 58, .bool true), (11, 59, .bool true), (12, 60, .int .i64 (r0.l.length : Int)), (13, 61, .bool true), (14, 62, .bool true), (15, 63, .bool true), (16, 64, .int .u32 (bt : Int)), (17, 65, .bool true), (18, 66, .bool true)] ∧ (Below wz.heap.size wz w')) HT_.out HW_.out (by kernel_rfl) (by kernel_rfl) ?_ ?_ ?_
              · exact ⟨by simp only [putSel, Bool.false_eq_true, if_false], BB.out⟩
              · skip
                clear BB
                refine steps_cons ?_ ?_
                · rintro b a w' ⟨ha, Q_BB⟩ hb_ hon hoff
                  refine ⟨_, rfl, fun K hK => ?_⟩
                  have e3 : a.tmps[3]? = some (.pointer (some ⟨qp, 0, none⟩)) := by rw [ha]; exact (putSel_off rfl).trans rfl
                  replace ha := Aside0.mk ha
                  have BB := Aside0.mk Q_BB
                  have hc_qp : w'.cell? ⟨qp, 0, none⟩ = some (.slice (some ad) rs.length cP) := (blk_cell (blk_below Cz.out.1 BB.out) 0).trans rfl
                  refine value_ (w1 := w') (v := .slice (some ad) rs.length cP) (by rfl) rfl ?_ ?_
                  · go_simp
                    (try simp only [i64_w])
                    try rfl
                  refine hK.out _ _ ⟨(by rw [ha.out]; exact putSel_upk 0 hb_ rfl rfl rfl), Q_BB⟩
                refine steps_cons ?_ ?_
                · rintro b a w' ⟨ha, Q_BB⟩ hb_ hon hoff
                  refine ⟨_, rfl, fun K hK => ?_⟩
                  have e48 : a.tmps[48]? = some (.slice (some ad) rs.length cP) := by rw [ha]; exact putSel_on (e := (0, 48, .slice (some ad) rs.length cP)) 0 rfl rfl (hon 0 (by kernel_rfl)) rfl
                  replace ha := Aside0.mk ha
                  have BB := Aside0.mk Q_BB
                  refine value_ (w1 := w') (v := .int .i64 (rs.length : Int)) (by rfl) rfl ?_ ?_
                  · go_simp
                    (try simp only [i64_w])
                    try rfl
                  refine hK.out _ _ ⟨(by rw [ha.out]; exact putSel_upk 1 hb_ rfl rfl rfl), Q_BB⟩
                refine steps_cons ?_ ?_
                · rintro b a w' ⟨ha, Q_BB⟩ hb_ hon hoff
                  refine ⟨_, rfl, fun K hK => ?_⟩
                  have e49 : a.tmps[49]? = some (.int .i64 (rs.length : Int)) := by rw [ha]; exact putSel_on (e := (1, 49, .int .i64 (rs.length : Int))) 1 rfl rfl (hon 1 (by kernel_rfl)) rfl
                  replace ha := Aside0.mk ha
                  have BB := Aside0.mk Q_BB
                  refine value_ (w1 := w') (v := .bool true) (by rfl) rfl ?_ ?_
                  · go_simp
                    (try simp only [i64_w])
                    try rfl
                  refine hK.out _ _ ⟨(by rw [ha.out]; exact putSel_upk 2 hb_ rfl rfl rfl), Q_BB⟩
                refine steps_cons ?_ ?_
                · rintro b a w' ⟨ha, Q_BB⟩ hb_ hon hoff
                  refine ⟨_, rfl, fun K hK => ?_⟩
                  have e50 : a.tmps[50]? = some (.bool true) := by rw [ha]; exact putSel_on (e := (2, 50, .bool true)) 2 rfl rfl (hon 2 (by kernel_rfl)) rfl
                  replace ha := Aside0.mk ha
                  have BB := Aside0.mk Q_BB
                  refine value_ (w1 := w') (v := .bool true) (by rfl) rfl ?_ ?_
                  · go_simp
                    (try simp only [i64_w])
                    try rfl
                  refine hK.out _ _ ⟨(by rw [ha.out]; exact putSel_upk 3 hb_ rfl rfl rfl), Q_BB⟩
                refine steps_cons ?_ ?_
                · rintro b a w' ⟨ha, Q_BB⟩ hb_ hon hoff
                  refine ⟨_, rfl, fun K hK => ?_⟩
                  have e2 : a.tmps[2]? = some (.pointer (some ⟨qn, 0, none⟩)) := by rw [ha]; exact (putSel_off rfl).trans rfl
                  have e51 : a.tmps[51]? = some (.bool true) := by rw [ha]; exact putSel_on (e := (3, 51, .bool true)) 3 rfl rfl (hon 3 (by kernel_rfl)) rfl
                  replace ha := Aside0.mk ha
                  have BB := Aside0.mk Q_BB
                  have hc_qn : w'.cell? ⟨qn, 0, none⟩ = some (.int .i64 (j : Int)) := (blk_cell (blk_below Gz.out.2.2.2 BB.out) 0).trans rfl
                  refine value_ (w1 := w') (v := .int .i64 (j : Int)) (wanted_on rfl rfl rfl (e51.trans (by first | rfl | (simp [*]; done)))) rfl ?_ ?_
                  · go_simp
                    (try simp only [i64_w])
                    try rfl
                  refine hK.out _ _ ⟨(by rw [ha.out]; exact putSel_upk 4 hb_ rfl rfl rfl), Q_BB⟩
                refine steps_cons ?_ ?_
                · rintro b a w' ⟨ha, Q_BB⟩ hb_ hon hoff
                  refine ⟨_, rfl, fun K hK => ?_⟩
                  have e4 : a.tmps[4]? = some (.pointer (some ⟨qw, 0, none⟩)) := by rw [ha]; exact (putSel_off rfl).trans rfl
                  have e51 : a.tmps[51]? = some (.bool true) := by rw [ha]; exact putSel_on (e := (3, 51, .bool true)) 3 rfl rfl (hon 3 (by kernel_rfl)) rfl
                  replace ha := Aside0.mk ha
                  have BB := Aside0.mk Q_BB
                  have hc_qw : w'.cell? ⟨qw, 0, none⟩ = some (.int .i64 wh) := (blk_cell (blk_below Cz.out.2.1 BB.out) 0).trans rfl
                  refine value_ (w1 := w') (v := .int .i64 wh) (wanted_on rfl rfl rfl (e51.trans (by first | rfl | (simp [*]; done)))) rfl ?_ ?_
                  · go_simp
                    (try simp only [i64_w])
                    try rfl
                  refine hK.out _ _ ⟨(by rw [ha.out]; exact putSel_upk 5 hb_ rfl rfl rfl), Q_BB⟩
                refine steps_cons ?_ ?_
                · rintro b a w' ⟨ha, Q_BB⟩ hb_ hon hoff
                  refine ⟨_, rfl, fun K hK => ?_⟩
                  have e3 : a.tmps[3]? = some (.pointer (some ⟨qp, 0, none⟩)) := by rw [ha]; exact (putSel_off rfl).trans rfl
                  have e51 : a.tmps[51]? = some (.bool true) := by rw [ha]; exact putSel_on (e := (3, 51, .bool true)) 3 rfl rfl (hon 3 (by kernel_rfl)) rfl
                  replace ha := Aside0.mk ha
                  have BB := Aside0.mk Q_BB
                  have hc_qp : w'.cell? ⟨qp, 0, none⟩ = some (.slice (some ad) rs.length cP) := (blk_cell (blk_below Cz.out.1 BB.out) 0).trans rfl
                  refine value_ (w1 := w') (v := .slice (some ad) rs.length cP) (wanted_on rfl rfl rfl (e51.trans (by first | rfl | (simp [*]; done)))) rfl ?_ ?_
                  · go_simp
                    (try simp only [i64_w])
                    try rfl
                  refine hK.out _ _ ⟨(by rw [ha.out]; exact putSel_upk 6 hb_ rfl rfl rfl), Q_BB⟩
                refine steps_cons ?_ ?_
                · rintro b a w' ⟨ha, Q_BB⟩ hb_ hon hoff
                  refine ⟨_, rfl, fun K hK => ?_⟩
                  have e54 : a.tmps[54]? = some (.slice (some ad) rs.length cP) := by rw [ha]; exact putSel_on (e := (6, 54, .slice (some ad) rs.length cP)) 6 rfl rfl (hon 6 (by kernel_rfl)) rfl
                  have e51 : a.tmps[51]? = some (.bool true) := by rw [ha]; exact putSel_on (e := (3, 51, .bool true)) 3 rfl rfl (hon 3 (by kernel_rfl)) rfl
                  replace ha := Aside0.mk ha
                  have BB := Aside0.mk Q_BB
                  refine value_ (w1 := w') (v := .int .i64 (rs.length : Int)) (wanted_on rfl rfl rfl (e51.trans (by first | rfl | (simp [*]; done)))) rfl ?_ ?_
                  · go_simp
                    (try simp only [i64_w])
                    try rfl
                  refine hK.out _ _ ⟨(by rw [ha.out]; exact putSel_upk 7 hb_ rfl rfl rfl), Q_BB⟩
                refine steps_cons ?_ ?_
                · rintro b a w' ⟨ha, Q_BB⟩ hb_ hon hoff
                  refine ⟨_, rfl, fun K hK => ?_⟩
                  have e53 : a.tmps[53]? = some (.int .i64 wh) := by rw [ha]; exact putSel_on (e := (5, 53, .int .i64 wh)) 5 rfl rfl (hon 5 (by kernel_rfl)) rfl
                  have e55 : a.tmps[55]? = some (.int .i64 (rs.length : Int)) := by rw [ha]; exact putSel_on (e := (7, 55, .int .i64 (rs.length : Int))) 7 rfl rfl (hon 7 (by kernel_rfl)) rfl
                  have e51 : a.tmps[51]? = some (.bool true) := by rw [ha]; exact putSel_on (e := (3, 51, .bool true)) 3 rfl rfl (hon 3 (by kernel_rfl)) rfl
                  replace ha := Aside0.mk ha
                  have BB := Aside0.mk Q_BB
                  refine goes_ Try.func15 (by kernel_rfl) rfl #[.int .i64 wh, .int .i64 (rs.length : Int)] (wanted_on rfl rfl rfl (e51.trans (by first | rfl | (simp [*]; done)))) rfl rfl (by first | (simp only [List.map_toArray, List.map_cons, List.map_nil, Act.eval, Array.getD_eq_getD_getElem?, Option.getD_some, e53, e55, e51]; done) | (simp only [List.map_toArray, List.map_cons, List.map_nil, Act.eval, Array.getD_eq_getD_getElem?, Option.getD_some, e53, e55, e51]; rfl)) ?_
                  refine (PK.out w').mono ?_
                  rintro e w1 ⟨rfl, hn⟩
                  refine ⟨_, rfl, ?_⟩
                  refine hK.out _ _ ⟨(by rw [ha.out]; exact putSel_upk 8 hb_ rfl rfl rfl), bl_seq BB.out hn.below⟩
                refine steps_cons ?_ ?_
                · rintro b a w' ⟨ha, Q_BB⟩ hb_ hon hoff
                  refine ⟨_, rfl, fun K hK => ?_⟩
                  have e52 : a.tmps[52]? = some (.int .i64 (j : Int)) := by rw [ha]; exact putSel_on (e := (4, 52, .int .i64 (j : Int))) 4 rfl rfl (hon 4 (by kernel_rfl)) rfl
                  have e56 : a.tmps[56]? = some (.int .i64 (P : Int)) := by rw [ha]; exact putSel_on (e := (8, 56, .int .i64 (P : Int))) 8 rfl rfl (hon 8 (by kernel_rfl)) rfl
                  have e51 : a.tmps[51]? = some (.bool true) := by rw [ha]; exact putSel_on (e := (3, 51, .bool true)) 3 rfl rfl (hon 3 (by kernel_rfl)) rfl
                  replace ha := Aside0.mk ha
                  have BB := Aside0.mk Q_BB
                  refine value_ (w1 := w') (v := .bool true) (wanted_on rfl rfl rfl (e51.trans (by first | rfl | (simp [*]; done)))) rfl ?_ ?_
                  · go_simp
                    (try simp only [i64_w])
                    try rfl
                  refine hK.out _ _ ⟨(by rw [ha.out]; exact putSel_upk 9 hb_ rfl rfl rfl), Q_BB⟩
                refine steps_cons ?_ ?_
                · rintro b a w' ⟨ha, Q_BB⟩ hb_ hon hoff
                  refine ⟨_, rfl, fun K hK => ?_⟩
                  have e51 : a.tmps[51]? = some (.bool true) := by rw [ha]; exact putSel_on (e := (3, 51, .bool true)) 3 rfl rfl (hon 3 (by kernel_rfl)) rfl
                  have e57 : a.tmps[57]? = some (.bool true) := by rw [ha]; exact putSel_on (e := (9, 57, .bool true)) 9 rfl rfl (hon 9 (by kernel_rfl)) rfl
                  replace ha := Aside0.mk ha
                  have BB := Aside0.mk Q_BB
                  refine value_ (w1 := w') (v := .bool true) (by rfl) rfl ?_ ?_
                  · go_simp
                    (try simp only [i64_w])
                    try rfl
                  refine hK.out _ _ ⟨(by rw [ha.out]; exact putSel_upk 10 hb_ rfl rfl rfl), Q_BB⟩
                refine steps_cons ?_ ?_
                · rintro b a w' ⟨ha, Q_BB⟩ hb_ hon hoff
                  refine ⟨_, rfl, fun K hK => ?_⟩
                  have e58 : a.tmps[58]? = some (.bool true) := by rw [ha]; exact putSel_on (e := (10, 58, .bool true)) 10 rfl rfl (hon 10 (by kernel_rfl)) rfl
                  replace ha := Aside0.mk ha
                  have BB := Aside0.mk Q_BB
                  refine value_ (w1 := w') (v := .bool true) (by rfl) rfl ?_ ?_
                  · go_simp
                    (try simp only [i64_w])
                    try rfl
                  refine hK.out _ _ ⟨(by rw [ha.out]; exact putSel_upk 11 hb_ rfl rfl rfl), Q_BB⟩
                refine steps_cons ?_ ?_
                · rintro b a w' ⟨ha, Q_BB⟩ hb_ hon hoff
                  refine ⟨_, rfl, fun K hK => ?_⟩
                  have e8 : a.tmps[8]? = some (.int .i64 (r0.l.length : Int)) := by rw [ha]; exact (putSel_off rfl).trans rfl
                  have e59 : a.tmps[59]? = some (.bool true) := by rw [ha]; exact putSel_on (e := (11, 59, .bool true)) 11 rfl rfl (hon 11 (by kernel_rfl)) rfl
                  replace ha := Aside0.mk ha
                  have BB := Aside0.mk Q_BB
                  refine value_ (w1 := w') (v := .int .i64 (r0.l.length : Int)) (wanted_on rfl rfl rfl (e59.trans (by first | rfl | (simp [*]; done)))) rfl ?_ ?_
                  · go_simp
                    (try simp only [i64_w])
                    try rfl
                  refine hK.out _ _ ⟨(by rw [ha.out]; exact putSel_upk 12 hb_ rfl rfl rfl), Q_BB⟩
                refine steps_cons ?_ ?_
                · rintro b a w' ⟨ha, Q_BB⟩ hb_ hon hoff
                  refine ⟨_, rfl, fun K hK => ?_⟩
                  have e60 : a.tmps[60]? = some (.int .i64 (r0.l.length : Int)) := by rw [ha]; exact putSel_on (e := (12, 60, .int .i64 (r0.l.length : Int))) 12 rfl rfl (hon 12 (by kernel_rfl)) rfl
                  have e59 : a.tmps[59]? = some (.bool true) := by rw [ha]; exact putSel_on (e := (11, 59, .bool true)) 11 rfl rfl (hon 11 (by kernel_rfl)) rfl
                  replace ha := Aside0.mk ha
                  have BB := Aside0.mk Q_BB
                  refine value_ (w1 := w') (v := .bool true) (wanted_on rfl rfl rfl (e59.trans (by first | rfl | (simp [*]; done)))) rfl ?_ ?_
                  · go_simp
                    (try simp only [i64_w])
                    try rfl
                  refine hK.out _ _ ⟨(by rw [ha.out]; exact putSel_upk 13 hb_ rfl rfl rfl), Q_BB⟩
                refine steps_cons ?_ ?_
                · rintro b a w' ⟨ha, Q_BB⟩ hb_ hon hoff
                  refine ⟨_, rfl, fun K hK => ?_⟩
                  have e59 : a.tmps[59]? = some (.bool true) := by rw [ha]; exact putSel_on (e := (11, 59, .bool true)) 11 rfl rfl (hon 11 (by kernel_rfl)) rfl
                  have e61 : a.tmps[61]? = some (.bool true) := by rw [ha]; exact putSel_on (e := (13, 61, .bool true)) 13 rfl rfl (hon 13 (by kernel_rfl)) rfl
                  replace ha := Aside0.mk ha
                  have BB := Aside0.mk Q_BB
                  refine value_ (w1 := w') (v := .bool true) (by rfl) rfl ?_ ?_
                  · go_simp
                    (try simp only [i64_w])
                    try rfl
                  refine hK.out _ _ ⟨(by rw [ha.out]; exact putSel_upk 14 hb_ rfl rfl rfl), Q_BB⟩
                refine steps_cons ?_ ?_
                · rintro b a w' ⟨ha, Q_BB⟩ hb_ hon hoff
                  refine ⟨_, rfl, fun K hK => ?_⟩
                  have e62 : a.tmps[62]? = some (.bool true) := by rw [ha]; exact putSel_on (e := (14, 62, .bool true)) 14 rfl rfl (hon 14 (by kernel_rfl)) rfl
                  replace ha := Aside0.mk ha
                  have BB := Aside0.mk Q_BB
                  refine value_ (w1 := w') (v := .bool true) (by rfl) rfl ?_ ?_
                  · go_simp
                    (try simp only [i64_w])
                    try rfl
                  refine hK.out _ _ ⟨(by rw [ha.out]; exact putSel_upk 15 hb_ rfl rfl rfl), Q_BB⟩
                refine steps_cons ?_ ?_
                · rintro b a w' ⟨ha, Q_BB⟩ hb_ hon hoff
                  refine ⟨_, rfl, fun K hK => ?_⟩
                  have e5 : a.tmps[5]? = some (.pointer (some ⟨qb, 0, none⟩)) := by rw [ha]; exact (putSel_off rfl).trans rfl
                  have e63 : a.tmps[63]? = some (.bool true) := by rw [ha]; exact putSel_on (e := (15, 63, .bool true)) 15 rfl rfl (hon 15 (by kernel_rfl)) rfl
                  replace ha := Aside0.mk ha
                  have BB := Aside0.mk Q_BB
                  have hc_qb : w'.cell? ⟨qb, 0, none⟩ = some (.int .u32 (bt : Int)) := (blk_cell (blk_below (Cz.out.2.2.1) BB.out) 0).trans rfl
                  refine value_ (w1 := w') (v := .int .u32 (bt : Int)) (wanted_on rfl rfl rfl (e63.trans (by first | rfl | (simp [*]; done)))) rfl ?_ ?_
                  · go_simp
                    (try simp only [i64_w])
                    try rfl
                  refine hK.out _ _ ⟨(by rw [ha.out]; exact putSel_upk 16 hb_ rfl rfl rfl), Q_BB⟩
                refine steps_cons ?_ ?_
                · rintro b a w' ⟨ha, Q_BB⟩ hb_ hon hoff
                  refine ⟨_, rfl, fun K hK => ?_⟩
                  have e64 : a.tmps[64]? = some (.int .u32 (bt : Int)) := by rw [ha]; exact putSel_on (e := (16, 64, .int .u32 (bt : Int))) 16 rfl rfl (hon 16 (by kernel_rfl)) rfl
                  have e63 : a.tmps[63]? = some (.bool true) := by rw [ha]; exact putSel_on (e := (15, 63, .bool true)) 15 rfl rfl (hon 15 (by kernel_rfl)) rfl
                  replace ha := Aside0.mk ha
                  have BB := Aside0.mk Q_BB
                  refine value_ (w1 := w') (v := .bool true) (wanted_on rfl rfl rfl (e63.trans (by first | rfl | (simp [*]; done)))) rfl ?_ ?_
                  · go_simp
                    (try simp only [i64_w])
                    try rfl
                  refine hK.out _ _ ⟨(by rw [ha.out]; exact putSel_upk 17 hb_ rfl rfl rfl), Q_BB⟩
                refine steps_cons ?_ ?_
                · rintro b a w' ⟨ha, Q_BB⟩ hb_ hon hoff
                  refine ⟨_, rfl, fun K hK => ?_⟩
                  have e63 : a.tmps[63]? = some (.bool true) := by rw [ha]; exact putSel_on (e := (15, 63, .bool true)) 15 rfl rfl (hon 15 (by kernel_rfl)) rfl
                  have e65 : a.tmps[65]? = some (.bool true) := by rw [ha]; exact putSel_on (e := (17, 65, .bool true)) 17 rfl rfl (hon 17 (by kernel_rfl)) rfl
                  replace ha := Aside0.mk ha
                  have BB := Aside0.mk Q_BB
                  refine value_ (w1 := w') (v := .bool true) (by rfl) rfl ?_ ?_
                  · go_simp
                    (try simp only [i64_w])
                    try rfl
                  refine hK.out _ _ ⟨(by rw [ha.out]; exact putSel_upk 18 hb_ rfl rfl rfl), Q_BB⟩
                exact steps_nil
              · rintro b a w' hall ⟨ha, Q_BB⟩
                clear BB
                have hb0_ := hall 0 (by kernel_rfl)
                have hb1_ := hall 1 (by kernel_rfl)
                have hb2_ := hall 2 (by kernel_rfl)
                have hb3_ := hall 3 (by kernel_rfl)
                have hb4_ := hall 4 (by kernel_rfl)
                have hb5_ := hall 5 (by kernel_rfl)
                have hb6_ := hall 6 (by kernel_rfl)
                have hb7_ := hall 7 (by kernel_rfl)
                have hb8_ := hall 8 (by kernel_rfl)
                have hb9_ := hall 9 (by kernel_rfl)
                have hb10_ := hall 10 (by kernel_rfl)
                have hb11_ := hall 11 (by kernel_rfl)
                have hb12_ := hall 12 (by kernel_rfl)
                have hb13_ := hall 13 (by kernel_rfl)
                have hb14_ := hall 14 (by kernel_rfl)
                have hb15_ := hall 15 (by kernel_rfl)
                have hb16_ := hall 16 (by kernel_rfl)
                have hb17_ := hall 17 (by kernel_rfl)
                have hb18_ := hall 18 (by kernel_rfl)
                subst ha
                simp only [putSel, hb0_, hb1_, hb2_, hb3_, hb4_, hb5_, hb6_, hb7_, hb8_, hb9_, hb10_, hb11_, hb12_, hb13_, hb14_, hb15_, hb16_, hb17_, hb18_, if_true, Act.put, List.setIfInBounds_toArray, List.set_cons_zero, List.set_cons_succ]
                have BB := Aside0.mk Q_BB
                clear Q_BB
                clear hall hb0_ hb1_ hb2_ hb3_ hb4_ hb5_ hb6_ hb7_ hb8_ hb9_ hb10_ hb11_ hb12_ hb13_ hb14_ hb15_ hb16_ hb17_ hb18_
                have G6 := Lib.hid (Gz.out.below BB.out)
                have P6 := Lib.hid (pw_own_below Pz.out BB.out)
                clear Gz Pz Cz BB
                obtain ⟨w6, hw6⟩ : ∃ w6, w6 = w' := ⟨_, rfl⟩
                rw [← hw6] at G6 P6 ⊢
                clear hw6
                have hg4 : 0 < r0.l.length := by omega
                obtain ⟨g, hAv, hg, hgl⟩ := own_some P6.out hg4
                subst hAv
                have HG := Lib.hid hg
                have e8 : wrap64 (8 * (r0.l.length : Int)) = 8 * (r0.l.length : Int) := by unfold wrap64; omega
                have e32 : wrap64 (8 * (r0.l.length : Int) - 32) = 8 * (r0.l.length : Int) - 32 := by unfold wrap64; omega
                obtain ⟨F, hF, hPK2⟩ := pick_any at0 (8 * (r0.l.length : Int) - 32) (by omega) (by omega)
                have za : w6.cell? ⟨qa, 0, none⟩ = some (.int .i64 at0) := (blk_cell (HC.out w6 G6.out.2.1).2.2.2.1 0).trans rfl
                have HF8 := Lib.hid hF
                clear hg hgl hF
                go_wp2_with fail
                refine (hPK2 w6).mono ?_
                rintro e w7 ⟨rfl, hd7⟩
                have G7 := Lib.hid (G6.out.below hd7.below)
                have P7 := Lib.hid (pw_own_below P6.out hd7.below)
                have HB0 := Lib.hid (show bt ≠ 0 from hb0)
                have h4N : 4 < r0.l.length := by omega
                have H4 := Lib.hid h4N
                clear hPK2 hd7 za e8 e32 G6 P6 bb hb0 h4 hg4 h4N
                go_wp2_with fail
                go_loopw [12] (fun i wl => ∃ t : Nat, t ≤ 32 ∧ i = .int .i64 (t : Int) ∧ Hid (wl.ownsRow w3.heap.size 5 1 (.slice (some ⟨g, 0, none⟩) r0.l.length cv) r0.l.length (nums .u8 (turnB r0.l F bt t))) ∧ Hid (Mods (fun i => i = g) w7 wl)) (fun i _ => 32 - (intOf i).toNat)
                case atStart => exact ⟨0, Nat.zero_le _, rfl, P7, Lib.hid (Mods.refl _ _)⟩
                case round =>
                  obtain ⟨t, ht, rfl, HT, HM⟩ := hrel
                  have GL := Lib.hid (G7.out.mods HM.out (by have h1_ := HG.out; have h2_ := Y3.out.2.2.2; omega) (by have h1_ := HG.out; have h2_ := Y3.out.1; omega) (by have h1_ := HG.out; have h2_ := Y3.out.2.1; omega) (by have h1_ := HG.out; have h2_ := Y3.out.2.2.1; omega))
                  have CL := Lib.hid (HC.out _ GL.out.2.1)
                  by_cases hlt2 : t < 32
                  · have zb : wr.cell? ⟨qb, 0, none⟩ = some (.int .u32 (bt : Int)) := (blk_cell CL.out.2.2.1 0).trans rfl
                    have hbt2 := bit_test bt t hbt
                    cases hb : bt.testBit t
                    · rw [hb, if_neg (by simp)] at hbt2
                      have htk : turnB r0.l F bt (t + 1) = turnB r0.l F bt t := by rw [turnB, hb]; rfl
                      have HTK := Lib.hid htk
                      clear hb htk
                      go_wp2
                      go_roundw
                      case rel => exact ⟨t + 1, by omega, by go_num, by rw [HTK.out]; exact HT, by first | exact HM | exact Lib.hid (mods_drew HM.out)⟩
                      case measure => simp [intOf]; omega
                    · rw [hb, if_pos rfl] at hbt2
                      have htk : turnB r0.l F bt (t + 1) = flipB (turnB r0.l F bt t) (F + t) := by rw [turnB, hb]; rfl
                      have HTK := Lib.hid htk
                      clear hb htk
                      go_wp2
                      have hPn : F + t < 8 * r0.l.length := by have h_ := HF8.out; omega
                      have htl := turnB_length r0.l F bt t
                      have HYB := Lib.hid (turnB_byt (show BytN r0.l from CL.out.2.2.2.2.1 |> fun h => (tf_row h hlt HF.out.2.2.2.2.2.2.1).2.2.2) F bt t)
                      generalize turnB r0.l F bt t = ys at HT HTK htl HYB
                      obtain ⟨N, hN⟩ : ∃ N, F + t = N := ⟨_, rfl⟩
                      rw [hN] at hPn HTK
                      have hpk : (F : Int) + (t : Int) = (N : Int) := by omega
                      try simp only [hpk]
                      have htd : Int.tdiv (N : Int) 8 = ((N / 8 : Nat) : Int) := by rw [Int.tdiv_eq_ediv_of_nonneg (by omega)]; omega
                      have htm : Int.tmod (N : Int) 8 = ((N % 8 : Nat) : Int) := by rw [Int.tmod_eq_emod_of_nonneg (by omega)]; omega
                      have hq8 : N / 8 < r0.l.length := by omega
                      have hr8 : N % 8 < 8 := by omega
                      obtain ⟨hc3, hf3⟩ := own_at HT.out ((N / 8 : Nat) : Int) (by omega) (by omega)
                      rw [Int.toNat_natCast, rd_getD] at hc3
                      rw [Int.toNat_natCast] at hf3
                      have hby : BytN ys → 0 ≤ ys.getD (N / 8) 0 ∧ ys.getD (N / 8) 0 < 256 := fun h_ => h_ _ (by rw [List.getD_eq_getElem?_getD, List.getElem?_eq_getElem (by omega)]; simp)
                      have hyb := hby HYB.out
                      have hfl : flipB ys N = ys.set (N / 8) (((ys.getD (N / 8) 0).toNat ^^^ 2 ^ (N % 8) : Nat) : Int) := rfl
                      obtain ⟨y, hy⟩ : ∃ y, ys.getD (N / 8) 0 = y := ⟨_, rfl⟩
                      rw [hy] at hc3 hfl hyb
                      have hv := flip_val y (N % 8) hr8 hyb.1 hyb.2
                      have HV := Lib.hid (And.intro hfl hv)
                      clear hby hyb hfl hy hv HYB
                      go_region
                      rw [HV.out.2]
                      go_wp2
                      go_roundw
                      case rel =>
                        refine ⟨t + 1, by omega, by go_num, ?_, Lib.hid (mods_drew (HM.out.at_ (.inl rfl) (N / 8) _))⟩
                        have h_ := (own_store HT.out ((N / 8 : Nat) : Int) ((y.toNat ^^^ 2 ^ (N % 8) : Nat) : Int)).1
                        rw [Int.toNat_natCast] at h_
                        rw [HTK.out, HV.out.1]
                        exact Lib.hid h_
                      case measure => simp [intOf]; omega
                  · obtain rfl : t = 32 := by omega
                    have hby0 : Byt r0.l := (tf_row CL.out.2.2.2.2.1 hlt HF.out.2.2.2.2.2.2.1).2.2.2
                    have htold := turnB_told (~~~ 0#32) (l := r0.l) hby0 F bt hbt HB0.out (by have h_ := HF8.out; omega)
                    have hcne : crcOf (turnB r0.l F bt 32) ≠ crcOf r0.l := fun e => htold (crcOf_inj e)
                    have hby : Byt (turnB r0.l F bt 32) := turnB_byt hby0 F bt 32
                    have htl := turnB_length r0.l F bt 32
                    generalize turnB r0.l F bt 32 = ys at HT hcne hby htl
                    have hne2 : (crcOf ys != crcOf r0.l) = true := by simpa using hcne
                    have hRO : RowOk wr ⟨some ⟨g, 0, none⟩, cv, ys⟩ := by
                      refine ⟨by show ys.length ≤ cv; rw [htl]; exact own_le HT.out, ?_, hby⟩
                      show ReadsInt wr .u8 _ ys.length ys
                      rw [htl]; exact own_reads' HT.out
                    have hrow := rows1 hRO
                    rw [htl] at hrow
                    have zk : wr.cell? ⟨qk, 0, none⟩ = some (.bool true) := (blk_cell GL.out.2.2.1 0).trans rfl
                    have HROW := Lib.hid hrow
                    have bA : Below wr.heap.size wr (wr.alloc (.cells #[.slice (some ⟨g, 0, none⟩) r0.l.length cv] 27)) := bl_alloc (Below.refl _ _) _
                    have G8 := Lib.hid (GL.out.below bA)
                    clear bA htold hcne hby hby0 htl hRO hrow HT HM CL
                    go_wp2_with fail
                    refine (Sum_any [⟨some ⟨g, 0, none⟩, cv, ys⟩] _ 1 1 _ rfl HROW.out).mono ?_
                    rintro e w9 ⟨he, hn9⟩
                    rw [show (ll [(⟨some ⟨g, 0, none⟩, cv, ys⟩ : Row)]).flatten = ys by simp [ll]] at he
                    subst he
                    have G9 := Lib.hid (G8.out.below hn9.below)
                    have GA := Lib.hid (G9.out.ok dk dq)
                    have zk9 : w9.cell? ⟨qk, 0, none⟩ = some (.bool true) := (blk_cell G9.out.2.2.1 0).trans rfl
                    have zf9 := blk_frozen G9.out.2.2.1 0
                    clear hn9 zk
                    have zn : (w9.setCell ⟨qk, 0, none⟩ (.bool true)).cell? ⟨qn, 0, none⟩ = some (.int .i64 (j : Int)) := (blk_cell GA.out.2.2.2 0).trans rfl
                    have zf := blk_frozen GA.out.2.2.2 0
                    have ew2 : wrap64 ((j : Int) + 1) = (j : Int) + 1 := by unfold wrap64; omega
                    go_wp2_with fail
                    go_roundw
                    case rel => exact ⟨j + 1, k + 4 + 4 + r0.l.length, by omega, HF.out.2.2.2.1.symm, Lib.hid (GA.out.next dn dq)⟩
                    case measure => rw [leftN_at (GA.out.next dn dq).2.2.2, HM0.out]; omega
          · refine start_ (n := 19) (S := fun w' => True) (ds := []) #[false, false, false, false, false, false, false, false, false, false, false, false, false, false, false, false, false, false, false] (by kernel_rfl) rfl rfl trivial (fun hHeld => ?_)
            refine with_tabW TpcR.tab4 TpcR.bits4 (fun HT_ HW_ => ?_)
            have Gz := Lib.hid (G5.out.below (bl_drew (Below.refl _ _)))
            have Pz := Lib.hid (show w5.drew.ownsRow _ _ _ _ _ _ from P5.out)
            generalize w5.drew = wz at Gz Pz hHeld ⊢
            have Cz := Lib.hid (HC.out wz Gz.out.2.1)
            have BB := Lib.hid (Below.refl wz.heap.size wz)
            refine inv_at [0, 1, 2, 3, 4, 5, 6, 7, 8, 9, 10, 11, 12, 13, 14, 15, 16, 17, 18] (fun a0_ b a w' => a = putSel a0_ b [(0, 48, .slice (some ad) rs.length cP), (1, 49, .int .i64 (rs.length : Int)), (2, 50, .bool true), (3, 51, .bool true), (4, 52, .int .i64 (j : Int)), (5, 53, .int .i64 wh), (6, 54, .slice (some ad) rs.length cP), (7, 55, .int .i64 (rs.length : Int)), (8, 56, .int .i64 (P : Int)), (9, 57, .bool true), (10, 58, .bool true), (11, 59, .bool true), (12, 60, .int .i64 (r0.l.length : Int)), (13, 61, .bool false), (14, 62, .bool false), (15, 63, .bool false), (16, 64, undef), (17, 65, undef), (18, 66, .bool false)] ∧ (Below wz.heap.size wz w')) HT_.out HW_.out (by kernel_rfl) (by kernel_rfl) ?_ ?_ ?_
            · exact ⟨by simp only [putSel, Bool.false_eq_true, if_false], BB.out⟩
            · skip
              clear BB
              refine steps_cons ?_ ?_
              · rintro b a w' ⟨ha, Q_BB⟩ hb_ hon hoff
                refine ⟨_, rfl, fun K hK => ?_⟩
                have e3 : a.tmps[3]? = some (.pointer (some ⟨qp, 0, none⟩)) := by rw [ha]; exact (putSel_off rfl).trans rfl
                replace ha := Aside0.mk ha
                have BB := Aside0.mk Q_BB
                have hc_qp : w'.cell? ⟨qp, 0, none⟩ = some (.slice (some ad) rs.length cP) := (blk_cell (blk_below Cz.out.1 BB.out) 0).trans rfl
                refine value_ (w1 := w') (v := .slice (some ad) rs.length cP) (by rfl) rfl ?_ ?_
                · go_simp
                  (try simp only [i64_w])
                  try rfl
                refine hK.out _ _ ⟨(by rw [ha.out]; exact putSel_upk 0 hb_ rfl rfl rfl), Q_BB⟩
              refine steps_cons ?_ ?_
              · rintro b a w' ⟨ha, Q_BB⟩ hb_ hon hoff
                refine ⟨_, rfl, fun K hK => ?_⟩
                have e48 : a.tmps[48]? = some (.slice (some ad) rs.length cP) := by rw [ha]; exact putSel_on (e := (0, 48, .slice (some ad) rs.length cP)) 0 rfl rfl (hon 0 (by kernel_rfl)) rfl
                replace ha := Aside0.mk ha
                have BB := Aside0.mk Q_BB
                refine value_ (w1 := w') (v := .int .i64 (rs.length : Int)) (by rfl) rfl ?_ ?_
                · go_simp
                  (try simp only [i64_w])
                  try rfl
                refine hK.out _ _ ⟨(by rw [ha.out]; exact putSel_upk 1 hb_ rfl rfl rfl), Q_BB⟩
              refine steps_cons ?_ ?_
              · rintro b a w' ⟨ha, Q_BB⟩ hb_ hon hoff
                refine ⟨_, rfl, fun K hK => ?_⟩
                have e49 : a.tmps[49]? = some (.int .i64 (rs.length : Int)) := by rw [ha]; exact putSel_on (e := (1, 49, .int .i64 (rs.length : Int))) 1 rfl rfl (hon 1 (by kernel_rfl)) rfl
                replace ha := Aside0.mk ha
                have BB := Aside0.mk Q_BB
                refine value_ (w1 := w') (v := .bool true) (by rfl) rfl ?_ ?_
                · go_simp
                  (try simp only [i64_w])
                  try rfl
                refine hK.out _ _ ⟨(by rw [ha.out]; exact putSel_upk 2 hb_ rfl rfl rfl), Q_BB⟩
              refine steps_cons ?_ ?_
              · rintro b a w' ⟨ha, Q_BB⟩ hb_ hon hoff
                refine ⟨_, rfl, fun K hK => ?_⟩
                have e50 : a.tmps[50]? = some (.bool true) := by rw [ha]; exact putSel_on (e := (2, 50, .bool true)) 2 rfl rfl (hon 2 (by kernel_rfl)) rfl
                replace ha := Aside0.mk ha
                have BB := Aside0.mk Q_BB
                refine value_ (w1 := w') (v := .bool true) (by rfl) rfl ?_ ?_
                · go_simp
                  (try simp only [i64_w])
                  try rfl
                refine hK.out _ _ ⟨(by rw [ha.out]; exact putSel_upk 3 hb_ rfl rfl rfl), Q_BB⟩
              refine steps_cons ?_ ?_
              · rintro b a w' ⟨ha, Q_BB⟩ hb_ hon hoff
                refine ⟨_, rfl, fun K hK => ?_⟩
                have e2 : a.tmps[2]? = some (.pointer (some ⟨qn, 0, none⟩)) := by rw [ha]; exact (putSel_off rfl).trans rfl
                have e51 : a.tmps[51]? = some (.bool true) := by rw [ha]; exact putSel_on (e := (3, 51, .bool true)) 3 rfl rfl (hon 3 (by kernel_rfl)) rfl
                replace ha := Aside0.mk ha
                have BB := Aside0.mk Q_BB
                have hc_qn : w'.cell? ⟨qn, 0, none⟩ = some (.int .i64 (j : Int)) := (blk_cell (blk_below Gz.out.2.2.2 BB.out) 0).trans rfl
                refine value_ (w1 := w') (v := .int .i64 (j : Int)) (wanted_on rfl rfl rfl (e51.trans (by first | rfl | (simp [*]; done)))) rfl ?_ ?_
                · go_simp
                  (try simp only [i64_w])
                  try rfl
                refine hK.out _ _ ⟨(by rw [ha.out]; exact putSel_upk 4 hb_ rfl rfl rfl), Q_BB⟩
              refine steps_cons ?_ ?_
              · rintro b a w' ⟨ha, Q_BB⟩ hb_ hon hoff
                refine ⟨_, rfl, fun K hK => ?_⟩
                have e4 : a.tmps[4]? = some (.pointer (some ⟨qw, 0, none⟩)) := by rw [ha]; exact (putSel_off rfl).trans rfl
                have e51 : a.tmps[51]? = some (.bool true) := by rw [ha]; exact putSel_on (e := (3, 51, .bool true)) 3 rfl rfl (hon 3 (by kernel_rfl)) rfl
                replace ha := Aside0.mk ha
                have BB := Aside0.mk Q_BB
                have hc_qw : w'.cell? ⟨qw, 0, none⟩ = some (.int .i64 wh) := (blk_cell (blk_below Cz.out.2.1 BB.out) 0).trans rfl
                refine value_ (w1 := w') (v := .int .i64 wh) (wanted_on rfl rfl rfl (e51.trans (by first | rfl | (simp [*]; done)))) rfl ?_ ?_
                · go_simp
                  (try simp only [i64_w])
                  try rfl
                refine hK.out _ _ ⟨(by rw [ha.out]; exact putSel_upk 5 hb_ rfl rfl rfl), Q_BB⟩
              refine steps_cons ?_ ?_
              · rintro b a w' ⟨ha, Q_BB⟩ hb_ hon hoff
                refine ⟨_, rfl, fun K hK => ?_⟩
                have e3 : a.tmps[3]? = some (.pointer (some ⟨qp, 0, none⟩)) := by rw [ha]; exact (putSel_off rfl).trans rfl
                have e51 : a.tmps[51]? = some (.bool true) := by rw [ha]; exact putSel_on (e := (3, 51, .bool true)) 3 rfl rfl (hon 3 (by kernel_rfl)) rfl
                replace ha := Aside0.mk ha
                have BB := Aside0.mk Q_BB
                have hc_qp : w'.cell? ⟨qp, 0, none⟩ = some (.slice (some ad) rs.length cP) := (blk_cell (blk_below Cz.out.1 BB.out) 0).trans rfl
                refine value_ (w1 := w') (v := .slice (some ad) rs.length cP) (wanted_on rfl rfl rfl (e51.trans (by first | rfl | (simp [*]; done)))) rfl ?_ ?_
                · go_simp
                  (try simp only [i64_w])
                  try rfl
                refine hK.out _ _ ⟨(by rw [ha.out]; exact putSel_upk 6 hb_ rfl rfl rfl), Q_BB⟩
              refine steps_cons ?_ ?_
              · rintro b a w' ⟨ha, Q_BB⟩ hb_ hon hoff
                refine ⟨_, rfl, fun K hK => ?_⟩
                have e54 : a.tmps[54]? = some (.slice (some ad) rs.length cP) := by rw [ha]; exact putSel_on (e := (6, 54, .slice (some ad) rs.length cP)) 6 rfl rfl (hon 6 (by kernel_rfl)) rfl
                have e51 : a.tmps[51]? = some (.bool true) := by rw [ha]; exact putSel_on (e := (3, 51, .bool true)) 3 rfl rfl (hon 3 (by kernel_rfl)) rfl
                replace ha := Aside0.mk ha
                have BB := Aside0.mk Q_BB
                refine value_ (w1 := w') (v := .int .i64 (rs.length : Int)) (wanted_on rfl rfl rfl (e51.trans (by first | rfl | (simp [*]; done)))) rfl ?_ ?_
                · go_simp
                  (try simp only [i64_w])
                  try rfl
                refine hK.out _ _ ⟨(by rw [ha.out]; exact putSel_upk 7 hb_ rfl rfl rfl), Q_BB⟩
              refine steps_cons ?_ ?_
              · rintro b a w' ⟨ha, Q_BB⟩ hb_ hon hoff
                refine ⟨_, rfl, fun K hK => ?_⟩
                have e53 : a.tmps[53]? = some (.int .i64 wh) := by rw [ha]; exact putSel_on (e := (5, 53, .int .i64 wh)) 5 rfl rfl (hon 5 (by kernel_rfl)) rfl
                have e55 : a.tmps[55]? = some (.int .i64 (rs.length : Int)) := by rw [ha]; exact putSel_on (e := (7, 55, .int .i64 (rs.length : Int))) 7 rfl rfl (hon 7 (by kernel_rfl)) rfl
                have e51 : a.tmps[51]? = some (.bool true) := by rw [ha]; exact putSel_on (e := (3, 51, .bool true)) 3 rfl rfl (hon 3 (by kernel_rfl)) rfl
                replace ha := Aside0.mk ha
                have BB := Aside0.mk Q_BB
                refine goes_ Try.func15 (by kernel_rfl) rfl #[.int .i64 wh, .int .i64 (rs.length : Int)] (wanted_on rfl rfl rfl (e51.trans (by first | rfl | (simp [*]; done)))) rfl rfl (by first | (simp only [List.map_toArray, List.map_cons, List.map_nil, Act.eval, Array.getD_eq_getD_getElem?, Option.getD_some, e53, e55, e51]; done) | (simp only [List.map_toArray, List.map_cons, List.map_nil, Act.eval, Array.getD_eq_getD_getElem?, Option.getD_some, e53, e55, e51]; rfl)) ?_
                refine (PK.out w').mono ?_
                rintro e w1 ⟨rfl, hn⟩
                refine ⟨_, rfl, ?_⟩
                refine hK.out _ _ ⟨(by rw [ha.out]; exact putSel_upk 8 hb_ rfl rfl rfl), bl_seq BB.out hn.below⟩
              refine steps_cons ?_ ?_
              · rintro b a w' ⟨ha, Q_BB⟩ hb_ hon hoff
                refine ⟨_, rfl, fun K hK => ?_⟩
                have e52 : a.tmps[52]? = some (.int .i64 (j : Int)) := by rw [ha]; exact putSel_on (e := (4, 52, .int .i64 (j : Int))) 4 rfl rfl (hon 4 (by kernel_rfl)) rfl
                have e56 : a.tmps[56]? = some (.int .i64 (P : Int)) := by rw [ha]; exact putSel_on (e := (8, 56, .int .i64 (P : Int))) 8 rfl rfl (hon 8 (by kernel_rfl)) rfl
                have e51 : a.tmps[51]? = some (.bool true) := by rw [ha]; exact putSel_on (e := (3, 51, .bool true)) 3 rfl rfl (hon 3 (by kernel_rfl)) rfl
                replace ha := Aside0.mk ha
                have BB := Aside0.mk Q_BB
                refine value_ (w1 := w') (v := .bool true) (wanted_on rfl rfl rfl (e51.trans (by first | rfl | (simp [*]; done)))) rfl ?_ ?_
                · go_simp
                  (try simp only [i64_w])
                  try rfl
                refine hK.out _ _ ⟨(by rw [ha.out]; exact putSel_upk 9 hb_ rfl rfl rfl), Q_BB⟩
              refine steps_cons ?_ ?_
              · rintro b a w' ⟨ha, Q_BB⟩ hb_ hon hoff
                refine ⟨_, rfl, fun K hK => ?_⟩
                have e51 : a.tmps[51]? = some (.bool true) := by rw [ha]; exact putSel_on (e := (3, 51, .bool true)) 3 rfl rfl (hon 3 (by kernel_rfl)) rfl
                have e57 : a.tmps[57]? = some (.bool true) := by rw [ha]; exact putSel_on (e := (9, 57, .bool true)) 9 rfl rfl (hon 9 (by kernel_rfl)) rfl
                replace ha := Aside0.mk ha
                have BB := Aside0.mk Q_BB
                refine value_ (w1 := w') (v := .bool true) (by rfl) rfl ?_ ?_
                · go_simp
                  (try simp only [i64_w])
                  try rfl
                refine hK.out _ _ ⟨(by rw [ha.out]; exact putSel_upk 10 hb_ rfl rfl rfl), Q_BB⟩
              refine steps_cons ?_ ?_
              · rintro b a w' ⟨ha, Q_BB⟩ hb_ hon hoff
                refine ⟨_, rfl, fun K hK => ?_⟩
                have e58 : a.tmps[58]? = some (.bool true) := by rw [ha]; exact putSel_on (e := (10, 58, .bool true)) 10 rfl rfl (hon 10 (by kernel_rfl)) rfl
                replace ha := Aside0.mk ha
                have BB := Aside0.mk Q_BB
                refine value_ (w1 := w') (v := .bool true) (by rfl) rfl ?_ ?_
                · go_simp
                  (try simp only [i64_w])
                  try rfl
                refine hK.out _ _ ⟨(by rw [ha.out]; exact putSel_upk 11 hb_ rfl rfl rfl), Q_BB⟩
              refine steps_cons ?_ ?_
              · rintro b a w' ⟨ha, Q_BB⟩ hb_ hon hoff
                refine ⟨_, rfl, fun K hK => ?_⟩
                have e8 : a.tmps[8]? = some (.int .i64 (r0.l.length : Int)) := by rw [ha]; exact (putSel_off rfl).trans rfl
                have e59 : a.tmps[59]? = some (.bool true) := by rw [ha]; exact putSel_on (e := (11, 59, .bool true)) 11 rfl rfl (hon 11 (by kernel_rfl)) rfl
                replace ha := Aside0.mk ha
                have BB := Aside0.mk Q_BB
                refine value_ (w1 := w') (v := .int .i64 (r0.l.length : Int)) (wanted_on rfl rfl rfl (e59.trans (by first | rfl | (simp [*]; done)))) rfl ?_ ?_
                · go_simp
                  (try simp only [i64_w])
                  try rfl
                refine hK.out _ _ ⟨(by rw [ha.out]; exact putSel_upk 12 hb_ rfl rfl rfl), Q_BB⟩
              refine steps_cons ?_ ?_
              · rintro b a w' ⟨ha, Q_BB⟩ hb_ hon hoff
                refine ⟨_, rfl, fun K hK => ?_⟩
                have e60 : a.tmps[60]? = some (.int .i64 (r0.l.length : Int)) := by rw [ha]; exact putSel_on (e := (12, 60, .int .i64 (r0.l.length : Int))) 12 rfl rfl (hon 12 (by kernel_rfl)) rfl
                have e59 : a.tmps[59]? = some (.bool true) := by rw [ha]; exact putSel_on (e := (11, 59, .bool true)) 11 rfl rfl (hon 11 (by kernel_rfl)) rfl
                replace ha := Aside0.mk ha
                have BB := Aside0.mk Q_BB
                refine value_ (w1 := w') (v := .bool false) (wanted_on rfl rfl rfl (e59.trans (by first | rfl | (simp [*]; done)))) rfl ?_ ?_
                · go_simp
                  (try simp only [i64_w])
                  try rfl
                refine hK.out _ _ ⟨(by rw [ha.out]; exact putSel_upk 13 hb_ rfl rfl rfl), Q_BB⟩
              refine steps_cons ?_ ?_
              · rintro b a w' ⟨ha, Q_BB⟩ hb_ hon hoff
                refine ⟨_, rfl, fun K hK => ?_⟩
                have e59 : a.tmps[59]? = some (.bool true) := by rw [ha]; exact putSel_on (e := (11, 59, .bool true)) 11 rfl rfl (hon 11 (by kernel_rfl)) rfl
                have e61 : a.tmps[61]? = some (.bool false) := by rw [ha]; exact putSel_on (e := (13, 61, .bool false)) 13 rfl rfl (hon 13 (by kernel_rfl)) rfl
                replace ha := Aside0.mk ha
                have BB := Aside0.mk Q_BB
                refine value_ (w1 := w') (v := .bool false) (by rfl) rfl ?_ ?_
                · go_simp
                  (try simp only [i64_w])
                  try rfl
                refine hK.out _ _ ⟨(by rw [ha.out]; exact putSel_upk 14 hb_ rfl rfl rfl), Q_BB⟩
              refine steps_cons ?_ ?_
              · rintro b a w' ⟨ha, Q_BB⟩ hb_ hon hoff
                refine ⟨_, rfl, fun K hK => ?_⟩
                have e62 : a.tmps[62]? = some (.bool false) := by rw [ha]; exact putSel_on (e := (14, 62, .bool false)) 14 rfl rfl (hon 14 (by kernel_rfl)) rfl
                replace ha := Aside0.mk ha
                have BB := Aside0.mk Q_BB
                refine value_ (w1 := w') (v := .bool false) (by rfl) rfl ?_ ?_
                · go_simp
                  (try simp only [i64_w])
                  try rfl
                refine hK.out _ _ ⟨(by rw [ha.out]; exact putSel_upk 15 hb_ rfl rfl rfl), Q_BB⟩
              refine steps_cons ?_ ?_
              · rintro b a w' ⟨ha, Q_BB⟩ hb_ hon hoff
                refine ⟨_, rfl, fun K hK => ?_⟩
                have e63 : a.tmps[63]? = some (.bool false) := by rw [ha]; exact putSel_on (e := (15, 63, .bool false)) 15 rfl rfl (hon 15 (by kernel_rfl)) rfl
                replace ha := Aside0.mk ha
                have BB := Aside0.mk Q_BB
                refine off_ (wanted_off rfl rfl rfl (e63.trans (by first | rfl | (simp [*]; done)))) ?_
                refine hK.out _ _ ⟨(by rw [ha.out]; exact putSel_upk 16 hb_ rfl rfl rfl), Q_BB⟩
              refine steps_cons ?_ ?_
              · rintro b a w' ⟨ha, Q_BB⟩ hb_ hon hoff
                refine ⟨_, rfl, fun K hK => ?_⟩
                have e63 : a.tmps[63]? = some (.bool false) := by rw [ha]; exact putSel_on (e := (15, 63, .bool false)) 15 rfl rfl (hon 15 (by kernel_rfl)) rfl
                replace ha := Aside0.mk ha
                have BB := Aside0.mk Q_BB
                refine off_ (wanted_off rfl rfl rfl (e63.trans (by first | rfl | (simp [*]; done)))) ?_
                refine hK.out _ _ ⟨(by rw [ha.out]; exact putSel_upk 17 hb_ rfl rfl rfl), Q_BB⟩
              refine steps_cons ?_ ?_
              · rintro b a w' ⟨ha, Q_BB⟩ hb_ hon hoff
                refine ⟨_, rfl, fun K hK => ?_⟩
                have e63 : a.tmps[63]? = some (.bool false) := by rw [ha]; exact putSel_on (e := (15, 63, .bool false)) 15 rfl rfl (hon 15 (by kernel_rfl)) rfl
                have e65 : a.tmps[65]? = some (undef) := by rw [ha]; exact putSel_on (e := (17, 65, undef)) 17 rfl rfl (hon 17 (by kernel_rfl)) rfl
                replace ha := Aside0.mk ha
                have BB := Aside0.mk Q_BB
                refine value_ (w1 := w') (v := .bool false) (by rfl) rfl ?_ ?_
                · go_simp
                  (try simp only [i64_w])
                  try rfl
                refine hK.out _ _ ⟨(by rw [ha.out]; exact putSel_upk 18 hb_ rfl rfl rfl), Q_BB⟩
              exact steps_nil
            · rintro b a w' hall ⟨ha, Q_BB⟩
              clear BB
              have hb0_ := hall 0 (by kernel_rfl)
              have hb1_ := hall 1 (by kernel_rfl)
              have hb2_ := hall 2 (by kernel_rfl)
              have hb3_ := hall 3 (by kernel_rfl)
              have hb4_ := hall 4 (by kernel_rfl)
              have hb5_ := hall 5 (by kernel_rfl)
              have hb6_ := hall 6 (by kernel_rfl)
              have hb7_ := hall 7 (by kernel_rfl)
              have hb8_ := hall 8 (by kernel_rfl)
              have hb9_ := hall 9 (by kernel_rfl)
              have hb10_ := hall 10 (by kernel_rfl)
              have hb11_ := hall 11 (by kernel_rfl)
              have hb12_ := hall 12 (by kernel_rfl)
              have hb13_ := hall 13 (by kernel_rfl)
              have hb14_ := hall 14 (by kernel_rfl)
              have hb15_ := hall 15 (by kernel_rfl)
              have hb16_ := hall 16 (by kernel_rfl)
              have hb17_ := hall 17 (by kernel_rfl)
              have hb18_ := hall 18 (by kernel_rfl)
              subst ha
              simp only [putSel, hb0_, hb1_, hb2_, hb3_, hb4_, hb5_, hb6_, hb7_, hb8_, hb9_, hb10_, hb11_, hb12_, hb13_, hb14_, hb15_, hb16_, hb17_, hb18_, if_true, Act.put, List.setIfInBounds_toArray, List.set_cons_zero, List.set_cons_succ]
              have BB := Aside0.mk Q_BB
              clear Q_BB
              clear hall hb0_ hb1_ hb2_ hb3_ hb4_ hb5_ hb6_ hb7_ hb8_ hb9_ hb10_ hb11_ hb12_ hb13_ hb14_ hb15_ hb16_ hb17_ hb18_
              have G6 := Lib.hid (Gz.out.below BB.out)
              have P6 := Lib.hid (pw_own_below Pz.out BB.out)
              clear Gz Pz Cz BB
              obtain ⟨w6, hw6⟩ : ∃ w6, w6 = w' := ⟨_, rfl⟩
              rw [← hw6] at G6 P6 ⊢
              clear hw6
              have zn : w6.cell? ⟨qn, 0, none⟩ = some (.int .i64 (j : Int)) := (blk_cell G6.out.2.2.2 0).trans rfl
              have zf := blk_frozen G6.out.2.2.2 0
              have ew2 : wrap64 ((j : Int) + 1) = (j : Int) + 1 := by unfold wrap64; omega
              go_wp2_with fail
              go_roundw
              case rel => exact ⟨j + 1, k + 4 + 4 + r0.l.length, by omega, HF.out.2.2.2.1.symm, Lib.hid (G6.out.next dn dq)⟩
              case measure => rw [leftN_at (G6.out.next dn dq).2.2.2, HM0.out]; omega
        · have bj : ((j : Int) == (P : Int)) = false := by simp; omega
          have HJP := Lib.hid hjP
          clear hjP
          refine start_ (n := 19) (S := fun w' => True) (ds := []) #[false, false, false, false, false, false, false, false, false, false, false, false, false, false, false, false, false, false, false] (by kernel_rfl) rfl rfl trivial (fun hHeld => ?_)
          refine with_tabW TpcR.tab4 TpcR.bits4 (fun HT_ HW_ => ?_)
          have Gz := Lib.hid (G5.out.below (bl_drew (Below.refl _ _)))
          have Pz := Lib.hid (show w5.drew.ownsRow _ _ _ _ _ _ from P5.out)
          generalize w5.drew = wz at Gz Pz hHeld ⊢
          have Cz := Lib.hid (HC.out wz Gz.out.2.1)
          have BB := Lib.hid (Below.refl wz.heap.size wz)
          refine inv_at [0, 1, 2, 3, 4, 5, 6, 7, 8, 9, 10, 11, 12, 13, 14, 15, 16, 17, 18] (fun a0_ b a w' => a = putSel a0_ b [(0, 48, .slice (some ad) rs.length cP), (1, 49, .int .i64 (rs.length : Int)), (2, 50, .bool true), (3, 51, .bool true), (4, 52, .int .i64 (j : Int)), (5, 53, .int .i64 wh), (6, 54, .slice (some ad) rs.length cP), (7, 55, .int .i64 (rs.length : Int)), (8, 56, .int .i64 (P : Int)), (9, 57, .bool false), (10, 58, .bool false), (11, 59, .bool false), (12, 60, undef), (13, 61, undef), (14, 62, .bool false), (15, 63, .bool false), (16, 64, undef), (17, 65, undef), (18, 66, .bool false)] ∧ (Below wz.heap.size wz w')) HT_.out HW_.out (by kernel_rfl) (by kernel_rfl) ?_ ?_ ?_
          · exact ⟨by simp only [putSel, Bool.false_eq_true, if_false], BB.out⟩
          · skip
            clear BB
            refine steps_cons ?_ ?_
            · rintro b a w' ⟨ha, Q_BB⟩ hb_ hon hoff
              refine ⟨_, rfl, fun K hK => ?_⟩
              have e3 : a.tmps[3]? = some (.pointer (some ⟨qp, 0, none⟩)) := by rw [ha]; exact (putSel_off rfl).trans rfl
              replace ha := Aside0.mk ha
              have BB := Aside0.mk Q_BB
              have hc_qp : w'.cell? ⟨qp, 0, none⟩ = some (.slice (some ad) rs.length cP) := (blk_cell (blk_below Cz.out.1 BB.out) 0).trans rfl
              refine value_ (w1 := w') (v := .slice (some ad) rs.length cP) (by rfl) rfl ?_ ?_
              · go_simp
                (try simp only [i64_w])
                try rfl
              refine hK.out _ _ ⟨(by rw [ha.out]; exact putSel_upk 0 hb_ rfl rfl rfl), Q_BB⟩
            refine steps_cons ?_ ?_
            · rintro b a w' ⟨ha, Q_BB⟩ hb_ hon hoff
              refine ⟨_, rfl, fun K hK => ?_⟩
              have e48 : a.tmps[48]? = some (.slice (some ad) rs.length cP) := by rw [ha]; exact putSel_on (e := (0, 48, .slice (some ad) rs.length cP)) 0 rfl rfl (hon 0 (by kernel_rfl)) rfl
              replace ha := Aside0.mk ha
              have BB := Aside0.mk Q_BB
              refine value_ (w1 := w') (v := .int .i64 (rs.length : Int)) (by rfl) rfl ?_ ?_
              · go_simp
                (try simp only [i64_w])
                try rfl
              refine hK.out _ _ ⟨(by rw [ha.out]; exact putSel_upk 1 hb_ rfl rfl rfl), Q_BB⟩
            refine steps_cons ?_ ?_
            · rintro b a w' ⟨ha, Q_BB⟩ hb_ hon hoff
              refine ⟨_, rfl, fun K hK => ?_⟩
              have e49 : a.tmps[49]? = some (.int .i64 (rs.length : Int)) := by rw [ha]; exact putSel_on (e := (1, 49, .int .i64 (rs.length : Int))) 1 rfl rfl (hon 1 (by kernel_rfl)) rfl
              replace ha := Aside0.mk ha
              have BB := Aside0.mk Q_BB
              refine value_ (w1 := w') (v := .bool true) (by rfl) rfl ?_ ?_
              · go_simp
                (try simp only [i64_w])
                try rfl
              refine hK.out _ _ ⟨(by rw [ha.out]; exact putSel_upk 2 hb_ rfl rfl rfl), Q_BB⟩
            refine steps_cons ?_ ?_
            · rintro b a w' ⟨ha, Q_BB⟩ hb_ hon hoff
              refine ⟨_, rfl, fun K hK => ?_⟩
              have e50 : a.tmps[50]? = some (.bool true) := by rw [ha]; exact putSel_on (e := (2, 50, .bool true)) 2 rfl rfl (hon 2 (by kernel_rfl)) rfl
              replace ha := Aside0.mk ha
              have BB := Aside0.mk Q_BB
              refine value_ (w1 := w') (v := .bool true) (by rfl) rfl ?_ ?_
              · go_simp
                (try simp only [i64_w])
                try rfl
              refine hK.out _ _ ⟨(by rw [ha.out]; exact putSel_upk 3 hb_ rfl rfl rfl), Q_BB⟩
            refine steps_cons ?_ ?_
            · rintro b a w' ⟨ha, Q_BB⟩ hb_ hon hoff
              refine ⟨_, rfl, fun K hK => ?_⟩
              have e2 : a.tmps[2]? = some (.pointer (some ⟨qn, 0, none⟩)) := by rw [ha]; exact (putSel_off rfl).trans rfl
              have e51 : a.tmps[51]? = some (.bool true) := by rw [ha]; exact putSel_on (e := (3, 51, .bool true)) 3 rfl rfl (hon 3 (by kernel_rfl)) rfl
              replace ha := Aside0.mk ha
              have BB := Aside0.mk Q_BB
              have hc_qn : w'.cell? ⟨qn, 0, none⟩ = some (.int .i64 (j : Int)) := (blk_cell (blk_below Gz.out.2.2.2 BB.out) 0).trans rfl
              refine value_ (w1 := w') (v := .int .i64 (j : Int)) (wanted_on rfl rfl rfl (e51.trans (by first | rfl | (simp [*]; done)))) rfl ?_ ?_
              · go_simp
                (try simp only [i64_w])
                try rfl
              refine hK.out _ _ ⟨(by rw [ha.out]; exact putSel_upk 4 hb_ rfl rfl rfl), Q_BB⟩
            refine steps_cons ?_ ?_
            · rintro b a w' ⟨ha, Q_BB⟩ hb_ hon hoff
              refine ⟨_, rfl, fun K hK => ?_⟩
              have e4 : a.tmps[4]? = some (.pointer (some ⟨qw, 0, none⟩)) := by rw [ha]; exact (putSel_off rfl).trans rfl
              have e51 : a.tmps[51]? = some (.bool true) := by rw [ha]; exact putSel_on (e := (3, 51, .bool true)) 3 rfl rfl (hon 3 (by kernel_rfl)) rfl
              replace ha := Aside0.mk ha
              have BB := Aside0.mk Q_BB
              have hc_qw : w'.cell? ⟨qw, 0, none⟩ = some (.int .i64 wh) := (blk_cell (blk_below Cz.out.2.1 BB.out) 0).trans rfl
              refine value_ (w1 := w') (v := .int .i64 wh) (wanted_on rfl rfl rfl (e51.trans (by first | rfl | (simp [*]; done)))) rfl ?_ ?_
              · go_simp
                (try simp only [i64_w])
                try rfl
              refine hK.out _ _ ⟨(by rw [ha.out]; exact putSel_upk 5 hb_ rfl rfl rfl), Q_BB⟩
            refine steps_cons ?_ ?_
            · rintro b a w' ⟨ha, Q_BB⟩ hb_ hon hoff
              refine ⟨_, rfl, fun K hK => ?_⟩
              have e3 : a.tmps[3]? = some (.pointer (some ⟨qp, 0, none⟩)) := by rw [ha]; exact (putSel_off rfl).trans rfl
              have e51 : a.tmps[51]? = some (.bool true) := by rw [ha]; exact putSel_on (e := (3, 51, .bool true)) 3 rfl rfl (hon 3 (by kernel_rfl)) rfl
              replace ha := Aside0.mk ha
              have BB := Aside0.mk Q_BB
              have hc_qp : w'.cell? ⟨qp, 0, none⟩ = some (.slice (some ad) rs.length cP) := (blk_cell (blk_below Cz.out.1 BB.out) 0).trans rfl
              refine value_ (w1 := w') (v := .slice (some ad) rs.length cP) (wanted_on rfl rfl rfl (e51.trans (by first | rfl | (simp [*]; done)))) rfl ?_ ?_
              · go_simp
                (try simp only [i64_w])
                try rfl
              refine hK.out _ _ ⟨(by rw [ha.out]; exact putSel_upk 6 hb_ rfl rfl rfl), Q_BB⟩
            refine steps_cons ?_ ?_
            · rintro b a w' ⟨ha, Q_BB⟩ hb_ hon hoff
              refine ⟨_, rfl, fun K hK => ?_⟩
              have e54 : a.tmps[54]? = some (.slice (some ad) rs.length cP) := by rw [ha]; exact putSel_on (e := (6, 54, .slice (some ad) rs.length cP)) 6 rfl rfl (hon 6 (by kernel_rfl)) rfl
              have e51 : a.tmps[51]? = some (.bool true) := by rw [ha]; exact putSel_on (e := (3, 51, .bool true)) 3 rfl rfl (hon 3 (by kernel_rfl)) rfl
              replace ha := Aside0.mk ha
              have BB := Aside0.mk Q_BB
              refine value_ (w1 := w') (v := .int .i64 (rs.length : Int)) (wanted_on rfl rfl rfl (e51.trans (by first | rfl | (simp [*]; done)))) rfl ?_ ?_
              · go_simp
                (try simp only [i64_w])
                try rfl
              refine hK.out _ _ ⟨(by rw [ha.out]; exact putSel_upk 7 hb_ rfl rfl rfl), Q_BB⟩
            refine steps_cons ?_ ?_
            · rintro b a w' ⟨ha, Q_BB⟩ hb_ hon hoff
              refine ⟨_, rfl, fun K hK => ?_⟩
              have e53 : a.tmps[53]? = some (.int .i64 wh) := by rw [ha]; exact putSel_on (e := (5, 53, .int .i64 wh)) 5 rfl rfl (hon 5 (by kernel_rfl)) rfl
              have e55 : a.tmps[55]? = some (.int .i64 (rs.length : Int)) := by rw [ha]; exact putSel_on (e := (7, 55, .int .i64 (rs.length : Int))) 7 rfl rfl (hon 7 (by kernel_rfl)) rfl
              have e51 : a.tmps[51]? = some (.bool true) := by rw [ha]; exact putSel_on (e := (3, 51, .bool true)) 3 rfl rfl (hon 3 (by kernel_rfl)) rfl
              replace ha := Aside0.mk ha
              have BB := Aside0.mk Q_BB
              refine goes_ Try.func15 (by kernel_rfl) rfl #[.int .i64 wh, .int .i64 (rs.length : Int)] (wanted_on rfl rfl rfl (e51.trans (by first | rfl | (simp [*]; done)))) rfl rfl (by first | (simp only [List.map_toArray, List.map_cons, List.map_nil, Act.eval, Array.getD_eq_getD_getElem?, Option.getD_some, e53, e55, e51]; done) | (simp only [List.map_toArray, List.map_cons, List.map_nil, Act.eval, Array.getD_eq_getD_getElem?, Option.getD_some, e53, e55, e51]; rfl)) ?_
              refine (PK.out w').mono ?_
              rintro e w1 ⟨rfl, hn⟩
              refine ⟨_, rfl, ?_⟩
              refine hK.out _ _ ⟨(by rw [ha.out]; exact putSel_upk 8 hb_ rfl rfl rfl), bl_seq BB.out hn.below⟩
            refine steps_cons ?_ ?_
            · rintro b a w' ⟨ha, Q_BB⟩ hb_ hon hoff
              refine ⟨_, rfl, fun K hK => ?_⟩
              have e52 : a.tmps[52]? = some (.int .i64 (j : Int)) := by rw [ha]; exact putSel_on (e := (4, 52, .int .i64 (j : Int))) 4 rfl rfl (hon 4 (by kernel_rfl)) rfl
              have e56 : a.tmps[56]? = some (.int .i64 (P : Int)) := by rw [ha]; exact putSel_on (e := (8, 56, .int .i64 (P : Int))) 8 rfl rfl (hon 8 (by kernel_rfl)) rfl
              have e51 : a.tmps[51]? = some (.bool true) := by rw [ha]; exact putSel_on (e := (3, 51, .bool true)) 3 rfl rfl (hon 3 (by kernel_rfl)) rfl
              replace ha := Aside0.mk ha
              have BB := Aside0.mk Q_BB
              refine value_ (w1 := w') (v := .bool false) (wanted_on rfl rfl rfl (e51.trans (by first | rfl | (simp [*]; done)))) rfl ?_ ?_
              · go_simp
                (try simp only [i64_w])
                try rfl
              refine hK.out _ _ ⟨(by rw [ha.out]; exact putSel_upk 9 hb_ rfl rfl rfl), Q_BB⟩
            refine steps_cons ?_ ?_
            · rintro b a w' ⟨ha, Q_BB⟩ hb_ hon hoff
              refine ⟨_, rfl, fun K hK => ?_⟩
              have e51 : a.tmps[51]? = some (.bool true) := by rw [ha]; exact putSel_on (e := (3, 51, .bool true)) 3 rfl rfl (hon 3 (by kernel_rfl)) rfl
              have e57 : a.tmps[57]? = some (.bool false) := by rw [ha]; exact putSel_on (e := (9, 57, .bool false)) 9 rfl rfl (hon 9 (by kernel_rfl)) rfl
              replace ha := Aside0.mk ha
              have BB := Aside0.mk Q_BB
              refine value_ (w1 := w') (v := .bool false) (by rfl) rfl ?_ ?_
              · go_simp
                (try simp only [i64_w])
                try rfl
              refine hK.out _ _ ⟨(by rw [ha.out]; exact putSel_upk 10 hb_ rfl rfl rfl), Q_BB⟩
            refine steps_cons ?_ ?_
            · rintro b a w' ⟨ha, Q_BB⟩ hb_ hon hoff
              refine ⟨_, rfl, fun K hK => ?_⟩
              have e58 : a.tmps[58]? = some (.bool false) := by rw [ha]; exact putSel_on (e := (10, 58, .bool false)) 10 rfl rfl (hon 10 (by kernel_rfl)) rfl
              replace ha := Aside0.mk ha
              have BB := Aside0.mk Q_BB
              refine value_ (w1 := w') (v := .bool false) (by rfl) rfl ?_ ?_
              · go_simp
                (try simp only [i64_w])
                try rfl
              refine hK.out _ _ ⟨(by rw [ha.out]; exact putSel_upk 11 hb_ rfl rfl rfl), Q_BB⟩
            refine steps_cons ?_ ?_
            · rintro b a w' ⟨ha, Q_BB⟩ hb_ hon hoff
              refine ⟨_, rfl, fun K hK => ?_⟩
              have e59 : a.tmps[59]? = some (.bool false) := by rw [ha]; exact putSel_on (e := (11, 59, .bool false)) 11 rfl rfl (hon 11 (by kernel_rfl)) rfl
              replace ha := Aside0.mk ha
              have BB := Aside0.mk Q_BB
              refine off_ (wanted_off rfl rfl rfl (e59.trans (by first | rfl | (simp [*]; done)))) ?_
              refine hK.out _ _ ⟨(by rw [ha.out]; exact putSel_upk 12 hb_ rfl rfl rfl), Q_BB⟩
            refine steps_cons ?_ ?_
            · rintro b a w' ⟨ha, Q_BB⟩ hb_ hon hoff
              refine ⟨_, rfl, fun K hK => ?_⟩
              have e59 : a.tmps[59]? = some (.bool false) := by rw [ha]; exact putSel_on (e := (11, 59, .bool false)) 11 rfl rfl (hon 11 (by kernel_rfl)) rfl
              replace ha := Aside0.mk ha
              have BB := Aside0.mk Q_BB
              refine off_ (wanted_off rfl rfl rfl (e59.trans (by first | rfl | (simp [*]; done)))) ?_
              refine hK.out _ _ ⟨(by rw [ha.out]; exact putSel_upk 13 hb_ rfl rfl rfl), Q_BB⟩
            refine steps_cons ?_ ?_
            · rintro b a w' ⟨ha, Q_BB⟩ hb_ hon hoff
              refine ⟨_, rfl, fun K hK => ?_⟩
              have e59 : a.tmps[59]? = some (.bool false) := by rw [ha]; exact putSel_on (e := (11, 59, .bool false)) 11 rfl rfl (hon 11 (by kernel_rfl)) rfl
              have e61 : a.tmps[61]? = some (undef) := by rw [ha]; exact putSel_on (e := (13, 61, undef)) 13 rfl rfl (hon 13 (by kernel_rfl)) rfl
              replace ha := Aside0.mk ha
              have BB := Aside0.mk Q_BB
              refine value_ (w1 := w') (v := .bool false) (by rfl) rfl ?_ ?_
              · go_simp
                (try simp only [i64_w])
                try rfl
              refine hK.out _ _ ⟨(by rw [ha.out]; exact putSel_upk 14 hb_ rfl rfl rfl), Q_BB⟩
            refine steps_cons ?_ ?_
            · rintro b a w' ⟨ha, Q_BB⟩ hb_ hon hoff
              refine ⟨_, rfl, fun K hK => ?_⟩
              have e62 : a.tmps[62]? = some (.bool false) := by rw [ha]; exact putSel_on (e := (14, 62, .bool false)) 14 rfl rfl (hon 14 (by kernel_rfl)) rfl
              replace ha := Aside0.mk ha
              have BB := Aside0.mk Q_BB
              refine value_ (w1 := w') (v := .bool false) (by rfl) rfl ?_ ?_
              · go_simp
                (try simp only [i64_w])
                try rfl
              refine hK.out _ _ ⟨(by rw [ha.out]; exact putSel_upk 15 hb_ rfl rfl rfl), Q_BB⟩
            refine steps_cons ?_ ?_
            · rintro b a w' ⟨ha, Q_BB⟩ hb_ hon hoff
              refine ⟨_, rfl, fun K hK => ?_⟩
              have e63 : a.tmps[63]? = some (.bool false) := by rw [ha]; exact putSel_on (e := (15, 63, .bool false)) 15 rfl rfl (hon 15 (by kernel_rfl)) rfl
              replace ha := Aside0.mk ha
              have BB := Aside0.mk Q_BB
              refine off_ (wanted_off rfl rfl rfl (e63.trans (by first | rfl | (simp [*]; done)))) ?_
              refine hK.out _ _ ⟨(by rw [ha.out]; exact putSel_upk 16 hb_ rfl rfl rfl), Q_BB⟩
            refine steps_cons ?_ ?_
            · rintro b a w' ⟨ha, Q_BB⟩ hb_ hon hoff
              refine ⟨_, rfl, fun K hK => ?_⟩
              have e63 : a.tmps[63]? = some (.bool false) := by rw [ha]; exact putSel_on (e := (15, 63, .bool false)) 15 rfl rfl (hon 15 (by kernel_rfl)) rfl
              replace ha := Aside0.mk ha
              have BB := Aside0.mk Q_BB
              refine off_ (wanted_off rfl rfl rfl (e63.trans (by first | rfl | (simp [*]; done)))) ?_
              refine hK.out _ _ ⟨(by rw [ha.out]; exact putSel_upk 17 hb_ rfl rfl rfl), Q_BB⟩
            refine steps_cons ?_ ?_
            · rintro b a w' ⟨ha, Q_BB⟩ hb_ hon hoff
              refine ⟨_, rfl, fun K hK => ?_⟩
              have e63 : a.tmps[63]? = some (.bool false) := by rw [ha]; exact putSel_on (e := (15, 63, .bool false)) 15 rfl rfl (hon 15 (by kernel_rfl)) rfl
              have e65 : a.tmps[65]? = some (undef) := by rw [ha]; exact putSel_on (e := (17, 65, undef)) 17 rfl rfl (hon 17 (by kernel_rfl)) rfl
              replace ha := Aside0.mk ha
              have BB := Aside0.mk Q_BB
              refine value_ (w1 := w') (v := .bool false) (by rfl) rfl ?_ ?_
              · go_simp
                (try simp only [i64_w])
                try rfl
              refine hK.out _ _ ⟨(by rw [ha.out]; exact putSel_upk 18 hb_ rfl rfl rfl), Q_BB⟩
            exact steps_nil
          · rintro b a w' hall ⟨ha, Q_BB⟩
            clear BB
            have hb0_ := hall 0 (by kernel_rfl)
            have hb1_ := hall 1 (by kernel_rfl)
            have hb2_ := hall 2 (by kernel_rfl)
            have hb3_ := hall 3 (by kernel_rfl)
            have hb4_ := hall 4 (by kernel_rfl)
            have hb5_ := hall 5 (by kernel_rfl)
            have hb6_ := hall 6 (by kernel_rfl)
            have hb7_ := hall 7 (by kernel_rfl)
            have hb8_ := hall 8 (by kernel_rfl)
            have hb9_ := hall 9 (by kernel_rfl)
            have hb10_ := hall 10 (by kernel_rfl)
            have hb11_ := hall 11 (by kernel_rfl)
            have hb12_ := hall 12 (by kernel_rfl)
            have hb13_ := hall 13 (by kernel_rfl)
            have hb14_ := hall 14 (by kernel_rfl)
            have hb15_ := hall 15 (by kernel_rfl)
            have hb16_ := hall 16 (by kernel_rfl)
            have hb17_ := hall 17 (by kernel_rfl)
            have hb18_ := hall 18 (by kernel_rfl)
            subst ha
            simp only [putSel, hb0_, hb1_, hb2_, hb3_, hb4_, hb5_, hb6_, hb7_, hb8_, hb9_, hb10_, hb11_, hb12_, hb13_, hb14_, hb15_, hb16_, hb17_, hb18_, if_true, Act.put, List.setIfInBounds_toArray, List.set_cons_zero, List.set_cons_succ]
            have BB := Aside0.mk Q_BB
            clear Q_BB
            clear hall hb0_ hb1_ hb2_ hb3_ hb4_ hb5_ hb6_ hb7_ hb8_ hb9_ hb10_ hb11_ hb12_ hb13_ hb14_ hb15_ hb16_ hb17_ hb18_
            have G6 := Lib.hid (Gz.out.below BB.out)
            have P6 := Lib.hid (pw_own_below Pz.out BB.out)
            clear Gz Pz Cz BB
            obtain ⟨w6, hw6⟩ : ∃ w6, w6 = w' := ⟨_, rfl⟩
            rw [← hw6] at G6 P6 ⊢
            clear hw6
            have zn : w6.cell? ⟨qn, 0, none⟩ = some (.int .i64 (j : Int)) := (blk_cell G6.out.2.2.2 0).trans rfl
            have zf := blk_frozen G6.out.2.2.2 0
            have ew2 : wrap64 ((j : Int) + 1) = (j : Int) + 1 := by unfold wrap64; omega
            go_wp2_with fail
            go_roundw
            case rel => exact ⟨j + 1, k + 4 + 4 + r0.l.length, by omega, HF.out.2.2.2.1.symm, Lib.hid (G6.out.next dn dq)⟩
            case measure => rw [leftN_at (G6.out.next dn dq).2.2.2, HM0.out]; omega
    · have hjr : j = rs.length := by omega
      subst hjr
      have hkm : k = m := by rw [hk, List.take_of_length_le (by omega), hL0]
      subst hkm
      have hcr := HC.out wr G.out.2.1
      go_wp2_with fail
      refine (mLeft p A k c k wr G.out.1 (Nat.le_refl _) (by omega)).mono ?_
      rintro e w1 ⟨rfl, q1, rfl⟩
      have G1 := Lib.hid (G.out.below (bl_drewN (Below.refl _ _) q1))
      rw [show ((k : Int) - (k : Int)) = 0 by omega]
      go_wp2_with fail
      go_end0
      exact ⟨rfl, k, G1.out⟩
end Go.Proofs.Ytffalemndjampaa
