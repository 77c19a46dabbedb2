/- What the proof of TopSealed leans on: Xr Xt Xu. -/
import Derived.Test.YtffalemndjampaaQaz
section
set_option linter.unusedVariables false
set_option linter.unusedSimpArgs false
namespace Go.Proofs.Ytffalemndjampaa
open Go.RowKit Go.Proofs.YtffalemndjampaaW.PrintWords Go.Proofs.YtffalemndjampaaW.PrintLast
def sub : List Nat → Option Code → Option Code
 | [], c => c
 | 0 :: r, some (.seq a _) => sub r (some a)
 | 1 :: r, some (.seq _ b) => sub r (some b)
 | 2 :: r, some (.loop b) => sub r (some b)
 | 2 :: r, some (.block _ b) => sub r (some b)
 | 3 :: r, some (.cond _ t _) => sub r (some t)
 | 4 :: r, some (.cond _ _ e) => sub r (some e)
 | _, _ => none
theorem from_path {x : Option Code} {c0 : Code} {R : Code → Prop} (h : x = some c0) (h2 : R c0) : ∀ c, x = some c → R c := fun c hc => by
 rw [h] at hc
 obtain rfl := Option.some.inj hc
 exact h2
def XdP.T36 : Bool × List (List Nat × List Nat) := (true, [([], []), ([], []), ([], []), ([2], [2]), ([3], [3]), ([4], [4]), ([], []), ([], []), ([], []), ([7, 8], [7, 8]), ([0, 1, 5, 6, 9, 9], [0, 1, 5, 6, 9]), ([10, 10, 0, 1, 2, 3, 4, 5, 6, 7, 8, 9, 10], [10])])
def XdP.B36 : List Nat := [0, 0, 0, 4, 12, 28, 0, 0, 0, 384, 1023, 2047]
theorem XdP.tab36 : rtab .any (opsOf Try.f4 36) = XdP.T36 := by kernel_rfl
theorem XdP.bits36 : waitsOk XdP.T36.2 XdP.B36 = true := by kernel_rfl
def XdQ.T38 : Bool × List (List Nat × List Nat) := (true, [([], []), ([], []), ([1], [1]), ([2], [2]), ([], []), ([4], [4]), ([3, 5], [3, 5]), ([0, 0, 1, 2, 3, 4, 5, 6], [0]), ([7, 6, 6, 0, 1, 2, 3, 4, 5, 6], [6, 7])])
def XdQ.B38 : List Nat := [0, 0, 2, 6, 0, 16, 62, 127, 255]
theorem XdQ.tab38 : rtab .any (opsOf Try.f4 38) = XdQ.T38 := by kernel_rfl
theorem XdQ.bits38 : waitsOk XdQ.T38.2 XdQ.B38 = true := by kernel_rfl
set_option maxHeartbeats 16000000 in
set_option maxRecDepth 100000 in
theorem reg36 {Q : Exit → Act → World → Prop} (a0 : Act) (ar : Ar) (vp gh gl vb nb gd k c9 : Nat) (A9 : Option Addr) (H : Nat → Prop) (s : St) (T : Tb) (held : Nat → List Hd) (hv : Nat → Value) (dd : List Int) (wT : World) (E0 : a0.tmps.size = 283) (E15 : a0.tmps[15]? = some (.pointer (some ⟨vp, 0, none⟩))) (E20 : a0.tmps[20]? = some (.int .i64 (vb : Int))) (E16 : a0.tmps[16]? = some (.pointer (some ⟨gh, 0, none⟩))) (E21 : a0.tmps[21]? = some (.slice (some ⟨gd, 0, none⟩) 256 256)) (E18 : a0.tmps[18]? = some (.pointer (some ⟨gl, 0, none⟩)))
  (HT : Hid (RowSt wT ar vp gh gl (gh + 2) H s T held hv (datH k vb nb))) (HDT : Hid (ReadsInt wT .u8 (some ⟨gd, 0, none⟩) 256 dd)) (zbT : wT.cell? ⟨gh, vb, none⟩ = some (.slice A9 nb c9)) (HOK : Hid (TbOk T)) (HGD : Hid ((∀ x, gd ≤ x → ¬ ar.M x) ∧ gd ≠ vp ∧ gd ≤ wT.heap.size)) (HDO : Hid ((datH k vb nb).ok ∧ Byt dd)) (hb6 : vb < 6) (hnb : nb < 6) (hs0 : 0 ≤ s.ops) (hs1 : s.ops + 100 ≤ 1000000) (hsq : T.seq + 1 < 4294967296)
  (hQ : ∀ (x4 y4 : Nat) (w' : World), Arr w' ar (okL ar vp H) (vprS ar s T vb nb (dd, sealL (datH k vb nb) dd [])).1 → VolR w' vp ar.p (okL ar vp H) (vprS ar s T vb nb (dd, sealL (datH k vb nb) dd [])).2.1 → Mods (fun k => ar.M k ∨ k = vp) wT w' → Q .normal ((((((((((((a0.put (some 180) (.pointer (some ⟨vp, 0, none⟩))).put (some 181) (.int .i64 (vb : Int))).put (some 182) (.int .i64 (vb : Int))).put (some 183) (.pointer (some ⟨gh, vb, none⟩))).put (some 184) (.slice A9 nb c9)).put (some 185) (.int .i64 (nb : Int))).put (some 186) (.slice (some ⟨gd, 0, none⟩) 256 256)).put (some 187) (.agg #[.int .u8 4, .int .u32 (k : Int), .int .u32 0, .int .u16 (nb : Int), .int .u16 0, .int .u32 (vb : Int), .int .u32 0])).put (some 188) (.slice (some ⟨gd, 0, none⟩) 256 256)).put (some 189) (.slice (some ⟨x4, 0, none⟩) 64 y4)).put (some 190) (.int .i64 (vprS ar s T vb nb (dd, sealL (datH k vb nb) dd [])).2.2)).put (some 9) (.int .i64 (vprS ar s T vb nb (dd, sealL (datH k vb nb) dd [])).2.2)) w') :
  ∀ c, sub [1, 1, 1, 1, 1, 1, 1, 1, 1, 1, 1, 1, 1, 0, 1, 2, 2, 1, 0, 2, 1, 1, 1, 1, 1, 1, 0] Try.f4.body = some c → Code.wp Try.prog c Q a0 wT := by
 refine from_path rfl ?_
 refine start_ (n := 12) (S := fun w' => True) (ds := []) _ (by kernel_rfl) rfl rfl trivial (fun hHeld => ?_)
 refine with_tabW XdP.tab36 XdP.bits36 (fun HT_ HW_ => ?_)
 have HTz := Lib.hid (HT.out.below (bl_drew (Below.refl _ _)))
 have HDz := Lib.hid (HDT.out.below (bl_drew (Below.refl _ _)))
 have HZB := Lib.hid (show wT.drew.cell? ⟨gh, vb, none⟩ = _ from zbT)
 have DZ := Lib.hid (show Below wT.heap.size wT wT.drew from bl_drew (Below.refl _ _))
 have HGZ := Lib.hid (show gd ≤ wT.drew.heap.size from HGD.out.2.2)
 generalize wT.drew = wz at HTz HDz HZB DZ HGZ hHeld ⊢
 have VB := Lib.hid (Below.refl wz.heap.size wz)
 refine inv_at [0, 1, 2, 3, 4, 5, 6, 7, 8, 9, 10, 11] (fun a0_ b a w' => ∃ (x4 : Nat) (y4 : Nat) (m9_ : Value), a = putSel a0_ b [(0, 180, .pointer (some ⟨vp, 0, none⟩)), (1, 181, .int .i64 (vb : Int)), (2, 182, .int .i64 (vb : Int)), (3, 183, .pointer (some ⟨gh, vb, none⟩)), (4, 184, .slice A9 nb c9), (5, 185, .int .i64 (nb : Int)), (6, 186, .slice (some ⟨gd, 0, none⟩) 256 256), (7, 187, .agg #[.int .u8 4, .int .u32 (k : Int), .int .u32 0, .int .u16 (nb : Int), .int .u16 0, .int .u32 (vb : Int), .int .u32 0]), (8, 188, .slice (some ⟨gd, 0, none⟩) 256 256), (9, 189, m9_), (10, 190, .int .i64 (vprS ar s T vb nb (dd, sealL (datH k vb nb) dd [])).2.2), (11, 9, .int .i64 (vprS ar s T vb nb (dd, sealL (datH k vb nb) dd [])).2.2)] ∧ (b 10 = false → Below wz.heap.size wz w') ∧ (b 9 = true → b 10 = false → wz.heap.size ≤ x4 ∧ 64 ≤ y4 ∧ ReadsInt w' .u8 (some ⟨x4, 0, none⟩) 64 (sealL (datH k vb nb) dd [])) ∧ (b 10 = true → Arr w' ar (okL ar vp H) (vprS ar s T vb nb (dd, sealL (datH k vb nb) dd [])).1 ∧ VolR w' vp ar.p (okL ar vp H) (vprS ar s T vb nb (dd, sealL (datH k vb nb) dd [])).2.1 ∧ Mods (fun k => ar.M k ∨ k = vp) wz w') ∧ (b 9 = true → (m9_ : Value) = .slice (some ⟨x4, 0, none⟩) 64 y4)) HT_.out HW_.out (by kernel_rfl) (by kernel_rfl) ?_ ?_ ?_
 ·exact ⟨0, 0, .bool false, by simp only [putSel, Bool.false_eq_true, if_false], fun _ => VB.out, fun h_ => absurd h_ (by decide), fun h_ => absurd h_ (by decide), fun h_ => absurd h_ (by decide)⟩
 ·skip
  clear VB
  refine steps_cons ?_ ?_
  ·rintro b a w' ⟨x4, y4, m9_, ha, Q_VB, Q_SL, Q_VQ, Q_X9_⟩ hb_ hon hoff
   refine ⟨_, rfl, fun K hK => ?_⟩
   have e15 : a.tmps[15]? = some (.pointer (some ⟨vp, 0, none⟩)) := by rw [ha]; exact (putSel_off rfl).trans E15
   replace ha := Aside0.mk ha
   have VB := Aside0.mk (Q_VB (hoff 10 (by kernel_rfl)))
   refine value_ (w1 := w') (v := .pointer (some ⟨vp, 0, none⟩)) (by rfl) rfl ?_ ?_
   ·go_simp
    (try simp only [i64_w])
    try rfl
   refine hK.out _ _ ⟨x4, y4, m9_, (ptup_ ha.out 0 hb_ rfl rfl rfl), Q_VB, Q_SL, off_ (hoff 10 (by kernel_rfl)), Q_X9_⟩
  refine steps_cons ?_ ?_
  ·rintro b a w' ⟨x4, y4, m9_, ha, Q_VB, Q_SL, Q_VQ, Q_X9_⟩ hb_ hon hoff
   refine ⟨_, rfl, fun K hK => ?_⟩
   have e20 : a.tmps[20]? = some (.int .i64 (vb : Int)) := by rw [ha]; exact (putSel_off rfl).trans E20
   replace ha := Aside0.mk ha
   have VB := Aside0.mk (Q_VB (hoff 10 (by kernel_rfl)))
   refine value_ (w1 := w') (v := .int .i64 (vb : Int)) (by rfl) rfl ?_ ?_
   ·go_simp
    (try simp only [i64_w])
    try rfl
   refine hK.out _ _ ⟨x4, y4, m9_, (ptup_ ha.out 1 hb_ rfl rfl rfl), Q_VB, Q_SL, off_ (hoff 10 (by kernel_rfl)), Q_X9_⟩
  refine steps_cons ?_ ?_
  ·rintro b a w' ⟨x4, y4, m9_, ha, Q_VB, Q_SL, Q_VQ, Q_X9_⟩ hb_ hon hoff
   refine ⟨_, rfl, fun K hK => ?_⟩
   have e20 : a.tmps[20]? = some (.int .i64 (vb : Int)) := by rw [ha]; exact (putSel_off rfl).trans E20
   replace ha := Aside0.mk ha
   have VB := Aside0.mk (Q_VB (hoff 10 (by kernel_rfl)))
   refine value_ (w1 := w') (v := .int .i64 (vb : Int)) (by rfl) rfl ?_ ?_
   ·go_simp
    (try simp only [i64_w])
    try rfl
   refine hK.out _ _ ⟨x4, y4, m9_, (ptup_ ha.out 2 hb_ rfl rfl rfl), Q_VB, Q_SL, off_ (hoff 10 (by kernel_rfl)), Q_X9_⟩
  refine steps_cons ?_ ?_
  ·rintro b a w' ⟨x4, y4, m9_, ha, Q_VB, Q_SL, Q_VQ, Q_X9_⟩ hb_ hon hoff
   refine ⟨_, rfl, fun K hK => ?_⟩
   have e16 : a.tmps[16]? = some (.pointer (some ⟨gh, 0, none⟩)) := by rw [ha]; exact (putSel_off rfl).trans E16
   have e182 : a.tmps[182]? = some (.int .i64 (vb : Int)) := by rw [ha]; exact putSel_on (e := (2, 182, .int .i64 (vb : Int))) 2 rfl rfl (hon 2 (by kernel_rfl)) (by rw [E0]; rfl)
   replace ha := Aside0.mk ha
   have VB := Aside0.mk (Q_VB (hoff 10 (by kernel_rfl)))
   have hbi_ : (vb : Int) < 6 := by omega
   refine value_ (w1 := w') (v := .pointer (some ⟨gh, vb, none⟩)) (by rfl) rfl ?_ ?_
   ·go_simp
    (try simp only [i64_w])
    try rfl
   refine hK.out _ _ ⟨x4, y4, m9_, (ptup_ ha.out 3 hb_ rfl rfl rfl), Q_VB, Q_SL, off_ (hoff 10 (by kernel_rfl)), Q_X9_⟩
  refine steps_cons ?_ ?_
  ·rintro b a w' ⟨x4, y4, m9_, ha, Q_VB, Q_SL, Q_VQ, Q_X9_⟩ hb_ hon hoff
   refine ⟨_, rfl, fun K hK => ?_⟩
   have e183 : a.tmps[183]? = some (.pointer (some ⟨gh, vb, none⟩)) := by rw [ha]; exact putSel_on (e := (3, 183, .pointer (some ⟨gh, vb, none⟩))) 3 rfl rfl (hon 3 (by kernel_rfl)) (by rw [E0]; rfl)
   replace ha := Aside0.mk ha
   have VB := Aside0.mk (Q_VB (hoff 10 (by kernel_rfl)))
   have hcb_ : w'.cell? ⟨gh, vb, none⟩ = some (.slice A9 nb c9) := pw_cell_below VB.out HZB.out
   refine value_ (w1 := w') (v := .slice A9 nb c9) (by rfl) rfl ?_ ?_
   ·go_simp
    (try simp only [i64_w])
    try rfl
   refine hK.out _ _ ⟨x4, y4, m9_, (ptup_ ha.out 4 hb_ rfl rfl rfl), Q_VB, Q_SL, off_ (hoff 10 (by kernel_rfl)), Q_X9_⟩
  refine steps_cons ?_ ?_
  ·rintro b a w' ⟨x4, y4, m9_, ha, Q_VB, Q_SL, Q_VQ, Q_X9_⟩ hb_ hon hoff
   refine ⟨_, rfl, fun K hK => ?_⟩
   have e184 : a.tmps[184]? = some (.slice A9 nb c9) := by rw [ha]; exact putSel_on (e := (4, 184, .slice A9 nb c9)) 4 rfl rfl (hon 4 (by kernel_rfl)) (by rw [E0]; rfl)
   replace ha := Aside0.mk ha
   have VB := Aside0.mk (Q_VB (hoff 10 (by kernel_rfl)))
   refine value_ (w1 := w') (v := .int .i64 (nb : Int)) (by rfl) rfl ?_ ?_
   ·go_simp
    (try simp only [i64_w])
    try rfl
   refine hK.out _ _ ⟨x4, y4, m9_, (ptup_ ha.out 5 hb_ rfl rfl rfl), Q_VB, Q_SL, off_ (hoff 10 (by kernel_rfl)), Q_X9_⟩
  refine steps_cons ?_ ?_
  ·rintro b a w' ⟨x4, y4, m9_, ha, Q_VB, Q_SL, Q_VQ, Q_X9_⟩ hb_ hon hoff
   refine ⟨_, rfl, fun K hK => ?_⟩
   have e21 : a.tmps[21]? = some (.slice (some ⟨gd, 0, none⟩) 256 256) := by rw [ha]; exact (putSel_off rfl).trans E21
   replace ha := Aside0.mk ha
   have VB := Aside0.mk (Q_VB (hoff 10 (by kernel_rfl)))
   refine value_ (w1 := w') (v := .slice (some ⟨gd, 0, none⟩) 256 256) (by rfl) rfl ?_ ?_
   ·go_simp
    (try simp only [i64_w])
    try rfl
   refine hK.out _ _ ⟨x4, y4, m9_, (ptup_ ha.out 6 hb_ rfl rfl rfl), Q_VB, Q_SL, off_ (hoff 10 (by kernel_rfl)), Q_X9_⟩
  refine steps_cons ?_ ?_
  ·rintro b a w' ⟨x4, y4, m9_, ha, Q_VB, Q_SL, Q_VQ, Q_X9_⟩ hb_ hon hoff
   refine ⟨_, rfl, fun K hK => ?_⟩
   have e18 : a.tmps[18]? = some (.pointer (some ⟨gl, 0, none⟩)) := by rw [ha]; exact (putSel_off rfl).trans E18
   replace ha := Aside0.mk ha
   have VB := Aside0.mk (Q_VB (hoff 10 (by kernel_rfl)))
   have lc0_ : w'.cell? ⟨gl, 0, none⟩ = some (.int .u8 4) := (blk_cell (HTz.out.below VB.out).cgl 0).trans rfl
   have lc1_ : w'.cell? ⟨gl, 1, none⟩ = some (.int .u32 (k : Int)) := (blk_cell (HTz.out.below VB.out).cgl 1).trans rfl
   have lc2_ : w'.cell? ⟨gl, 2, none⟩ = some (.int .u32 0) := (blk_cell (HTz.out.below VB.out).cgl 2).trans rfl
   have lc3_ : w'.cell? ⟨gl, 3, none⟩ = some (.int .u16 (nb : Int)) := (blk_cell (HTz.out.below VB.out).cgl 3).trans rfl
   have lc4_ : w'.cell? ⟨gl, 4, none⟩ = some (.int .u16 0) := (blk_cell (HTz.out.below VB.out).cgl 4).trans rfl
   have lc5_ : w'.cell? ⟨gl, 5, none⟩ = some (.int .u32 (vb : Int)) := (blk_cell (HTz.out.below VB.out).cgl 5).trans rfl
   have lc6_ : w'.cell? ⟨gl, 6, none⟩ = some (.int .u32 0) := (blk_cell (HTz.out.below VB.out).cgl 6).trans rfl
   refine value_ (w1 := w') (v := .agg #[.int .u8 4, .int .u32 (k : Int), .int .u32 0, .int .u16 (nb : Int), .int .u16 0, .int .u32 (vb : Int), .int .u32 0]) (by rfl) rfl ?_ ?_
   ·go_simp
    (try simp only [i64_w])
    try rfl
   refine hK.out _ _ ⟨x4, y4, m9_, (ptup_ ha.out 7 hb_ rfl rfl rfl), Q_VB, fun h0_ _ => off_ (hoff 9 (by kernel_rfl)) h0_, off_ (hoff 10 (by kernel_rfl)), off_ (hoff 9 (by kernel_rfl))⟩
  refine steps_cons ?_ ?_
  ·rintro b a w' ⟨x4, y4, m9_, ha, Q_VB, Q_SL, Q_VQ, Q_X9_⟩ hb_ hon hoff
   refine ⟨_, rfl, fun K hK => ?_⟩
   have e21 : a.tmps[21]? = some (.slice (some ⟨gd, 0, none⟩) 256 256) := by rw [ha]; exact (putSel_off rfl).trans E21
   replace ha := Aside0.mk ha
   have VB := Aside0.mk (Q_VB (hoff 10 (by kernel_rfl)))
   refine value_ (w1 := w') (v := .slice (some ⟨gd, 0, none⟩) 256 256) (by rfl) rfl ?_ ?_
   ·go_simp
    (try simp only [i64_w])
    try rfl
   refine hK.out _ _ ⟨x4, y4, m9_, (ptup_ ha.out 8 hb_ rfl rfl rfl), Q_VB, fun h0_ _ => off_ (hoff 9 (by kernel_rfl)) h0_, off_ (hoff 10 (by kernel_rfl)), off_ (hoff 9 (by kernel_rfl))⟩
  refine steps_cons ?_ ?_
  ·rintro b a w' ⟨x4, y4, m9_, ha, Q_VB, Q_SL, Q_VQ, Q_X9_⟩ hb_ hon hoff
   refine ⟨_, rfl, fun K hK => ?_⟩
   have e187 : a.tmps[187]? = some (.agg #[.int .u8 4, .int .u32 (k : Int), .int .u32 0, .int .u16 (nb : Int), .int .u16 0, .int .u32 (vb : Int), .int .u32 0]) := by rw [ha]; exact putSel_on (e := (7, 187, .agg #[.int .u8 4, .int .u32 (k : Int), .int .u32 0, .int .u16 (nb : Int), .int .u16 0, .int .u32 (vb : Int), .int .u32 0])) 7 rfl rfl (hon 7 (by kernel_rfl)) (by rw [E0]; rfl)
   have e188 : a.tmps[188]? = some (.slice (some ⟨gd, 0, none⟩) 256 256) := by rw [ha]; exact putSel_on (e := (8, 188, .slice (some ⟨gd, 0, none⟩) 256 256)) 8 rfl rfl (hon 8 (by kernel_rfl)) (by rw [E0]; rfl)
   replace ha := Aside0.mk ha
   have VB := Aside0.mk (Q_VB (hoff 10 (by kernel_rfl)))
   refine goes_ Try.func24 (by kernel_rfl) rfl #[.agg (hdC (datH k vb nb)), .slice (some ⟨gd, 0, none⟩) 256 256, .slice none 0 0] (by rfl) rfl rfl (by first | (simp only [List.map_toArray, List.map_cons, List.map_nil, Act.eval, Array.getD_eq_getD_getElem?, Option.getD_some, e187, e188]; done) | (simp only [List.map_toArray, List.map_cons, List.map_nil, Act.eval, Array.getD_eq_getD_getElem?, Option.getD_some, e187, e188]; rfl)) ?_
   refine (Seal_any (datH k vb nb) (some ⟨gd, 0, none⟩) none 256 0 256 0 dd [] w' HDO.out.1 (HDz.out.below VB.out) (Nat.le_refl _) HDO.out.2 (by decide) ⟨rfl, by decide, fun h_ => absurd h_ (by decide)⟩ (Nat.le_refl _) (fun x hx => by simp at hx)).mono ?_
   rintro e w1 ⟨v_, rfl, hn_⟩
   obtain ⟨x_, y_, rfl, h1_, h2_, h3_⟩ := own_some_ (n := 64) hn_.1 (sealL_length _ _ _) (by decide)
   refine ⟨_, rfl, ?_⟩
   refine hK.out _ _ ⟨x_, y_, (.slice (some ⟨x_, 0, none⟩) 64 y_), (ptup_ ha.out 9 hb_ rfl rfl rfl), fun _ => bl_seq VB.out hn_.2, fun _ _ => ⟨Nat.le_trans VB.out.size h1_, h2_, h3_⟩, off_ (hoff 10 (by kernel_rfl)), fun _ => rfl⟩
  refine steps_cons ?_ ?_
  ·rintro b a w' ⟨x4, y4, m9_, ha, Q_VB, Q_SL, Q_VQ, Q_X9_⟩ hb_ hon hoff
   refine ⟨_, rfl, fun K hK => ?_⟩
   have e180 : a.tmps[180]? = some (.pointer (some ⟨vp, 0, none⟩)) := by rw [ha]; exact putSel_on (e := (0, 180, .pointer (some ⟨vp, 0, none⟩))) 0 rfl rfl (hon 0 (by kernel_rfl)) (by rw [E0]; rfl)
   have e181 : a.tmps[181]? = some (.int .i64 (vb : Int)) := by rw [ha]; exact putSel_on (e := (1, 181, .int .i64 (vb : Int))) 1 rfl rfl (hon 1 (by kernel_rfl)) (by rw [E0]; rfl)
   have e185 : a.tmps[185]? = some (.int .i64 (nb : Int)) := by rw [ha]; exact putSel_on (e := (5, 185, .int .i64 (nb : Int))) 5 rfl rfl (hon 5 (by kernel_rfl)) (by rw [E0]; rfl)
   have e186 : a.tmps[186]? = some (.slice (some ⟨gd, 0, none⟩) 256 256) := by rw [ha]; exact putSel_on (e := (6, 186, .slice (some ⟨gd, 0, none⟩) 256 256)) 6 rfl rfl (hon 6 (by kernel_rfl)) (by rw [E0]; rfl)
   have e189 : a.tmps[189]? = some (m9_) := by rw [ha]; exact putSel_on (e := (9, 189, m9_)) 9 rfl rfl (hon 9 (by kernel_rfl)) (by rw [E0]; rfl)
   rw [Q_X9_ (hon 9 (by kernel_rfl))] at e189
   replace ha := Aside0.mk ha
   have VB := Aside0.mk (Q_VB hb_)
   have SL := Aside0.mk (Q_SL (hon 9 (by kernel_rfl)) hb_)
   have HTv := HTz.out.below VB.out
   refine goes_ Try.func23 (by kernel_rfl) rfl #[.pointer (some ⟨vp, 0, none⟩), .int .i64 (vb : Int), .int .i64 (nb : Int), .slice (some ⟨gd, 0, none⟩) 256 256, .slice (some ⟨x4, 0, none⟩) 64 y4] (by rfl) rfl rfl (by first | (simp only [List.map_toArray, List.map_cons, List.map_nil, Act.eval, Array.getD_eq_getD_getElem?, Option.getD_some, e180, e181, e185, e186, e189]; done) | (simp only [List.map_toArray, List.map_cons, List.map_nil, Act.eval, Array.getD_eq_getD_getElem?, Option.getD_some, e180, e181, e185, e186, e189]; rfl)) ?_
   refine (vprog_any ar (okL ar vp H) (okL ar vp H) s vp vb nb T ⟨gd, 0, none⟩ ⟨x4, 0, none⟩ 256 y4 dd (sealL (datH k vb nb) dd []) w' HTv.env HTv.arr HTv.vol HOK.out hsq (by omega) hnb hs0 hs1 (HDz.out.below VB.out) SL.out.2.2 (HGD.out.1 _ (Nat.le_refl _)) (HGD.out.1 _ (Nat.le_trans HGZ.out SL.out.1)) HGD.out.2.1 (fun e => by have h_ := HTz.out.vlt; have h2_ := SL.out.1; have h3_ : x4 = vp := e; omega) HDO.out.2 (sealL_byt _ _ (fun x hx => by simp at hx))).mono ?_
   rintro e w1 ⟨rfl, q1, q2, q3⟩
   refine ⟨_, rfl, ?_⟩
   refine hK.out _ _ ⟨x4, y4, m9_, (ptup_ ha.out 10 hb_ rfl rfl rfl), fun h0_ => absurd ((up_self b 10).symm.trans h0_) (by decide), fun _ h1_ => absurd ((up_self b 10).symm.trans h1_) (by decide), fun _ => ⟨q1, q2, (Mods.of_below VB.out).trans q3⟩, Q_X9_⟩
  refine steps_cons ?_ ?_
  ·rintro b a w' ⟨x4, y4, m9_, ha, Q_VB, Q_SL, Q_VQ, Q_X9_⟩ hb_ hon hoff
   refine ⟨_, rfl, fun K hK => ?_⟩
   have e190 : a.tmps[190]? = some (.int .i64 (vprS ar s T vb nb (dd, sealL (datH k vb nb) dd [])).2.2) := by rw [ha]; exact putSel_on (e := (10, 190, .int .i64 (vprS ar s T vb nb (dd, sealL (datH k vb nb) dd [])).2.2)) 10 rfl rfl (hon 10 (by kernel_rfl)) (by rw [E0]; rfl)
   replace ha := Aside0.mk ha
   have VQ := Aside0.mk (Q_VQ (hon 10 (by kernel_rfl)))
   refine value_ (w1 := w') (v := .int .i64 (vprS ar s T vb nb (dd, sealL (datH k vb nb) dd [])).2.2) (by rfl) rfl ?_ ?_
   ·go_simp
    (try simp only [i64_w])
    try rfl
   refine hK.out _ _ ⟨x4, y4, m9_, (ptup_ ha.out 11 hb_ rfl rfl rfl), fun h0_ => absurd ((hon 10 (by kernel_rfl)).symm.trans h0_) (by decide), fun _ h1_ => absurd ((hon 10 (by kernel_rfl)).symm.trans h1_) (by decide), Q_VQ, Q_X9_⟩
  exact steps_nil
 ·rintro b a w' hall ⟨x4, y4, m9_, ha, Q_VB, Q_SL, Q_VQ, Q_X9_⟩
  clear VB
  have hb0_ := hall 0 (by kernel_rfl)
  have hb1_ := hall 1 (by kernel_rfl)
  have hb2_ := hall 2 (by kernel_rfl)
  have hb3_ := hall 3 (by kernel_rfl)
  have hb4_ := hall 4 (by kernel_rfl)
  have hb5_ := hall 5 (by kernel_rfl)
  have hb6_ := hall 6 (by kernel_rfl)
  have hb7_ := hall 7 (by kernel_rfl)
  have hb8_ := hall 8 (by kernel_rfl)
  have hb9_ := hall 9 (by kernel_rfl)
  have hb10_ := hall 10 (by kernel_rfl)
  have hb11_ := hall 11 (by kernel_rfl)
  subst ha
  obtain rfl := Q_X9_ hb9_
  simp only [putSel, hb0_, hb1_, hb2_, hb3_, hb4_, hb5_, hb6_, hb7_, hb8_, hb9_, hb10_, hb11_, if_true]
  clear Q_VB
  clear Q_SL
  have VQ := Aside0.mk (Q_VQ hb10_)
  clear Q_VQ
  clear hall hb0_ hb1_ hb2_ hb3_ hb4_ hb5_ hb6_ hb7_ hb8_ hb9_ hb10_ hb11_
  exact hQ _ _ _ VQ.out.1 VQ.out.2.1 (((Mods.of_below DZ.out)).trans VQ.out.2.2)
set_option maxHeartbeats 16000000 in
set_option maxRecDepth 100000 in
theorem reg38 {Q : Exit → Act → World → Prop} (a0 : Act) (ar : Ar) (vp gh gl vb nb k c9 : Nat) (A9 : Option Addr) (H : Nat → Prop) (s : St) (T : Tb) (held : Nat → List Hd) (hv : Nat → Value) (wU : World) (E0 : a0.tmps.size = 283) (E20 : a0.tmps[20]? = some (.int .i64 (vb : Int))) (E16 : a0.tmps[16]? = some (.pointer (some ⟨gh, 0, none⟩))) (E18 : a0.tmps[18]? = some (.pointer (some ⟨gl, 0, none⟩)))
  (HU5 : Hid (RowSt wU ar vp gh gl (gh + 2) H s T held hv (datH k vb nb))) (zbU : wU.cell? ⟨gh, vb, none⟩ = some (.slice A9 nb c9)) (HCB : Hid ((#[hv 0, hv 1, hv 2, hv 3, hv 4, hv 5] : Array Value)[vb]? = some (.slice A9 nb c9))) (HHV : Hid ((held vb).length = nb ∧ Value.slice A9 nb c9 = hv vb ∧ gl = gh + 1)) (hb6 : vb < 6) (hnb : nb < 6)
  (hQ : ∀ (gx : Nat) (A3 : Option Addr) (c3 : Nat) (w' : World), (∃ H', RowSt w' ar vp gh gl (gh + 2) H' s T (upd held vb (held vb ++ [datH k vb nb])) (upd hv vb (.slice A3 (nb + 1) c3)) (datH k vb nb)) → Mods (fun x => gh ≤ x) wU w' → Q .normal ((((((((a0.put (some 193) (.int .i64 (vb : Int))).put (some 194) (.int .i64 (vb : Int))).put (some 195) (.pointer (some ⟨gh, vb, none⟩))).put (some 196) (.slice A9 nb c9)).put (some 197) (.agg #[.int .u8 4, .int .u32 (k : Int), .int .u32 0, .int .u16 (nb : Int), .int .u16 0, .int .u32 (vb : Int), .int .u32 0])).put (some 198) (.slice (some ⟨gx, 0, none⟩) 1 1)).put (some 199) (.slice A3 (nb + 1) c3)).put (some 200) (.pointer (some ⟨gh, vb, none⟩))) w') :
  ∀ c, sub [1, 1, 1, 1, 1, 1, 1, 1, 1, 1, 1, 1, 1, 0, 1, 2, 2, 1, 0, 2, 1, 1, 1, 1, 1, 1, 1, 1, 0] Try.f4.body = some c → Code.wp Try.prog c Q a0 wU := by
 refine from_path rfl ?_
 refine start_ (n := 9) (S := fun w' => True) (ds := []) _ (by kernel_rfl) rfl rfl trivial (fun hHeld => ?_)
 refine with_tabW XdQ.tab38 XdQ.bits38 (fun HT_ HW_ => ?_)
 have HUz := Lib.hid (HU5.out.below (bl_drew (Below.refl _ _)))
 have HZB := Lib.hid (show wU.drew.cell? ⟨gh, vb, none⟩ = _ from zbU)
 have DZ := Lib.hid (show Below wU.heap.size wU wU.drew from bl_drew (Below.refl _ _))
 generalize wU.drew = wz at HUz HZB DZ hHeld ⊢
 have VB := Lib.hid (Below.refl wz.heap.size wz)
 refine inv_at [0, 1, 2, 3, 4, 5, 6, 7, 8] (fun a0_ b a w' => ∃ (gx : Nat) (A3 : Option Addr) (c3 : Nat) (m5_ : Value) (m6_ : Value), a = putSel a0_ b [(0, 193, .int .i64 (vb : Int)), (1, 194, .int .i64 (vb : Int)), (2, 195, .pointer (some ⟨gh, vb, none⟩)), (3, 196, .slice A9 nb c9), (4, 197, .agg #[.int .u8 4, .int .u32 (k : Int), .int .u32 0, .int .u16 (nb : Int), .int .u16 0, .int .u32 (vb : Int), .int .u32 0]), (5, 198, m5_), (6, 199, m6_), (7, 200, .pointer (some ⟨gh, vb, none⟩))] ∧ (b 6 = false → Below wz.heap.size wz w') ∧ (b 5 = true → b 6 = false → w'.heap[gx]? = some (.cells (hdC (datH k vb nb)) 65 (0, 0))) ∧ (b 6 = true → b 8 = false → Hid (∃ wM w0_, Below wz.heap.size wz wM ∧ w0_.ownsRow (gh + 2) 65 7 (.slice A3 (nb + 1) c3) (nb + 1) (hdrC (held vb) ++ (hdC (datH k vb nb)).toList) ∧ wM.grownBy w0_ (hv vb).ownBlock ∧ ((Value.slice A3 (nb + 1) c3).ownBlock = (hv vb).ownBlock ∨ (Value.slice A3 (nb + 1) c3).ownBlock = some wM.heap.size) ∧ w' = w0_)) ∧ (b 8 = true → Hid (∃ wM w0_, Below wz.heap.size wz wM ∧ w0_.ownsRow (gh + 2) 65 7 (.slice A3 (nb + 1) c3) (nb + 1) (hdrC (held vb) ++ (hdC (datH k vb nb)).toList) ∧ wM.grownBy w0_ (hv vb).ownBlock ∧ ((Value.slice A3 (nb + 1) c3).ownBlock = (hv vb).ownBlock ∨ (Value.slice A3 (nb + 1) c3).ownBlock = some wM.heap.size) ∧ w' = w0_.setCell ⟨gh, vb, none⟩ (.slice A3 (nb + 1) c3))) ∧ (b 5 = true → (m5_ : Value) = .slice (some ⟨gx, 0, none⟩) 1 1) ∧ (b 6 = true → (m6_ : Value) = .slice A3 (nb + 1) c3)) HT_.out HW_.out (by kernel_rfl) (by kernel_rfl) ?_ ?_ ?_
 ·exact ⟨0, none, 0, .bool false, .bool false, by simp only [putSel, Bool.false_eq_true, if_false], fun _ => VB.out, fun h_ => absurd h_ (by decide), fun h_ => absurd h_ (by decide), fun h_ => absurd h_ (by decide), fun h_ => absurd h_ (by decide), fun h_ => absurd h_ (by decide)⟩
 ·skip
  clear VB
  refine steps_cons ?_ ?_
  ·rintro b a w' ⟨gx, A3, c3, m5_, m6_, ha, Q_VB, Q_BX, Q_AP, Q_ST, Q_X5_, Q_X6_⟩ hb_ hon hoff
   refine ⟨_, rfl, fun K hK => ?_⟩
   have e20 : a.tmps[20]? = some (.int .i64 (vb : Int)) := by rw [ha]; exact (putSel_off rfl).trans E20
   replace ha := Aside0.mk ha
   refine value_ (w1 := w') (v := .int .i64 (vb : Int)) (by rfl) rfl ?_ ?_
   ·go_simp
    (try simp only [i64_w])
    try rfl
   refine hK.out _ _ ⟨gx, A3, c3, m5_, m6_, (ptup_ ha.out 0 hb_ rfl rfl rfl), Q_VB, Q_BX, Q_AP, off_ (hoff 8 (by kernel_rfl)), Q_X5_, Q_X6_⟩
  refine steps_cons ?_ ?_
  ·rintro b a w' ⟨gx, A3, c3, m5_, m6_, ha, Q_VB, Q_BX, Q_AP, Q_ST, Q_X5_, Q_X6_⟩ hb_ hon hoff
   refine ⟨_, rfl, fun K hK => ?_⟩
   have e20 : a.tmps[20]? = some (.int .i64 (vb : Int)) := by rw [ha]; exact (putSel_off rfl).trans E20
   replace ha := Aside0.mk ha
   have VB := Aside0.mk (Q_VB (hoff 6 (by kernel_rfl)))
   refine value_ (w1 := w') (v := .int .i64 (vb : Int)) (by rfl) rfl ?_ ?_
   ·go_simp
    (try simp only [i64_w])
    try rfl
   refine hK.out _ _ ⟨gx, A3, c3, m5_, m6_, (ptup_ ha.out 1 hb_ rfl rfl rfl), Q_VB, Q_BX, fun h0_ _ => off_ (hoff 6 (by kernel_rfl)) h0_, off_ (hoff 8 (by kernel_rfl)), Q_X5_, off_ (hoff 6 (by kernel_rfl))⟩
  refine steps_cons ?_ ?_
  ·rintro b a w' ⟨gx, A3, c3, m5_, m6_, ha, Q_VB, Q_BX, Q_AP, Q_ST, Q_X5_, Q_X6_⟩ hb_ hon hoff
   refine ⟨_, rfl, fun K hK => ?_⟩
   have e16 : a.tmps[16]? = some (.pointer (some ⟨gh, 0, none⟩)) := by rw [ha]; exact (putSel_off rfl).trans E16
   have e194 : a.tmps[194]? = some (.int .i64 (vb : Int)) := by rw [ha]; exact putSel_on (e := (1, 194, .int .i64 (vb : Int))) 1 rfl rfl (hon 1 (by kernel_rfl)) (by rw [E0]; rfl)
   replace ha := Aside0.mk ha
   have VB := Aside0.mk (Q_VB (hoff 6 (by kernel_rfl)))
   have hbi_ : (vb : Int) < 6 := by omega
   refine value_ (w1 := w') (v := .pointer (some ⟨gh, vb, none⟩)) (by rfl) rfl ?_ ?_
   ·go_simp
    (try simp only [i64_w])
    try rfl
   refine hK.out _ _ ⟨gx, A3, c3, m5_, m6_, (ptup_ ha.out 2 hb_ rfl rfl rfl), Q_VB, Q_BX, fun h0_ _ => off_ (hoff 6 (by kernel_rfl)) h0_, off_ (hoff 8 (by kernel_rfl)), Q_X5_, off_ (hoff 6 (by kernel_rfl))⟩
  refine steps_cons ?_ ?_
  ·rintro b a w' ⟨gx, A3, c3, m5_, m6_, ha, Q_VB, Q_BX, Q_AP, Q_ST, Q_X5_, Q_X6_⟩ hb_ hon hoff
   refine ⟨_, rfl, fun K hK => ?_⟩
   have e195 : a.tmps[195]? = some (.pointer (some ⟨gh, vb, none⟩)) := by rw [ha]; exact putSel_on (e := (2, 195, .pointer (some ⟨gh, vb, none⟩))) 2 rfl rfl (hon 2 (by kernel_rfl)) (by rw [E0]; rfl)
   replace ha := Aside0.mk ha
   have VB := Aside0.mk (Q_VB (hoff 6 (by kernel_rfl)))
   have hcb_ : w'.cell? ⟨gh, vb, none⟩ = some (.slice A9 nb c9) := pw_cell_below VB.out HZB.out
   refine value_ (w1 := w') (v := .slice A9 nb c9) (by rfl) rfl ?_ ?_
   ·go_simp
    (try simp only [i64_w])
    try rfl
   refine hK.out _ _ ⟨gx, A3, c3, m5_, m6_, (ptup_ ha.out 3 hb_ rfl rfl rfl), Q_VB, Q_BX, fun h0_ _ => off_ (hoff 6 (by kernel_rfl)) h0_, off_ (hoff 8 (by kernel_rfl)), Q_X5_, off_ (hoff 6 (by kernel_rfl))⟩
  refine steps_cons ?_ ?_
  ·rintro b a w' ⟨gx, A3, c3, m5_, m6_, ha, Q_VB, Q_BX, Q_AP, Q_ST, Q_X5_, Q_X6_⟩ hb_ hon hoff
   refine ⟨_, rfl, fun K hK => ?_⟩
   have e18 : a.tmps[18]? = some (.pointer (some ⟨gl, 0, none⟩)) := by rw [ha]; exact (putSel_off rfl).trans E18
   replace ha := Aside0.mk ha
   have VB := Aside0.mk (Q_VB (hoff 6 (by kernel_rfl)))
   have lc0_ : w'.cell? ⟨gl, 0, none⟩ = some (.int .u8 4) := (blk_cell (HUz.out.below VB.out).cgl 0).trans rfl
   have lc1_ : w'.cell? ⟨gl, 1, none⟩ = some (.int .u32 (k : Int)) := (blk_cell (HUz.out.below VB.out).cgl 1).trans rfl
   have lc2_ : w'.cell? ⟨gl, 2, none⟩ = some (.int .u32 0) := (blk_cell (HUz.out.below VB.out).cgl 2).trans rfl
   have lc3_ : w'.cell? ⟨gl, 3, none⟩ = some (.int .u16 (nb : Int)) := (blk_cell (HUz.out.below VB.out).cgl 3).trans rfl
   have lc4_ : w'.cell? ⟨gl, 4, none⟩ = some (.int .u16 0) := (blk_cell (HUz.out.below VB.out).cgl 4).trans rfl
   have lc5_ : w'.cell? ⟨gl, 5, none⟩ = some (.int .u32 (vb : Int)) := (blk_cell (HUz.out.below VB.out).cgl 5).trans rfl
   have lc6_ : w'.cell? ⟨gl, 6, none⟩ = some (.int .u32 0) := (blk_cell (HUz.out.below VB.out).cgl 6).trans rfl
   refine value_ (w1 := w') (v := .agg #[.int .u8 4, .int .u32 (k : Int), .int .u32 0, .int .u16 (nb : Int), .int .u16 0, .int .u32 (vb : Int), .int .u32 0]) (by rfl) rfl ?_ ?_
   ·go_simp
    (try simp only [i64_w])
    try rfl
   refine hK.out _ _ ⟨gx, A3, c3, m5_, m6_, (ptup_ ha.out 4 hb_ rfl rfl rfl), Q_VB, fun h0_ _ => off_ (hoff 5 (by kernel_rfl)) h0_, fun h0_ _ => off_ (hoff 6 (by kernel_rfl)) h0_, off_ (hoff 8 (by kernel_rfl)), off_ (hoff 5 (by kernel_rfl)), off_ (hoff 6 (by kernel_rfl))⟩
  refine steps_cons ?_ ?_
  ·rintro b a w' ⟨gx, A3, c3, m5_, m6_, ha, Q_VB, Q_BX, Q_AP, Q_ST, Q_X5_, Q_X6_⟩ hb_ hon hoff
   refine ⟨_, rfl, fun K hK => ?_⟩
   have e197 : a.tmps[197]? = some (.agg #[.int .u8 4, .int .u32 (k : Int), .int .u32 0, .int .u16 (nb : Int), .int .u16 0, .int .u32 (vb : Int), .int .u32 0]) := by rw [ha]; exact putSel_on (e := (4, 197, .agg #[.int .u8 4, .int .u32 (k : Int), .int .u32 0, .int .u16 (nb : Int), .int .u16 0, .int .u32 (vb : Int), .int .u32 0])) 4 rfl rfl (hon 4 (by kernel_rfl)) (by rw [E0]; rfl)
   replace ha := Aside0.mk ha
   have VB := Aside0.mk (Q_VB (hoff 6 (by kernel_rfl)))
   refine value_ (w1 := w'.alloc (.cells (hdC (datH k vb nb)) 65)) (v := .slice (some ⟨w'.heap.size, 0, none⟩) 1 1) (by rfl) rfl ?_ ?_
   ·go_simp
    try rfl
   refine hK.out _ _ ⟨w'.heap.size, A3, c3, (.slice (some ⟨w'.heap.size, 0, none⟩) 1 1), m6_, (ptup_ ha.out 5 hb_ rfl rfl rfl), fun _ => bl_alloc VB.out _, fun _ _ => heap_alloc_new w' _, fun h0_ _ => off_ (hoff 6 (by kernel_rfl)) h0_, off_ (hoff 8 (by kernel_rfl)), fun _ => rfl, off_ (hoff 6 (by kernel_rfl))⟩
  refine steps_cons ?_ ?_
  ·rintro b a w' ⟨gx, A3, c3, m5_, m6_, ha, Q_VB, Q_BX, Q_AP, Q_ST, Q_X5_, Q_X6_⟩ hb_ hon hoff
   refine ⟨_, rfl, fun K hK => ?_⟩
   have e196 : a.tmps[196]? = some (.slice A9 nb c9) := by rw [ha]; exact putSel_on (e := (3, 196, .slice A9 nb c9)) 3 rfl rfl (hon 3 (by kernel_rfl)) (by rw [E0]; rfl)
   have e198 : a.tmps[198]? = some (m5_) := by rw [ha]; exact putSel_on (e := (5, 198, m5_)) 5 rfl rfl (hon 5 (by kernel_rfl)) (by rw [E0]; rfl)
   rw [Q_X5_ (hon 5 (by kernel_rfl))] at e198
   replace ha := Aside0.mk ha
   have VB := Aside0.mk (Q_VB hb_)
   have BX := Aside0.mk (Q_BX (hon 5 (by kernel_rfl)) hb_)
   have HUv := HUz.out.below VB.out
   have hown_ := (HUv.rows vb hb6).1
   rw [HHV.out.1] at hown_
   obtain ⟨A_, c_, w1, hr_, ho_, hg_, hat_⟩ := appH hown_ BX.out (by omega) (by have h_ := HUv.hlt gl HUv.hg.2.1; have h2_ := HHV.out.2.2; omega)
   refine app_ (by rfl) rfl rfl rfl ((eval_of e196).trans HHV.out.2.1) (eval_of e198) hr_ ?_
   refine hK.out _ _ ⟨gx, A_, c_, m5_, (.slice A_ (nb + 1) c_), (ptup_ ha.out 6 hb_ rfl rfl rfl), fun h0_ => absurd ((up_self b 6).symm.trans h0_) (by decide), fun _ h1_ => absurd ((up_self b 6).symm.trans h1_) (by decide), fun _ _ => Lib.hid ⟨w', w1, VB.out, ho_, hg_, hat_, rfl⟩, off_ (hoff 8 (by kernel_rfl)), Q_X5_, fun _ => rfl⟩
  refine steps_cons ?_ ?_
  ·rintro b a w' ⟨gx, A3, c3, m5_, m6_, ha, Q_VB, Q_BX, Q_AP, Q_ST, Q_X5_, Q_X6_⟩ hb_ hon hoff
   refine ⟨_, rfl, fun K hK => ?_⟩
   have e16 : a.tmps[16]? = some (.pointer (some ⟨gh, 0, none⟩)) := by rw [ha]; exact (putSel_off rfl).trans E16
   have e193 : a.tmps[193]? = some (.int .i64 (vb : Int)) := by rw [ha]; exact putSel_on (e := (0, 193, .int .i64 (vb : Int))) 0 rfl rfl (hon 0 (by kernel_rfl)) (by rw [E0]; rfl)
   replace ha := Aside0.mk ha
   have AP := Aside0.mk (Q_AP (hon 6 (by kernel_rfl)) (hoff 8 (by kernel_rfl)))
   have hbi_ : (vb : Int) < 6 := by omega
   refine value_ (w1 := w') (v := .pointer (some ⟨gh, vb, none⟩)) (by rfl) rfl ?_ ?_
   ·go_simp
    (try simp only [i64_w])
    try rfl
   refine hK.out _ _ ⟨gx, A3, c3, m5_, m6_, (ptup_ ha.out 7 hb_ rfl rfl rfl), fun h0_ => absurd ((hon 6 (by kernel_rfl)).symm.trans h0_) (by decide), fun _ h1_ => absurd ((hon 6 (by kernel_rfl)).symm.trans h1_) (by decide), Q_AP, off_ (hoff 8 (by kernel_rfl)), Q_X5_, Q_X6_⟩
  refine steps_cons ?_ ?_
  ·rintro b a w' ⟨gx, A3, c3, m5_, m6_, ha, Q_VB, Q_BX, Q_AP, Q_ST, Q_X5_, Q_X6_⟩ hb_ hon hoff
   refine ⟨_, rfl, fun K hK => ?_⟩
   have e200 : a.tmps[200]? = some (.pointer (some ⟨gh, vb, none⟩)) := by rw [ha]; exact putSel_on (e := (7, 200, .pointer (some ⟨gh, vb, none⟩))) 7 rfl rfl (hon 7 (by kernel_rfl)) (by rw [E0]; rfl)
   have e199 : a.tmps[199]? = some (m6_) := by rw [ha]; exact putSel_on (e := (6, 199, m6_)) 6 rfl rfl (hon 6 (by kernel_rfl)) (by rw [E0]; rfl)
   rw [Q_X6_ (hon 6 (by kernel_rfl))] at e199
   replace ha := Aside0.mk ha
   have AP := Aside0.mk (Q_AP (hon 6 (by kernel_rfl)) hb_)
   obtain ⟨wM, w0_, p1_, p2_, p3_, p4_, p5_⟩ := AP.out.out
   have hgM_ := grown_blk p3_ ((HUz.out.below p1_).cgh) (fun e_ => by have h_ := own_ne ((HUz.out.below p1_).rows vb hb6).1 ((HUz.out.below p1_).cgh) (by decide); exact h_ e_)
   rw [← p5_] at hgM_
   have zc_ : w'.cell? ⟨gh, vb, none⟩ = some (.slice A9 nb c9) := (blk_cell hgM_ vb).trans HCB.out
   have zf_ := blk_frozen hgM_ vb
   have HP5_ := Lib.hid p5_
   clear p5_
   refine skip_ (w1 := w'.setCell ⟨gh, vb, none⟩ (.slice A3 (nb + 1) c3)) (by rfl) rfl ?_ ?_
   ·go_simp
    try simp only [zc_, zf_]
    try rfl
   refine hK.out _ _ ⟨gx, A3, c3, m5_, m6_, (by rw [ha.out]; exact putSel_none (v := undef) rfl), fun h0_ => absurd ((hon 6 (by kernel_rfl)).symm.trans h0_) (by decide), fun _ h1_ => absurd ((hon 6 (by kernel_rfl)).symm.trans h1_) (by decide), fun _ h1_ => absurd ((up_self b 8).symm.trans h1_) (by decide), fun _ => Lib.hid ⟨wM, w0_, p1_, p2_, p3_, p4_, by rw [HP5_.out]⟩, Q_X5_, Q_X6_⟩
  exact steps_nil
 ·rintro b a w' hall ⟨gx, A3, c3, m5_, m6_, ha, Q_VB, Q_BX, Q_AP, Q_ST, Q_X5_, Q_X6_⟩
  clear VB
  have hb0_ := hall 0 (by kernel_rfl)
  have hb1_ := hall 1 (by kernel_rfl)
  have hb2_ := hall 2 (by kernel_rfl)
  have hb3_ := hall 3 (by kernel_rfl)
  have hb4_ := hall 4 (by kernel_rfl)
  have hb5_ := hall 5 (by kernel_rfl)
  have hb6_ := hall 6 (by kernel_rfl)
  have hb7_ := hall 7 (by kernel_rfl)
  have hb8_ := hall 8 (by kernel_rfl)
  subst ha
  obtain rfl := Q_X5_ hb5_
  obtain rfl := Q_X6_ hb6_
  simp only [putSel, hb0_, hb1_, hb2_, hb3_, hb4_, hb5_, hb6_, hb7_, hb8_, if_true]
  clear Q_VB
  clear Q_BX
  clear Q_AP
  have ST := Aside0.mk (Q_ST hb8_)
  clear Q_ST
  clear hall hb0_ hb1_ hb2_ hb3_ hb4_ hb5_ hb6_ hb7_ hb8_
  obtain ⟨wM, w0_, p1, p2, p3, p4, p5⟩ := ST.out.out
  have hr := (HUz.out.below p1).rows vb hb6
  have hap := (HUz.out.below p1).app hb6 (datH k vb nb) (by rw [HHV.out.1]; exact p2) p3 (by rcases p4 with h_ | h_; exact .inl h_; exact .inr ⟨_, h_, Nat.le_refl _⟩)
  rw [← p5] at hap
  refine hQ _ _ _ _ hap ?_
  rw [p5]
  exact (((Mods.of_below DZ.out).trans (Mods.of_below p1)).trans (((Mods.refl (fun x => gh ≤ x) wM).grown_ p3 (fun k e => .inl (by have h_ := own_ge hr.1 k e; omega))))).at_ (.inl (Nat.le_refl _)) vb _
end Go.Proofs.Ytffalemndjampaa
end
section
set_option linter.unusedVariables false
set_option linter.unusedSimpArgs false
namespace Go.Proofs.Ytffalemndjampaa
open Go.RowKit Go.Proofs.YtffalemndjampaaW.PrintWords Go.Proofs.YtffalemndjampaaW.PrintLast
theorem below_mono {B B' : Nat} {w w' : World} (h : Below B w w') (hB : B' ≤ B) : Below B' w w' := ⟨h.os, h.tape, h.output, h.size, fun i hi => h.block i (Nat.lt_of_lt_of_le hi hB)⟩
set_option maxHeartbeats 64000000 in
set_option maxRecDepth 100000 in
theorem chk10a (Q : Exit → Act → World → Prop) (gh gl hp gr b p nb c9 : Nat) (op : Int) (hk_ he_ hb_ hi_ hc_ hl_ hm_ : Int) (wJ : World) (f0 f1 f2 f3 f4 f5 f6 f7 f8 f9 f10 f11 f12 f13 f14 f15 f19 f20 f21 f22 f23 f26 f27 f28 f31 f32 f33 f34 f35 f36 f37 f38 f39 f40 f41 f42 f43 f44 f45 f46 f47 f48 f49 f50 f51 f52 f53 f54 f55 f56 f57 f58 f59 f60 f61 f62 f63 f64 f65 f66 f67 f68 f69 f70 f71 f72 f73 f74 f75 f76 f77 f78 f79 f80 f81 f82 f83 f84 f85 f86 f87 f88 f89 f90 f91 f92 f93 f94 f95 f96 f97 f98 f99 f100 f101 f102 f103 f104 f105 f106 f107 f108 f109 f110 f111 f112 f113 f114 f115 f116 f117 f118 f119 f120 f121 f122 f123 f124 f125 f126 f127 f128 f129 f130 f131 f132 f133 f134 f135 f136 f137 f138 f139 f140 f141 f142 f143 f144 f145 f146 f147 f148 f149 f150 f151 f152 f153 f154 f155 f156 f157 f158 f159 f160 f161 f162 f163 f164 f165 f166 f167 f168 f169 f170 f171 f172 f173 f174 f175 f176 f177 f178 f179 f180 f181 f182 f183 f184 f185 f186 f187 f188 f189 f190 f191 f192 f193 f194 f195 f196 f197 f198 f199 f200 f201 f202 f203 f204 f205 f206 f207 f208 f209 f210 f211 f212 f213 f214 f215 f216 f217 f218 f219 f220 f221 f222 f223 f224 f225 f226 f227 f228 f229 f230 f231 f232 f233 f234 f235 f236 f237 f238 f239 f240 f241 f242 f243 f244 f245 f246 f247 f248 f249 f250 f251 f252 f253 f254 f255 f256 f257 f258 f259 f260 f261 f262 f263 f264 f265 f266 f267 f268 f269 f270 f271 f272 f273 f274 f275 f276 f277 f278 f279 f280 f281 f282 : Value)
  (hb6 : b < 6) (hlt : p < nb) (zb : wJ.cell? ⟨gh, b, none⟩ = some (.slice (some ⟨gr, 0, none⟩) nb c9)) (y0 : wJ.cell? ⟨hp, 0, none⟩ = some (.int .u8 hk_)) (y1 : wJ.cell? ⟨hp, 1, none⟩ = some (.int .u32 he_)) (y2 : wJ.cell? ⟨hp, 2, none⟩ = some (.int .u32 hb_)) (y3 : wJ.cell? ⟨hp, 3, none⟩ = some (.int .u16 hi_)) (y4 : wJ.cell? ⟨hp, 4, none⟩ = some (.int .u16 hc_)) (y5 : wJ.cell? ⟨hp, 5, none⟩ = some (.int .u32 hl_)) (y6 : wJ.cell? ⟨hp, 6, none⟩ = some (.int .u32 hm_)) (z0 : wJ.cell? ⟨gr, p * 7, none⟩ = some (.int .u8 hk_)) (z1 : wJ.cell? ⟨gr, p * 7 + 1, none⟩ = some (.int .u32 he_)) (z2 : wJ.cell? ⟨gr, p * 7 + 2, none⟩ = some (.int .u32 hb_)) (z3 : wJ.cell? ⟨gr, p * 7 + 3, none⟩ = some (.int .u16 hi_)) (z4 : wJ.cell? ⟨gr, p * 7 + 4, none⟩ = some (.int .u16 hc_)) (z5 : wJ.cell? ⟨gr, p * 7 + 5, none⟩ = some (.int .u32 hl_)) (z6 : wJ.cell? ⟨gr, p * 7 + 6, none⟩ = some (.int .u32 hm_))
  (hQ : ∀ (t241 t242 t243 t244 t245 t246 t247 t248 t249 t250 t251 t252 t253 t254 t255 t256 t257 t258 t259 t260 t261 t262 t263 t264 t265 t266 t267 t268 t269 t270 t271 t272 t273 t274 t275 t276 t277 t278 t279 t280 t281 t282 : Value) (wr : World), Below wJ.heap.size wJ wr → Q .normal ⟨#[f0, f1, f2, f3, f4, f5, f6, f7, f8, f9, f10, f11, f12, f13, f14, f15, .pointer (some ⟨gh, 0, none⟩), .int .i64 op, .pointer (some ⟨gl, 0, none⟩), f19, f20, f21, f22, f23, .int .i64 (b : Int), .int .i64 (p : Int), f26, f27, f28, .pointer (some ⟨hp, 0, none⟩), .bool true, f31, f32, f33, f34, f35, f36, f37, f38, f39, f40, f41, f42, f43, f44, f45, f46, f47, f48, f49, f50, f51, f52, f53, f54, f55, f56, f57, f58, f59, f60, f61, f62, f63, f64, f65, f66, f67, f68, f69, f70, f71, f72, f73, f74, f75, f76, f77, f78, f79, f80, f81, f82, f83, f84, f85, f86, f87, f88, f89, f90, f91, f92, f93, f94, f95, f96, f97, f98, f99, f100, f101, f102, f103, f104, f105, f106, f107, f108, f109, f110, f111, f112, f113, f114, f115, f116, f117, f118, f119, f120, f121, f122, f123, f124, f125, f126, f127, f128, f129, f130, f131, f132, f133, f134, f135, f136, f137, f138, f139, f140, f141, f142, f143, f144, f145, f146, f147, f148, f149, f150, f151, f152, f153, f154, f155, f156, f157, f158, f159, f160, f161, f162, f163, f164, f165, f166, f167, f168, f169, f170, f171, f172, f173, f174, f175, f176, f177, f178, f179, f180, f181, f182, f183, f184, f185, f186, f187, f188, f189, f190, f191, f192, f193, f194, f195, f196, f197, f198, f199, f200, f201, f202, f203, f204, f205, f206, f207, f208, f209, f210, f211, f212, f213, f214, f215, f216, f217, f218, f219, f220, f221, f222, f223, f224, f225, f226, f227, f228, f229, f230, f231, f232, f233, f234, f235, f236, f237, f238, f239, f240, t241, t242, t243, t244, t245, t246, t247, t248, t249, t250, t251, t252, t253, t254, t255, t256, t257, t258, t259, t260, t261, t262, t263, t264, t265, t266, t267, t268, t269, t270, t271, t272, t273, t274, t275, t276, t277, t278, t279, t280, t281, t282], []⟩ wr) : ∀ c, sub [1, 1, 1, 1, 1, 1, 1, 1, 1, 1, 1, 1, 1, 1, 1, 1, 1, 1, 0, 1, 2, 2, 1, 0, 2, 1, 2, 2, 1, 0, 2, 1, 1, 1] Try.f4.body = some c → Code.wp Try.prog c Q ⟨#[f0, f1, f2, f3, f4, f5, f6, f7, f8, f9, f10, f11, f12, f13, f14, f15, .pointer (some ⟨gh, 0, none⟩), .int .i64 op, .pointer (some ⟨gl, 0, none⟩), f19, f20, f21, f22, f23, .int .i64 (b : Int), .int .i64 (p : Int), f26, f27, f28, .pointer (some ⟨hp, 0, none⟩), .bool true, f31, f32, f33, f34, f35, f36, f37, f38, f39, f40, f41, f42, f43, f44, f45, f46, f47, f48, f49, f50, f51, f52, f53, f54, f55, f56, f57, f58, f59, f60, f61, f62, f63, f64, f65, f66, f67, f68, f69, f70, f71, f72, f73, f74, f75, f76, f77, f78, f79, f80, f81, f82, f83, f84, f85, f86, f87, f88, f89, f90, f91, f92, f93, f94, f95, f96, f97, f98, f99, f100, f101, f102, f103, f104, f105, f106, f107, f108, f109, f110, f111, f112, f113, f114, f115, f116, f117, f118, f119, f120, f121, f122, f123, f124, f125, f126, f127, f128, f129, f130, f131, f132, f133, f134, f135, f136, f137, f138, f139, f140, f141, f142, f143, f144, f145, f146, f147, f148, f149, f150, f151, f152, f153, f154, f155, f156, f157, f158, f159, f160, f161, f162, f163, f164, f165, f166, f167, f168, f169, f170, f171, f172, f173, f174, f175, f176, f177, f178, f179, f180, f181, f182, f183, f184, f185, f186, f187, f188, f189, f190, f191, f192, f193, f194, f195, f196, f197, f198, f199, f200, f201, f202, f203, f204, f205, f206, f207, f208, f209, f210, f211, f212, f213, f214, f215, f216, f217, f218, f219, f220, f221, f222, f223, f224, f225, f226, f227, f228, f229, f230, f231, f232, f233, f234, f235, f236, f237, f238, f239, f240, f241, f242, f243, f244, f245, f246, f247, f248, f249, f250, f251, f252, f253, f254, f255, f256, f257, f258, f259, f260, f261, f262, f263, f264, f265, f266, f267, f268, f269, f270, f271, f272, f273, f274, f275, f276, f277, f278, f279, f280, f281, f282], []⟩ wJ := by
 refine from_path rfl ?_
 have HQ := Lib.hid hQ
 clear hQ
 have hlti : (p : Int) < (nb : Int) := by omega
 have hb6i : (b : Int) < 6 := by omega
 go_wp2_with fail
 go_quiet (fail)
 go_wp2_with fail
 exact HQ.out _ _ _ _ _ _ _ _ _ _ _ _ _ _ _ _ _ _ _ _ _ _ _ _ _ _ _ _ _ _ _ _ _ _ _ _ _ _ _ _ _ _ _ (bl_drewN (Below.refl _ _) _)
set_option maxHeartbeats 64000000 in
set_option maxRecDepth 100000 in
theorem chk10b (Q : Exit → Act → World → Prop) (gh gl hp b p nb c9 : Nat) (A9 : Option Addr) (op : Int) (wJ : World) (f0 f1 f2 f3 f4 f5 f6 f7 f8 f9 f10 f11 f12 f13 f14 f15 f19 f20 f21 f22 f23 f26 f27 f28 f31 f32 f33 f34 f35 f36 f37 f38 f39 f40 f41 f42 f43 f44 f45 f46 f47 f48 f49 f50 f51 f52 f53 f54 f55 f56 f57 f58 f59 f60 f61 f62 f63 f64 f65 f66 f67 f68 f69 f70 f71 f72 f73 f74 f75 f76 f77 f78 f79 f80 f81 f82 f83 f84 f85 f86 f87 f88 f89 f90 f91 f92 f93 f94 f95 f96 f97 f98 f99 f100 f101 f102 f103 f104 f105 f106 f107 f108 f109 f110 f111 f112 f113 f114 f115 f116 f117 f118 f119 f120 f121 f122 f123 f124 f125 f126 f127 f128 f129 f130 f131 f132 f133 f134 f135 f136 f137 f138 f139 f140 f141 f142 f143 f144 f145 f146 f147 f148 f149 f150 f151 f152 f153 f154 f155 f156 f157 f158 f159 f160 f161 f162 f163 f164 f165 f166 f167 f168 f169 f170 f171 f172 f173 f174 f175 f176 f177 f178 f179 f180 f181 f182 f183 f184 f185 f186 f187 f188 f189 f190 f191 f192 f193 f194 f195 f196 f197 f198 f199 f200 f201 f202 f203 f204 f205 f206 f207 f208 f209 f210 f211 f212 f213 f214 f215 f216 f217 f218 f219 f220 f221 f222 f223 f224 f225 f226 f227 f228 f229 f230 f231 f232 f233 f234 f235 f236 f237 f238 f239 f240 f241 f242 f243 f244 f245 f246 f247 f248 f249 f250 f251 f252 f253 f254 f255 f256 f257 f258 f259 f260 f261 f262 f263 f264 f265 f266 f267 f268 f269 f270 f271 f272 f273 f274 f275 f276 f277 f278 f279 f280 f281 f282 : Value)
  (hb6 : b < 6) (hlt : ¬ p < nb) (zb : wJ.cell? ⟨gh, b, none⟩ = some (.slice A9 nb c9))
  (hQ : ∀ (t241 t242 t243 t244 t245 t246 t247 t248 t249 t250 t251 t252 t253 t254 t255 t256 t257 t258 t259 t260 t261 t262 t263 t264 t265 t266 t267 t268 t269 t270 t271 t272 t273 t274 t275 t276 t277 t278 t279 t280 t281 t282 : Value) (wr : World), Below wJ.heap.size wJ wr → Q .normal ⟨#[f0, f1, f2, f3, f4, f5, f6, f7, f8, f9, f10, f11, f12, f13, f14, f15, .pointer (some ⟨gh, 0, none⟩), .int .i64 op, .pointer (some ⟨gl, 0, none⟩), f19, f20, f21, f22, f23, .int .i64 (b : Int), .int .i64 (p : Int), f26, f27, f28, .pointer (some ⟨hp, 0, none⟩), .bool false, f31, f32, f33, f34, f35, f36, f37, f38, f39, f40, f41, f42, f43, f44, f45, f46, f47, f48, f49, f50, f51, f52, f53, f54, f55, f56, f57, f58, f59, f60, f61, f62, f63, f64, f65, f66, f67, f68, f69, f70, f71, f72, f73, f74, f75, f76, f77, f78, f79, f80, f81, f82, f83, f84, f85, f86, f87, f88, f89, f90, f91, f92, f93, f94, f95, f96, f97, f98, f99, f100, f101, f102, f103, f104, f105, f106, f107, f108, f109, f110, f111, f112, f113, f114, f115, f116, f117, f118, f119, f120, f121, f122, f123, f124, f125, f126, f127, f128, f129, f130, f131, f132, f133, f134, f135, f136, f137, f138, f139, f140, f141, f142, f143, f144, f145, f146, f147, f148, f149, f150, f151, f152, f153, f154, f155, f156, f157, f158, f159, f160, f161, f162, f163, f164, f165, f166, f167, f168, f169, f170, f171, f172, f173, f174, f175, f176, f177, f178, f179, f180, f181, f182, f183, f184, f185, f186, f187, f188, f189, f190, f191, f192, f193, f194, f195, f196, f197, f198, f199, f200, f201, f202, f203, f204, f205, f206, f207, f208, f209, f210, f211, f212, f213, f214, f215, f216, f217, f218, f219, f220, f221, f222, f223, f224, f225, f226, f227, f228, f229, f230, f231, f232, f233, f234, f235, f236, f237, f238, f239, f240, t241, t242, t243, t244, t245, t246, t247, t248, t249, t250, t251, t252, t253, t254, t255, t256, t257, t258, t259, t260, t261, t262, t263, t264, t265, t266, t267, t268, t269, t270, t271, t272, t273, t274, t275, t276, t277, t278, t279, t280, t281, t282], []⟩ wr) : ∀ c, sub [1, 1, 1, 1, 1, 1, 1, 1, 1, 1, 1, 1, 1, 1, 1, 1, 1, 1, 0, 1, 2, 2, 1, 0, 2, 1, 2, 2, 1, 0, 2, 1, 1, 1] Try.f4.body = some c → Code.wp Try.prog c Q ⟨#[f0, f1, f2, f3, f4, f5, f6, f7, f8, f9, f10, f11, f12, f13, f14, f15, .pointer (some ⟨gh, 0, none⟩), .int .i64 op, .pointer (some ⟨gl, 0, none⟩), f19, f20, f21, f22, f23, .int .i64 (b : Int), .int .i64 (p : Int), f26, f27, f28, .pointer (some ⟨hp, 0, none⟩), .bool false, f31, f32, f33, f34, f35, f36, f37, f38, f39, f40, f41, f42, f43, f44, f45, f46, f47, f48, f49, f50, f51, f52, f53, f54, f55, f56, f57, f58, f59, f60, f61, f62, f63, f64, f65, f66, f67, f68, f69, f70, f71, f72, f73, f74, f75, f76, f77, f78, f79, f80, f81, f82, f83, f84, f85, f86, f87, f88, f89, f90, f91, f92, f93, f94, f95, f96, f97, f98, f99, f100, f101, f102, f103, f104, f105, f106, f107, f108, f109, f110, f111, f112, f113, f114, f115, f116, f117, f118, f119, f120, f121, f122, f123, f124, f125, f126, f127, f128, f129, f130, f131, f132, f133, f134, f135, f136, f137, f138, f139, f140, f141, f142, f143, f144, f145, f146, f147, f148, f149, f150, f151, f152, f153, f154, f155, f156, f157, f158, f159, f160, f161, f162, f163, f164, f165, f166, f167, f168, f169, f170, f171, f172, f173, f174, f175, f176, f177, f178, f179, f180, f181, f182, f183, f184, f185, f186, f187, f188, f189, f190, f191, f192, f193, f194, f195, f196, f197, f198, f199, f200, f201, f202, f203, f204, f205, f206, f207, f208, f209, f210, f211, f212, f213, f214, f215, f216, f217, f218, f219, f220, f221, f222, f223, f224, f225, f226, f227, f228, f229, f230, f231, f232, f233, f234, f235, f236, f237, f238, f239, f240, f241, f242, f243, f244, f245, f246, f247, f248, f249, f250, f251, f252, f253, f254, f255, f256, f257, f258, f259, f260, f261, f262, f263, f264, f265, f266, f267, f268, f269, f270, f271, f272, f273, f274, f275, f276, f277, f278, f279, f280, f281, f282], []⟩ wJ := by
 refine from_path rfl ?_
 have HQ := Lib.hid hQ
 clear hQ
 have hlti : ¬ (p : Int) < (nb : Int) := by omega
 have hb6i : (b : Int) < 6 := by omega
 go_wp2_with fail
 exact HQ.out _ _ _ _ _ _ _ _ _ _ _ _ _ _ _ _ _ _ _ _ _ _ _ _ _ _ _ _ _ _ _ _ _ _ _ _ _ _ _ _ _ _ _ (Below.refl _ _)
set_option maxHeartbeats 64000000 in
set_option maxRecDepth 100000 in
theorem chk10c (Q : Exit → Act → World → Prop) (gh gl hp b p c9 : Nat) (A9 : Option Addr) (op : Int) (hk_ he_ hb_ hi_ hc_ hl_ hm_ : Int) (k2 e2 b2 i2 c2 l2 m2 : Int) (wJ : World) (f0 f1 f2 f3 f4 f5 f6 f7 f8 f9 f10 f11 f12 f13 f14 f15 f19 f20 f21 f22 f23 f26 f27 f28 f31 f32 f33 f34 f35 f36 f37 f38 f39 f40 f41 f42 f43 f44 f45 f46 f47 f48 f49 f50 f51 f52 f53 f54 f55 f56 f57 f58 f59 f60 f61 f62 f63 f64 f65 f66 f67 f68 f69 f70 f71 f72 f73 f74 f75 f76 f77 f78 f79 f80 f81 f82 f83 f84 f85 f86 f87 f88 f89 f90 f91 f92 f93 f94 f95 f96 f97 f98 f99 f100 f101 f102 f103 f104 f105 f106 f107 f108 f109 f110 f111 f112 f113 f114 f115 f116 f117 f118 f119 f120 f121 f122 f123 f124 f125 f126 f127 f128 f129 f130 f131 f132 f133 f134 f135 f136 f137 f138 f139 f140 f141 f142 f143 f144 f145 f146 f147 f148 f149 f150 f151 f152 f153 f154 f155 f156 f157 f158 f159 f160 f161 f162 f163 f164 f165 f166 f167 f168 f169 f170 f171 f172 f173 f174 f175 f176 f177 f178 f179 f180 f181 f182 f183 f184 f185 f186 f187 f188 f189 f190 f191 f192 f193 f194 f195 f196 f197 f198 f199 f200 f201 f202 f203 f204 f205 f206 f207 f208 f209 f210 f211 f212 f213 f214 f215 f216 f217 f218 f219 f220 f221 f222 f223 f224 f225 f226 f227 f228 f229 f230 f231 f232 f233 f234 f235 f236 f237 f238 f239 f240 f241 f242 f243 f244 f245 f246 f247 f248 f249 f250 f251 f252 f253 f254 f255 f256 f257 f258 f259 f260 f261 f262 f263 f264 f265 f266 f267 f268 f269 f270 f271 f272 f273 f274 f275 f276 f277 f278 f279 f280 f281 f282 : Value)
  (hb6 : b < 6) (hop : op = (b : Int)) (zb : wJ.cell? ⟨gh, b, none⟩ = some (.slice A9 0 c9)) (y0 : wJ.cell? ⟨hp, 0, none⟩ = some (.int .u8 hk_)) (y1 : wJ.cell? ⟨hp, 1, none⟩ = some (.int .u32 he_)) (y2 : wJ.cell? ⟨hp, 2, none⟩ = some (.int .u32 hb_)) (y3 : wJ.cell? ⟨hp, 3, none⟩ = some (.int .u16 hi_)) (y4 : wJ.cell? ⟨hp, 4, none⟩ = some (.int .u16 hc_)) (y5 : wJ.cell? ⟨hp, 5, none⟩ = some (.int .u32 hl_)) (y6 : wJ.cell? ⟨hp, 6, none⟩ = some (.int .u32 hm_)) (l0_ : wJ.cell? ⟨gl, 0, none⟩ = some (.int .u8 k2)) (l1_ : wJ.cell? ⟨gl, 1, none⟩ = some (.int .u32 e2)) (l2_ : wJ.cell? ⟨gl, 2, none⟩ = some (.int .u32 b2)) (l3_ : wJ.cell? ⟨gl, 3, none⟩ = some (.int .u16 i2)) (l4_ : wJ.cell? ⟨gl, 4, none⟩ = some (.int .u16 c2)) (l5_ : wJ.cell? ⟨gl, 5, none⟩ = some (.int .u32 l2)) (l6_ : wJ.cell? ⟨gl, 6, none⟩ = some (.int .u32 m2))
  (hQ : ∀ (t241 t242 t243 t244 t245 t246 t247 t248 t249 t250 t251 t252 t253 t254 t255 t256 t257 t258 t259 t260 t261 t262 t263 t264 t265 t266 t267 t268 t269 t270 t271 t272 t273 t274 t275 t276 t277 t278 t279 t280 t281 t282 : Value) (wr : World), Below wJ.heap.size wJ wr → Q .normal ⟨#[f0, f1, f2, f3, f4, f5, f6, f7, f8, f9, f10, f11, f12, f13, f14, f15, .pointer (some ⟨gh, 0, none⟩), .int .i64 op, .pointer (some ⟨gl, 0, none⟩), f19, f20, f21, f22, f23, .int .i64 (b : Int), .int .i64 (p : Int), f26, f27, f28, .pointer (some ⟨hp, 0, none⟩), .bool true, f31, f32, f33, f34, f35, f36, f37, f38, f39, f40, f41, f42, f43, f44, f45, f46, f47, f48, f49, f50, f51, f52, f53, f54, f55, f56, f57, f58, f59, f60, f61, f62, f63, f64, f65, f66, f67, f68, f69, f70, f71, f72, f73, f74, f75, f76, f77, f78, f79, f80, f81, f82, f83, f84, f85, f86, f87, f88, f89, f90, f91, f92, f93, f94, f95, f96, f97, f98, f99, f100, f101, f102, f103, f104, f105, f106, f107, f108, f109, f110, f111, f112, f113, f114, f115, f116, f117, f118, f119, f120, f121, f122, f123, f124, f125, f126, f127, f128, f129, f130, f131, f132, f133, f134, f135, f136, f137, f138, f139, f140, f141, f142, f143, f144, f145, f146, f147, f148, f149, f150, f151, f152, f153, f154, f155, f156, f157, f158, f159, f160, f161, f162, f163, f164, f165, f166, f167, f168, f169, f170, f171, f172, f173, f174, f175, f176, f177, f178, f179, f180, f181, f182, f183, f184, f185, f186, f187, f188, f189, f190, f191, f192, f193, f194, f195, f196, f197, f198, f199, f200, f201, f202, f203, f204, f205, f206, f207, f208, f209, f210, f211, f212, f213, f214, f215, f216, f217, f218, f219, f220, f221, f222, f223, f224, f225, f226, f227, f228, f229, f230, f231, f232, f233, f234, f235, f236, f237, f238, f239, f240, t241, t242, t243, t244, t245, t246, t247, t248, t249, t250, t251, t252, t253, t254, t255, t256, t257, t258, t259, t260, t261, t262, t263, t264, t265, t266, t267, t268, t269, t270, t271, t272, t273, t274, t275, t276, t277, t278, t279, t280, t281, t282], []⟩ wr) : ∀ c, sub [1, 1, 1, 1, 1, 1, 1, 1, 1, 1, 1, 1, 1, 1, 1, 1, 1, 1, 0, 1, 2, 2, 1, 0, 2, 1, 2, 2, 1, 0, 2, 1, 1, 1] Try.f4.body = some c → Code.wp Try.prog c Q ⟨#[f0, f1, f2, f3, f4, f5, f6, f7, f8, f9, f10, f11, f12, f13, f14, f15, .pointer (some ⟨gh, 0, none⟩), .int .i64 op, .pointer (some ⟨gl, 0, none⟩), f19, f20, f21, f22, f23, .int .i64 (b : Int), .int .i64 (p : Int), f26, f27, f28, .pointer (some ⟨hp, 0, none⟩), .bool true, f31, f32, f33, f34, f35, f36, f37, f38, f39, f40, f41, f42, f43, f44, f45, f46, f47, f48, f49, f50, f51, f52, f53, f54, f55, f56, f57, f58, f59, f60, f61, f62, f63, f64, f65, f66, f67, f68, f69, f70, f71, f72, f73, f74, f75, f76, f77, f78, f79, f80, f81, f82, f83, f84, f85, f86, f87, f88, f89, f90, f91, f92, f93, f94, f95, f96, f97, f98, f99, f100, f101, f102, f103, f104, f105, f106, f107, f108, f109, f110, f111, f112, f113, f114, f115, f116, f117, f118, f119, f120, f121, f122, f123, f124, f125, f126, f127, f128, f129, f130, f131, f132, f133, f134, f135, f136, f137, f138, f139, f140, f141, f142, f143, f144, f145, f146, f147, f148, f149, f150, f151, f152, f153, f154, f155, f156, f157, f158, f159, f160, f161, f162, f163, f164, f165, f166, f167, f168, f169, f170, f171, f172, f173, f174, f175, f176, f177, f178, f179, f180, f181, f182, f183, f184, f185, f186, f187, f188, f189, f190, f191, f192, f193, f194, f195, f196, f197, f198, f199, f200, f201, f202, f203, f204, f205, f206, f207, f208, f209, f210, f211, f212, f213, f214, f215, f216, f217, f218, f219, f220, f221, f222, f223, f224, f225, f226, f227, f228, f229, f230, f231, f232, f233, f234, f235, f236, f237, f238, f239, f240, f241, f242, f243, f244, f245, f246, f247, f248, f249, f250, f251, f252, f253, f254, f255, f256, f257, f258, f259, f260, f261, f262, f263, f264, f265, f266, f267, f268, f269, f270, f271, f272, f273, f274, f275, f276, f277, f278, f279, f280, f281, f282], []⟩ wJ := by
 refine from_path rfl ?_
 have HQ := Lib.hid hQ
 clear hQ
 subst hop
 have hb6i : (b : Int) < 6 := by omega
 go_wp2_with fail
 all_goals exact HQ.out _ _ _ _ _ _ _ _ _ _ _ _ _ _ _ _ _ _ _ _ _ _ _ _ _ _ _ _ _ _ _ _ _ _ _ _ _ _ _ _ _ _ _ (Below.refl _ _)
set_option maxHeartbeats 64000000 in
set_option maxRecDepth 100000 in
theorem chk9 (Q : Exit → Act → World → Prop) (ar3 : Ar) (s : St) (T3 : Tb) (held : Nat → List Hd) (hv : Nat → Value) (last : Hd) (opn : Nat) (op : Int) (gh gl vp3 : Nat) (wB : World) (M : Nat) (HF : Hid (ar3.Fix ∧ (∀ k, ar3.M k → wB.heap.size ≤ k ∧ k < M) ∧ M ≤ vp3)) (HFI : Hid (Fin s T3 held opn)) (HOP : Hid (∀ b : Nat, b < 6 → b = opn → op = (b : Int))) (HK0 : Hid (∀ st : St, st.off = false → readS ar3 st = ({ st with ops := st.ops + 1 }, 0)))
  (HB : Hid (wB.heap[gh]? = some (.cells #[hv 0, hv 1, hv 2, hv 3, hv 4, hv 5] 63 (0, 0)) ∧ wB.heap[gl]? = some (.cells (hdC last) 65 (0, 0)) ∧ ∀ b, b < 6 → wB.ownsRow (gh + 2) 65 7 (hv b) (held b).length (hdrC (held b)))) (b p m : Nat) (hbl : b < 6) (hpl : p < 6) (hm6 : m ≤ 1000) (wG : World) (f0 f1 f2 f3 f4 f5 f6 f7 f8 f9 f10 f11 f12 f13 f14 f15 f19 f20 f21 f22 f26 f27 f28 f29 f30 f31 f32 f33 f34 f35 f36 f37 f38 f39 f40 f41 f42 f43 f44 f45 f46 f47 f48 f49 f50 f51 f52 f53 f54 f55 f56 f57 f58 f59 f60 f61 f62 f63 f64 f65 f66 f67 f68 f69 f70 f71 f72 f73 f74 f75 f76 f77 f78 f79 f80 f81 f82 f83 f84 f85 f86 f87 f88 f89 f90 f91 f92 f93 f94 f95 f96 f97 f98 f99 f100 f101 f102 f103 f104 f105 f106 f107 f108 f109 f110 f111 f112 f113 f114 f115 f116 f117 f118 f119 f120 f121 f122 f123 f124 f125 f126 f127 f128 f129 f130 f131 f132 f133 f134 f135 f136 f137 f138 f139 f140 f141 f142 f143 f144 f145 f146 f147 f148 f149 f150 f151 f152 f153 f154 f155 f156 f157 f158 f159 f160 f161 f162 f163 f164 f165 f166 f167 f168 f169 f170 f171 f172 f173 f174 f175 f176 f177 f178 f179 f180 f181 f182 f183 f184 f185 f186 f187 f188 f189 f190 f191 f192 f193 f194 f195 f196 f197 f198 f199 f200 f201 f202 f203 f204 f205 f206 f207 f208 f209 f210 f211 f212 f213 f214 f215 f216 f217 f218 f219 f220 f221 f222 f223 f224 f225 f226 f227 f228 f229 f230 f231 f232 f233 f234 f235 f236 f237 f238 f239 f240 f241 f242 f243 f244 f245 f246 f247 f248 f249 f250 f251 f252 f253 f254 f255 f256 f257 f258 f259 f260 f261 f262 f263 f264 f265 f266 f267 f268 f269 f270 f271 f272 f273 f274 f275 f276 f277 f278 f279 f280 f281 f282 : Value) (HJ : Hid (Arr wG ar3 (fun k => k < wB.heap.size) ((⟨s.bl, 0, false⟩ : St).tick (m)) ∧ VolR wG vp3 ar3.p (fun k => M ≤ k ∧ k ≠ vp3) T3 ∧ Below wB.heap.size wB wG))
  (hQ : ∀ (t26 t27 t28 t29 t30 t225 t226 t227 t228 t229 t230 t231 t232 t233 t234 t235 t236 t237 t238 t239 t240 t241 t242 t243 t244 t245 t246 t247 t248 t249 t250 t251 t252 t253 t254 t255 t256 t257 t258 t259 t260 t261 t262 t263 t264 t265 t266 t267 t268 t269 t270 t271 t272 t273 t274 t275 t276 t277 t278 t279 t280 t281 t282 : Value) (wr : World), Hid (Arr wr ar3 (fun k => k < wB.heap.size) ((⟨s.bl, 0, false⟩ : St).tick (m + 1)) ∧ VolR wr vp3 ar3.p (fun k => M ≤ k ∧ k ≠ vp3) T3 ∧ Below wB.heap.size wB wr) → Q .normal ⟨#[f0, f1, f2, f3, f4, f5, f6, f7, f8, f9, f10, f11, f12, f13, f14, f15, .pointer (some ⟨gh, 0, none⟩), .int .i64 op, .pointer (some ⟨gl, 0, none⟩), f19, f20, f21, f22, .pointer (some ⟨vp3, 0, none⟩), .int .i64 (b : Int), .int .i64 (p : Int), t26, t27, t28, t29, t30, f31, f32, f33, f34, f35, f36, f37, f38, f39, f40, f41, f42, f43, f44, f45, f46, f47, f48, f49, f50, f51, f52, f53, f54, f55, f56, f57, f58, f59, f60, f61, f62, f63, f64, f65, f66, f67, f68, f69, f70, f71, f72, f73, f74, f75, f76, f77, f78, f79, f80, f81, f82, f83, f84, f85, f86, f87, f88, f89, f90, f91, f92, f93, f94, f95, f96, f97, f98, f99, f100, f101, f102, f103, f104, f105, f106, f107, f108, f109, f110, f111, f112, f113, f114, f115, f116, f117, f118, f119, f120, f121, f122, f123, f124, f125, f126, f127, f128, f129, f130, f131, f132, f133, f134, f135, f136, f137, f138, f139, f140, f141, f142, f143, f144, f145, f146, f147, f148, f149, f150, f151, f152, f153, f154, f155, f156, f157, f158, f159, f160, f161, f162, f163, f164, f165, f166, f167, f168, f169, f170, f171, f172, f173, f174, f175, f176, f177, f178, f179, f180, f181, f182, f183, f184, f185, f186, f187, f188, f189, f190, f191, f192, f193, f194, f195, f196, f197, f198, f199, f200, f201, f202, f203, f204, f205, f206, f207, f208, f209, f210, f211, f212, f213, f214, f215, f216, f217, f218, f219, f220, f221, f222, f223, f224, t225, t226, t227, t228, t229, t230, t231, t232, t233, t234, t235, t236, t237, t238, t239, t240, t241, t242, t243, t244, t245, t246, t247, t248, t249, t250, t251, t252, t253, t254, t255, t256, t257, t258, t259, t260, t261, t262, t263, t264, t265, t266, t267, t268, t269, t270, t271, t272, t273, t274, t275, t276, t277, t278, t279, t280, t281, t282], []⟩ wr) : ∀ c, sub [1, 1, 1, 1, 1, 1, 1, 1, 1, 1, 1, 1, 1, 1, 1, 1, 1, 1, 0, 1, 2, 2, 1, 0, 2, 1, 2, 2, 1, 0, 2] Try.f4.body = some c → Code.wp Try.prog c Q ⟨#[f0, f1, f2, f3, f4, f5, f6, f7, f8, f9, f10, f11, f12, f13, f14, f15, .pointer (some ⟨gh, 0, none⟩), .int .i64 op, .pointer (some ⟨gl, 0, none⟩), f19, f20, f21, f22, .pointer (some ⟨vp3, 0, none⟩), .int .i64 (b : Int), .int .i64 (p : Int), f26, f27, f28, f29, f30, f31, f32, f33, f34, f35, f36, f37, f38, f39, f40, f41, f42, f43, f44, f45, f46, f47, f48, f49, f50, f51, f52, f53, f54, f55, f56, f57, f58, f59, f60, f61, f62, f63, f64, f65, f66, f67, f68, f69, f70, f71, f72, f73, f74, f75, f76, f77, f78, f79, f80, f81, f82, f83, f84, f85, f86, f87, f88, f89, f90, f91, f92, f93, f94, f95, f96, f97, f98, f99, f100, f101, f102, f103, f104, f105, f106, f107, f108, f109, f110, f111, f112, f113, f114, f115, f116, f117, f118, f119, f120, f121, f122, f123, f124, f125, f126, f127, f128, f129, f130, f131, f132, f133, f134, f135, f136, f137, f138, f139, f140, f141, f142, f143, f144, f145, f146, f147, f148, f149, f150, f151, f152, f153, f154, f155, f156, f157, f158, f159, f160, f161, f162, f163, f164, f165, f166, f167, f168, f169, f170, f171, f172, f173, f174, f175, f176, f177, f178, f179, f180, f181, f182, f183, f184, f185, f186, f187, f188, f189, f190, f191, f192, f193, f194, f195, f196, f197, f198, f199, f200, f201, f202, f203, f204, f205, f206, f207, f208, f209, f210, f211, f212, f213, f214, f215, f216, f217, f218, f219, f220, f221, f222, f223, f224, f225, f226, f227, f228, f229, f230, f231, f232, f233, f234, f235, f236, f237, f238, f239, f240, f241, f242, f243, f244, f245, f246, f247, f248, f249, f250, f251, f252, f253, f254, f255, f256, f257, f258, f259, f260, f261, f262, f263, f264, f265, f266, f267, f268, f269, f270, f271, f272, f273, f274, f275, f276, f277, f278, f279, f280, f281, f282], []⟩ wG := by
 refine from_path rfl ?_
 have HQ := Lib.hid hQ
 clear hQ
 have hbi : (b : Int) < 6 := by omega
 have hpi : (p : Int) < 6 := by omega
 have har := Tb.at_rng HFI.out.ok HFI.out.len b (by omega)
 refine wp_seq_k (fun K1 h1 => ?_)
 have HK1 := Lib.hid h1
 clear h1
 go_wp2_with fail
 refine (vread_any ar3 (fun k => k < wB.heap.size) ((⟨s.bl, 0, false⟩ : St).tick m) vp3 b (T3.at b) p (fun k => M ≤ k ∧ k ≠ vp3) T3 wG HF.out.1 (fun k hk hM => by have h_ := (HF.out.2.1 k hM).1; omega) HJ.out.1 HJ.out.2.1 (by omega) har.1 har.2 hpl (by show (0 : Int) ≤ 0 + (m : Int); omega) (by show (0 : Int) + (m : Int) ≤ 1000000; omega)).mono ?_
 rintro e wH ⟨dv, ov, rfl, hAH, hMH, hRH⟩
 have hr0 := HK0.out ((⟨s.bl, 0, false⟩ : St).tick m) rfl
 rw [hr0] at hAH hRH ⊢
 obtain ⟨D, cd, O, co, rfl, rfl, r1, r2, r3, r4, -, -⟩ := hRH rfl
 obtain ⟨⟨y1, y2⟩, hy⟩ : ∃ y, pgD ((s.bl (T3.at b)).pg p) = y := ⟨_, rfl⟩
 have hby := HJ.out.1.pgbyt (T3.at b) p har.2 hpl
 rw [show ((⟨s.bl, 0, false⟩ : St).tick m).bl = s.bl from rfl, hy] at r3 r4 hby
 have HH := Lib.hid (show Arr wH ar3 (fun k => k < wB.heap.size) ((⟨s.bl, 0, false⟩ : St).tick (m + 1)) ∧ VolR wH vp3 ar3.p (fun k => M ≤ k ∧ k ≠ vp3) T3 ∧ Below wB.heap.size wB wH from ⟨by rw [tick_succ]; exact hAH, HJ.out.2.1.mods hMH (fun hM => by have h_ := (HF.out.2.1 _ hM).2; have h2_ := HF.out.2.2; omega) (fun k hk hM => by have h_ := (HF.out.2.1 k hM).2; omega), HJ.out.2.2.trans (hMH.below HJ.out.2.2.size (fun i hi => (HF.out.2.1 i hi).1))⟩)
 have HRD := Lib.hid (And.intro r1 (And.intro r2 (And.intro r3 (And.intro r4 hby))))
 have HY := Lib.hid hy
 clear hAH hMH hRH hr0 r1 r2 r3 r4 hby hy HJ har
 go_wp2_with fail
 refine HK1.out _ _ ?_
 refine wp_seq_k (fun K2 h2 => ?_)
 have HK2 := Lib.hid h2
 clear h2 HK1
 go_wp2_with fail
 refine HK2.out _ _ ?_
 refine wp_seq_k (fun K3 h3 => ?_)
 have HK3 := Lib.hid h3
 clear h3 HK2
 go_wp2_with fail
 refine (open_any (some O) (some D) co 256 cd 64 y2 y1 wH HRD.out.2.2.2.1 HRD.out.2.2.2.2.2 HRD.out.2.1 HRD.out.2.2.1 HRD.out.2.2.2.2.1 HRD.out.1).mono ?_
 rintro e wI ⟨hbI, rfl⟩
 have hown := HB.out.2.2 b hbl
 obtain ⟨A9, c9, hA9⟩ := own_sln hown
 have HI2 := Lib.hid (show Below wH.heap.size wH wI from hbI)
 obtain ⟨nb, hnb⟩ : ∃ nb, (held b).length = nb := ⟨_, rfl⟩
 obtain ⟨ob, hob⟩ : ∃ ob, openB y1 y2 = ob := ⟨_, rfl⟩
 obtain ⟨⟨hk_, he_, hb_, hi_, hc_, hl_, hm_⟩, hhd⟩ : ∃ h, openR y1 y2 = h := ⟨_, rfl⟩
 rw [hob, hhd]
 simp only [hdC]
 clear hbI
 have HOW := Lib.hid (And.intro hown (And.intro hA9 (And.intro hnb (And.intro hob hhd))))
 clear hown hA9 hnb hob hhd
 go_wp2_with fail
 obtain ⟨hp, hhp⟩ : ∃ hp, wI.heap.size = hp := ⟨_, rfl⟩
 obtain ⟨wJ, hwJ⟩ : ∃ wJ, wI.alloc (.cells #[.int .u8 hk_, .int .u32 he_, .int .u32 hb_, .int .u16 hi_, .int .u16 hc_, .int .u32 hl_, .int .u32 hm_] 65) = wJ := ⟨_, rfl⟩
 rw [hwJ]
 try rw [hhp]
 refine HK3.out _ _ ?_
 have hbJ : Below wI.heap.size wI wJ := by rw [← hwJ]; exact bl_alloc (Below.refl _ _) _
 have hBJ : Below wB.heap.size wB wJ := HH.out.2.2.trans (below_mono (bl_seq HI2.out hbJ) HH.out.2.2.size)
 have HE : ∀ wr, Below wJ.heap.size wJ wr → Hid (Arr wr ar3 (fun k => k < wB.heap.size) ((⟨s.bl, 0, false⟩ : St).tick (m + 1)) ∧ VolR wr vp3 ar3.p (fun k => M ≤ k ∧ k ≠ vp3) T3 ∧ Below wB.heap.size wB wr) := fun wr hr => by
  exact Lib.hid ⟨HH.out.1.below (bl_seq (bl_seq HI2.out hbJ) hr), HH.out.2.1.below (bl_seq (bl_seq HI2.out hbJ) hr), hBJ.trans (below_mono hr hBJ.size)⟩
 have hgh : wJ.heap[gh]? = _ := blk_below HB.out.1 hBJ
 have hgl : wJ.heap[gl]? = _ := blk_below HB.out.2.1 hBJ
 have hhpJ : wJ.heap[hp]? = some (.cells #[.int .u8 hk_, .int .u32 he_, .int .u32 hb_, .int .u16 hi_, .int .u16 hc_, .int .u32 hl_, .int .u32 hm_] 65 (0, 0)) := by rw [← hwJ, ← hhp]; exact heap_alloc_new wI _
 obtain ⟨hown, hA9, hnb, hob, hhd⟩ := HOW.out
 have hcb : (#[hv 0, hv 1, hv 2, hv 3, hv 4, hv 5] : Array Value)[b]? = some (.slice A9 (held b).length c9) := by
  rw [← hA9]
  match b, hbl with
  | 0, _ => rfl
  | 1, _ => rfl
  | 2, _ => rfl
  | 3, _ => rfl
  | 4, _ => rfl
  | 5, _ => rfl
 have zb : wJ.cell? ⟨gh, b, none⟩ = some (.slice A9 nb c9) := by rw [← hnb]; exact (blk_cell hgh b).trans hcb
 by_cases hlt : p < nb
 ·obtain ⟨hh, hhe⟩ : ∃ h, (held b)[p]? = some h := ⟨_, List.getElem?_eq_getElem (by omega)⟩
  obtain ⟨y, g1, g2, g3, -⟩ := HFI.out.yes b hbl p hh hhe
  have hyy := HY.out
  rw [g1] at hyy
  have hy2 : y = (y1, y2) := hyy
  subst hy2
  simp only at g2 g3
  rw [hob] at g2
  rw [hhd] at g3
  subst g2
  have HZ := hdrC_at (held b) p hh hhe
  rw [← g3] at HZ
  rcases hown.2 with ⟨-, h0_⟩ | ⟨gr, cap, cur, he9, -, hr9, -, -, -, ht9⟩
  ·omega
  rw [hA9] at he9
  simp only [Value.slice.injEq] at he9
  obtain ⟨rfl, -, rfl⟩ := he9
  have hrJ : wJ.heap[gr]? = _ := blk_below hr9 hBJ
  have zr : ∀ i, i < 7 → wJ.cell? ⟨gr, p * 7 + i, none⟩ = (hdC ⟨hk_, he_, hb_, hi_, hc_, hl_, hm_⟩)[i]? := fun i hi => by
   rw [blk_cell hrJ, ← HZ i hi]
   have hlt7 : p * 7 + i < (hdrC (held b)).length := by rw [hdrC_len]; omega
   rw [List.getElem?_eq_getElem hlt7]
   exact take_cell ht9 (List.getElem?_eq_getElem hlt7)
  refine chk10a _ gh gl hp gr b p nb c9 op hk_ he_ hb_ hi_ hc_ hl_ hm_ wJ _ _ _ _ _ _ _ _ _ _ _ _ _ _ _ _ _ _ _ _ _ _ _ _ _ _ _ _ _ _ _ _ _ _ _ _ _ _ _ _ _ _ _ _ _ _ _ _ _ _ _ _ _ _ _ _ _ _ _ _ _ _ _ _ _ _ _ _ _ _ _ _ _ _ _ _ _ _ _ _ _ _ _ _ _ _ _ _ _ _ _ _ _ _ _ _ _ _ _ _ _ _ _ _ _ _ _ _ _ _ _ _ _ _ _ _ _ _ _ _ _ _ _ _ _ _ _ _ _ _ _ _ _ _ _ _ _ _ _ _ _ _ _ _ _ _ _ _ _ _ _ _ _ _ _ _ _ _ _ _ _ _ _ _ _ _ _ _ _ _ _ _ _ _ _ _ _ _ _ _ _ _ _ _ _ _ _ _ _ _ _ _ _ _ _ _ _ _ _ _ _ _ _ _ _ _ _ _ _ _ _ _ _ _ _ _ _ _ _ _ _ _ _ _ _ _ _ _ _ _ _ _ _ _ _ _ _ _ _ _ _ _ _ _ _ _ _ _ _ _ _ _ _ _ _ _ _ _ _ _ _ _ _ _ _ _ _ _ _ _ _ _ _ _ _ _ hbl hlt zb ((blk_cell hhpJ 0).trans rfl) ((blk_cell hhpJ 1).trans rfl) ((blk_cell hhpJ 2).trans rfl) ((blk_cell hhpJ 3).trans rfl) ((blk_cell hhpJ 4).trans rfl) ((blk_cell hhpJ 5).trans rfl) ((blk_cell hhpJ 6).trans rfl) (zr 0 (by decide)) (zr 1 (by decide)) (zr 2 (by decide)) (zr 3 (by decide)) (zr 4 (by decide)) (zr 5 (by decide)) (zr 6 (by decide)) (fun t241 t242 t243 t244 t245 t246 t247 t248 t249 t250 t251 t252 t253 t254 t255 t256 t257 t258 t259 t260 t261 t262 t263 t264 t265 t266 t267 t268 t269 t270 t271 t272 t273 t274 t275 t276 t277 t278 t279 t280 t281 t282 wr hr => ?_) _ rfl
  exact HQ.out _ _ _ _ _ _ _ _ _ _ _ _ _ _ _ _ _ _ _ _ _ _ _ _ _ _ _ _ _ _ _ _ _ _ _ _ _ _ _ _ _ _ _ _ _ _ _ _ _ _ _ _ _ _ _ _ _ _ _ _ _ _ _ _ (HE wr hr)
 ·cases ob with
  | false =>
   refine chk10b _ gh gl hp b p nb c9 A9 op wJ _ _ _ _ _ _ _ _ _ _ _ _ _ _ _ _ _ _ _ _ _ _ _ _ _ _ _ _ _ _ _ _ _ _ _ _ _ _ _ _ _ _ _ _ _ _ _ _ _ _ _ _ _ _ _ _ _ _ _ _ _ _ _ _ _ _ _ _ _ _ _ _ _ _ _ _ _ _ _ _ _ _ _ _ _ _ _ _ _ _ _ _ _ _ _ _ _ _ _ _ _ _ _ _ _ _ _ _ _ _ _ _ _ _ _ _ _ _ _ _ _ _ _ _ _ _ _ _ _ _ _ _ _ _ _ _ _ _ _ _ _ _ _ _ _ _ _ _ _ _ _ _ _ _ _ _ _ _ _ _ _ _ _ _ _ _ _ _ _ _ _ _ _ _ _ _ _ _ _ _ _ _ _ _ _ _ _ _ _ _ _ _ _ _ _ _ _ _ _ _ _ _ _ _ _ _ _ _ _ _ _ _ _ _ _ _ _ _ _ _ _ _ _ _ _ _ _ _ _ _ _ _ _ _ _ _ _ _ _ _ _ _ _ _ _ _ _ _ _ _ _ _ _ _ _ _ _ _ _ _ _ _ _ _ _ _ _ _ _ _ _ _ _ _ _ _ hbl hlt zb (fun t241 t242 t243 t244 t245 t246 t247 t248 t249 t250 t251 t252 t253 t254 t255 t256 t257 t258 t259 t260 t261 t262 t263 t264 t265 t266 t267 t268 t269 t270 t271 t272 t273 t274 t275 t276 t277 t278 t279 t280 t281 t282 wr hr => ?_) _ rfl
   exact HQ.out _ _ _ _ _ _ _ _ _ _ _ _ _ _ _ _ _ _ _ _ _ _ _ _ _ _ _ _ _ _ _ _ _ _ _ _ _ _ _ _ _ _ _ _ _ _ _ _ _ _ _ _ _ _ _ _ _ _ _ _ _ _ _ _ (HE wr hr)
  | true =>
   have hno : b = opn ∧ held b = [] := by
    rcases HFI.out.no b hbl p (by omega) hpl with z | z
    ·rw [HY.out] at z; simp only at z; rw [hob] at z; cases z
    ·exact z
   have hn0 : nb = 0 := by rw [← hnb, hno.2]; rfl
   subst hn0
   obtain ⟨k2, e2, b2, i2, c2, l2, m2⟩ := last
   refine chk10c _ gh gl hp b p c9 A9 op hk_ he_ hb_ hi_ hc_ hl_ hm_ k2 e2 b2 i2 c2 l2 m2 wJ _ _ _ _ _ _ _ _ _ _ _ _ _ _ _ _ _ _ _ _ _ _ _ _ _ _ _ _ _ _ _ _ _ _ _ _ _ _ _ _ _ _ _ _ _ _ _ _ _ _ _ _ _ _ _ _ _ _ _ _ _ _ _ _ _ _ _ _ _ _ _ _ _ _ _ _ _ _ _ _ _ _ _ _ _ _ _ _ _ _ _ _ _ _ _ _ _ _ _ _ _ _ _ _ _ _ _ _ _ _ _ _ _ _ _ _ _ _ _ _ _ _ _ _ _ _ _ _ _ _ _ _ _ _ _ _ _ _ _ _ _ _ _ _ _ _ _ _ _ _ _ _ _ _ _ _ _ _ _ _ _ _ _ _ _ _ _ _ _ _ _ _ _ _ _ _ _ _ _ _ _ _ _ _ _ _ _ _ _ _ _ _ _ _ _ _ _ _ _ _ _ _ _ _ _ _ _ _ _ _ _ _ _ _ _ _ _ _ _ _ _ _ _ _ _ _ _ _ _ _ _ _ _ _ _ _ _ _ _ _ _ _ _ _ _ _ _ _ _ _ _ _ _ _ _ _ _ _ _ _ _ _ _ _ _ _ _ _ _ _ _ _ _ _ _ _ hbl (HOP.out b hbl hno.1) zb ((blk_cell hhpJ 0).trans rfl) ((blk_cell hhpJ 1).trans rfl) ((blk_cell hhpJ 2).trans rfl) ((blk_cell hhpJ 3).trans rfl) ((blk_cell hhpJ 4).trans rfl) ((blk_cell hhpJ 5).trans rfl) ((blk_cell hhpJ 6).trans rfl) ((blk_cell hgl 0).trans rfl) ((blk_cell hgl 1).trans rfl) ((blk_cell hgl 2).trans rfl) ((blk_cell hgl 3).trans rfl) ((blk_cell hgl 4).trans rfl) ((blk_cell hgl 5).trans rfl) ((blk_cell hgl 6).trans rfl) (fun t241 t242 t243 t244 t245 t246 t247 t248 t249 t250 t251 t252 t253 t254 t255 t256 t257 t258 t259 t260 t261 t262 t263 t264 t265 t266 t267 t268 t269 t270 t271 t272 t273 t274 t275 t276 t277 t278 t279 t280 t281 t282 wr hr => ?_) _ rfl
   exact HQ.out _ _ _ _ _ _ _ _ _ _ _ _ _ _ _ _ _ _ _ _ _ _ _ _ _ _ _ _ _ _ _ _ _ _ _ _ _ _ _ _ _ _ _ _ _ _ _ _ _ _ _ _ _ _ _ _ _ _ _ _ _ _ _ _ (HE wr hr)
end Go.Proofs.Ytffalemndjampaa
end
section
set_option linter.unusedVariables false
set_option linter.unusedSimpArgs false
namespace Go.Proofs.Ytffalemndjampaa
open Go.RowKit Go.Proofs.YtffalemndjampaaW.PrintWords Go.Proofs.YtffalemndjampaaW.PrintLast
set_option maxHeartbeats 64000000 in
set_option maxRecDepth 100000 in
theorem chk8 (Q : Exit → Act → World → Prop) (ar3 : Ar) (s : St) (T3 : Tb) (held : Nat → List Hd) (hv : Nat → Value) (last : Hd) (opn : Nat) (op : Int) (gh gl vp3 : Nat) (wB : World) (M : Nat) (HF : Hid (ar3.Fix ∧ (∀ k, ar3.M k → wB.heap.size ≤ k ∧ k < M) ∧ M ≤ vp3)) (HFI : Hid (Fin s T3 held opn)) (HOP : Hid (∀ b : Nat, b < 6 → b = opn → op = (b : Int))) (HK0 : Hid (∀ st : St, st.off = false → readS ar3 st = ({ st with ops := st.ops + 1 }, 0)))
  (HB : Hid (wB.heap[gh]? = some (.cells #[hv 0, hv 1, hv 2, hv 3, hv 4, hv 5] 63 (0, 0)) ∧ wB.heap[gl]? = some (.cells (hdC last) 65 (0, 0)) ∧ ∀ b, b < 6 → wB.ownsRow (gh + 2) 65 7 (hv b) (held b).length (hdrC (held b)))) (b m : Nat) (hbl : b < 6) (hm9 : m ≤ 900) (wF : World) (f0 f1 f2 f3 f4 f5 f6 f7 f8 f9 f10 f11 f12 f13 f14 f15 f19 f20 f21 f22 f26 f27 f28 f29 f30 f31 f32 f33 f34 f35 f36 f37 f38 f39 f40 f41 f42 f43 f44 f45 f46 f47 f48 f49 f50 f51 f52 f53 f54 f55 f56 f57 f58 f59 f60 f61 f62 f63 f64 f65 f66 f67 f68 f69 f70 f71 f72 f73 f74 f75 f76 f77 f78 f79 f80 f81 f82 f83 f84 f85 f86 f87 f88 f89 f90 f91 f92 f93 f94 f95 f96 f97 f98 f99 f100 f101 f102 f103 f104 f105 f106 f107 f108 f109 f110 f111 f112 f113 f114 f115 f116 f117 f118 f119 f120 f121 f122 f123 f124 f125 f126 f127 f128 f129 f130 f131 f132 f133 f134 f135 f136 f137 f138 f139 f140 f141 f142 f143 f144 f145 f146 f147 f148 f149 f150 f151 f152 f153 f154 f155 f156 f157 f158 f159 f160 f161 f162 f163 f164 f165 f166 f167 f168 f169 f170 f171 f172 f173 f174 f175 f176 f177 f178 f179 f180 f181 f182 f183 f184 f185 f186 f187 f188 f189 f190 f191 f192 f193 f194 f195 f196 f197 f198 f199 f200 f201 f202 f203 f204 f205 f206 f207 f208 f209 f210 f211 f212 f213 f214 f215 f216 f217 f218 f219 f220 f221 f222 f223 f224 f225 f226 f227 f228 f229 f230 f231 f232 f233 f234 f235 f236 f237 f238 f239 f240 f241 f242 f243 f244 f245 f246 f247 f248 f249 f250 f251 f252 f253 f254 f255 f256 f257 f258 f259 f260 f261 f262 f263 f264 f265 f266 f267 f268 f269 f270 f271 f272 f273 f274 f275 f276 f277 f278 f279 f280 f281 f282 : Value) (HJ : Hid (Arr wF ar3 (fun k => k < wB.heap.size) ((⟨s.bl, 0, false⟩ : St).tick (m)) ∧ VolR wF vp3 ar3.p (fun k => M ≤ k ∧ k ≠ vp3) T3 ∧ Below wB.heap.size wB wF))
  (hQ : ∀ (t2 t25 t26 t27 t28 t29 t30 t221 t222 t223 t224 t225 t226 t227 t228 t229 t230 t231 t232 t233 t234 t235 t236 t237 t238 t239 t240 t241 t242 t243 t244 t245 t246 t247 t248 t249 t250 t251 t252 t253 t254 t255 t256 t257 t258 t259 t260 t261 t262 t263 t264 t265 t266 t267 t268 t269 t270 t271 t272 t273 t274 t275 t276 t277 t278 t279 t280 t281 t282 : Value) (m' : Nat) (wr : World), m' ≤ m + 6 → Hid (Arr wr ar3 (fun k => k < wB.heap.size) ((⟨s.bl, 0, false⟩ : St).tick (m')) ∧ VolR wr vp3 ar3.p (fun k => M ≤ k ∧ k ≠ vp3) T3 ∧ Below wB.heap.size wB wr) → Q .normal ⟨#[f0, f1, t2, f3, f4, f5, f6, f7, f8, f9, f10, f11, f12, f13, f14, f15, .pointer (some ⟨gh, 0, none⟩), .int .i64 op, .pointer (some ⟨gl, 0, none⟩), f19, f20, f21, f22, .pointer (some ⟨vp3, 0, none⟩), .int .i64 (b : Int), t25, t26, t27, t28, t29, t30, f31, f32, f33, f34, f35, f36, f37, f38, f39, f40, f41, f42, f43, f44, f45, f46, f47, f48, f49, f50, f51, f52, f53, f54, f55, f56, f57, f58, f59, f60, f61, f62, f63, f64, f65, f66, f67, f68, f69, f70, f71, f72, f73, f74, f75, f76, f77, f78, f79, f80, f81, f82, f83, f84, f85, f86, f87, f88, f89, f90, f91, f92, f93, f94, f95, f96, f97, f98, f99, f100, f101, f102, f103, f104, f105, f106, f107, f108, f109, f110, f111, f112, f113, f114, f115, f116, f117, f118, f119, f120, f121, f122, f123, f124, f125, f126, f127, f128, f129, f130, f131, f132, f133, f134, f135, f136, f137, f138, f139, f140, f141, f142, f143, f144, f145, f146, f147, f148, f149, f150, f151, f152, f153, f154, f155, f156, f157, f158, f159, f160, f161, f162, f163, f164, f165, f166, f167, f168, f169, f170, f171, f172, f173, f174, f175, f176, f177, f178, f179, f180, f181, f182, f183, f184, f185, f186, f187, f188, f189, f190, f191, f192, f193, f194, f195, f196, f197, f198, f199, f200, f201, f202, f203, f204, f205, f206, f207, f208, f209, f210, f211, f212, f213, f214, f215, f216, f217, f218, f219, f220, t221, t222, t223, t224, t225, t226, t227, t228, t229, t230, t231, t232, t233, t234, t235, t236, t237, t238, t239, t240, t241, t242, t243, t244, t245, t246, t247, t248, t249, t250, t251, t252, t253, t254, t255, t256, t257, t258, t259, t260, t261, t262, t263, t264, t265, t266, t267, t268, t269, t270, t271, t272, t273, t274, t275, t276, t277, t278, t279, t280, t281, t282], []⟩ wr) : ∀ c, sub [1, 1, 1, 1, 1, 1, 1, 1, 1, 1, 1, 1, 1, 1, 1, 1, 1, 1, 0, 1, 2, 2, 1, 0, 2, 1] Try.f4.body = some c → Code.wp Try.prog c Q ⟨#[f0, f1, f2, f3, f4, f5, f6, f7, f8, f9, f10, f11, f12, f13, f14, f15, .pointer (some ⟨gh, 0, none⟩), .int .i64 op, .pointer (some ⟨gl, 0, none⟩), f19, f20, f21, f22, .pointer (some ⟨vp3, 0, none⟩), .int .i64 (b : Int), .int .i64 0, f26, f27, f28, f29, f30, f31, f32, f33, f34, f35, f36, f37, f38, f39, f40, f41, f42, f43, f44, f45, f46, f47, f48, f49, f50, f51, f52, f53, f54, f55, f56, f57, f58, f59, f60, f61, f62, f63, f64, f65, f66, f67, f68, f69, f70, f71, f72, f73, f74, f75, f76, f77, f78, f79, f80, f81, f82, f83, f84, f85, f86, f87, f88, f89, f90, f91, f92, f93, f94, f95, f96, f97, f98, f99, f100, f101, f102, f103, f104, f105, f106, f107, f108, f109, f110, f111, f112, f113, f114, f115, f116, f117, f118, f119, f120, f121, f122, f123, f124, f125, f126, f127, f128, f129, f130, f131, f132, f133, f134, f135, f136, f137, f138, f139, f140, f141, f142, f143, f144, f145, f146, f147, f148, f149, f150, f151, f152, f153, f154, f155, f156, f157, f158, f159, f160, f161, f162, f163, f164, f165, f166, f167, f168, f169, f170, f171, f172, f173, f174, f175, f176, f177, f178, f179, f180, f181, f182, f183, f184, f185, f186, f187, f188, f189, f190, f191, f192, f193, f194, f195, f196, f197, f198, f199, f200, f201, f202, f203, f204, f205, f206, f207, f208, f209, f210, f211, f212, f213, f214, f215, f216, f217, f218, f219, f220, f221, f222, f223, f224, f225, f226, f227, f228, f229, f230, f231, f232, f233, f234, f235, f236, f237, f238, f239, f240, f241, f242, f243, f244, f245, f246, f247, f248, f249, f250, f251, f252, f253, f254, f255, f256, f257, f258, f259, f260, f261, f262, f263, f264, f265, f266, f267, f268, f269, f270, f271, f272, f273, f274, f275, f276, f277, f278, f279, f280, f281, f282], []⟩ wF := by
 refine from_path rfl ?_
 have HQ := Lib.hid hQ
 clear hQ
 go_wp2_with fail
 go_loopw [25] (fun pv wr => ∃ (p m' : Nat), pv = .int .i64 (p : Int) ∧ p ≤ 6 ∧ m' ≤ m + p ∧ Hid (Arr wr ar3 (fun k => k < wB.heap.size) ((⟨s.bl, 0, false⟩ : St).tick (m')) ∧ VolR wr vp3 ar3.p (fun k => M ≤ k ∧ k ≠ vp3) T3 ∧ Below wB.heap.size wB wr)) (fun pv _ => 6 - (intOf pv).toNat)
 case atStart => exact ⟨0, m, rfl, by decide, by omega, HJ⟩
 case round =>
  obtain ⟨p, m', rfl, hp6, hm', HI⟩ := hrel
  generalize wr = wG at HI ⊢
  by_cases hpl : p < 6
  ·have hpi : (p : Int) < 6 := by omega
   refine wp_seq_k (fun K1 h1 => ?_)
   have HK1 := Lib.hid h1
   clear h1
   go_wp2_with fail
   refine HK1.out _ _ ?_
   refine wp_seq_k (fun K2 h2 => ?_)
   have HK2 := Lib.hid h2
   clear h2 HK1
   refine wp_block ?_
   refine chk9 _ ar3 s T3 held hv last opn op gh gl vp3 wB M HF HFI HOP HK0 HB b p m' hbl hpl (by omega) wG _ _ _ _ _ _ _ _ _ _ _ _ _ _ _ _ _ _ _ _ _ _ _ _ _ _ _ _ _ _ _ _ _ _ _ _ _ _ _ _ _ _ _ _ _ _ _ _ _ _ _ _ _ _ _ _ _ _ _ _ _ _ _ _ _ _ _ _ _ _ _ _ _ _ _ _ _ _ _ _ _ _ _ _ _ _ _ _ _ _ _ _ _ _ _ _ _ _ _ _ _ _ _ _ _ _ _ _ _ _ _ _ _ _ _ _ _ _ _ _ _ _ _ _ _ _ _ _ _ _ _ _ _ _ _ _ _ _ _ _ _ _ _ _ _ _ _ _ _ _ _ _ _ _ _ _ _ _ _ _ _ _ _ _ _ _ _ _ _ _ _ _ _ _ _ _ _ _ _ _ _ _ _ _ _ _ _ _ _ _ _ _ _ _ _ _ _ _ _ _ _ _ _ _ _ _ _ _ _ _ _ _ _ _ _ _ _ _ _ _ _ _ _ _ _ _ _ _ _ _ _ _ _ _ _ _ _ _ _ _ _ _ _ _ _ _ _ _ _ _ _ _ _ _ _ _ _ _ _ _ _ _ _ _ _ _ _ _ _ _ _ _ _ _ _ _ _ HI (fun t26 t27 t28 t29 t30 t225 t226 t227 t228 t229 t230 t231 t232 t233 t234 t235 t236 t237 t238 t239 t240 t241 t242 t243 t244 t245 t246 t247 t248 t249 t250 t251 t252 t253 t254 t255 t256 t257 t258 t259 t260 t261 t262 t263 t264 t265 t266 t267 t268 t269 t270 t271 t272 t273 t274 t275 t276 t277 t278 t279 t280 t281 t282 wr HJ2 => ?_) _ rfl
   refine HK2.out _ _ ?_
   clear HK2
   go_wp2_with fail
   go_roundw
   case rel => exact ⟨p + 1, m' + 1, by go_num, by omega, by omega, HJ2⟩
   case measure => simp [intOf]; omega
  ·obtain rfl : p = 6 := by omega
   go_wp2_with fail
   exact HQ.out _ _ _ _ _ _ _ _ _ _ _ _ _ _ _ _ _ _ _ _ _ _ _ _ _ _ _ _ _ _ _ _ _ _ _ _ _ _ _ _ _ _ _ _ _ _ _ _ _ _ _ _ _ _ _ _ _ _ _ _ _ _ _ _ _ _ _ _ _ m' _ hm' HI
set_option maxHeartbeats 64000000 in
set_option maxRecDepth 100000 in
theorem chkT (w : World) (ar3 : Ar) (s : St) (T3 : Tb) (held : Nat → List Hd) (hv : Nat → Value) (last : Hd) (opn : Nat) (op : Int) (gh gl vp3 : Nat) (wB : World) (M : Nat) (HF : Hid (ar3.Fix ∧ (∀ k, ar3.M k → wB.heap.size ≤ k ∧ k < M) ∧ M ≤ vp3)) (HFI : Hid (Fin s T3 held opn)) (HOP : Hid (∀ b : Nat, b < 6 → b = opn → op = (b : Int))) (HK0 : Hid (∀ st : St, st.off = false → readS ar3 st = ({ st with ops := st.ops + 1 }, 0)))
  (HB : Hid (wB.heap[gh]? = some (.cells #[hv 0, hv 1, hv 2, hv 3, hv 4, hv 5] 63 (0, 0)) ∧ wB.heap[gl]? = some (.cells (hdC last) 65 (0, 0)) ∧ ∀ b, b < 6 → wB.ownsRow (gh + 2) 65 7 (hv b) (held b).length (hdrC (held b)))) (hBw : Hid (Below w.heap.size w wB)) (m3 : Nat) (hm3 : m3 ≤ 64) (wD : World) (f0 f1 f2 f3 f4 f5 f6 f7 f8 f9 f10 f11 f12 f13 f14 f15 f19 f20 f21 f22 f24 f25 f26 f27 f28 f29 f30 f31 f32 f33 f34 f35 f36 f37 f38 f39 f40 f41 f42 f43 f44 f45 f46 f47 f48 f49 f50 f51 f52 f53 f54 f55 f56 f57 f58 f59 f60 f61 f62 f63 f64 f65 f66 f67 f68 f69 f70 f71 f72 f73 f74 f75 f76 f77 f78 f79 f80 f81 f82 f83 f84 f85 f86 f87 f88 f89 f90 f91 f92 f93 f94 f95 f96 f97 f98 f99 f100 f101 f102 f103 f104 f105 f106 f107 f108 f109 f110 f111 f112 f113 f114 f115 f116 f117 f118 f119 f120 f121 f122 f123 f124 f125 f126 f127 f128 f129 f130 f131 f132 f133 f134 f135 f136 f137 f138 f139 f140 f141 f142 f143 f144 f145 f146 f147 f148 f149 f150 f151 f152 f153 f154 f155 f156 f157 f158 f159 f160 f161 f162 f163 f164 f165 f166 f167 f168 f169 f170 f171 f172 f173 f174 f175 f176 f177 f178 f179 f180 f181 f182 f183 f184 f185 f186 f187 f188 f189 f190 f191 f192 f193 f194 f195 f196 f197 f198 f199 f200 f201 f202 f203 f204 f205 f206 f207 f208 f209 f210 f211 f212 f213 f214 f215 f216 f217 f218 f219 f220 f221 f222 f223 f224 f225 f226 f227 f228 f229 f230 f231 f232 f233 f234 f235 f236 f237 f238 f239 f240 f241 f242 f243 f244 f245 f246 f247 f248 f249 f250 f251 f252 f253 f254 f255 f256 f257 f258 f259 f260 f261 f262 f263 f264 f265 f266 f267 f268 f269 f270 f271 f272 f273 f274 f275 f276 f277 f278 f279 f280 f281 f282 : Value) (HD : Hid (Arr wD ar3 (fun k => k < wB.heap.size) ((⟨s.bl, 0, false⟩ : St).tick (m3)) ∧ VolR wD vp3 ar3.p (fun k => M ≤ k ∧ k ≠ vp3) T3 ∧ Below wB.heap.size wB wD)) : ∀ c, sub [1, 1, 1, 1, 1, 1, 1, 1, 1, 1, 1, 1, 1, 1, 1, 1, 1, 1] Try.f4.body = some c → Code.wp Try.prog c (bodyPost Try.prog Try.f4 fun e w' => e = .returned (.bool true) ∧ Below w.heap.size w w') ⟨#[f0, f1, f2, f3, f4, f5, f6, f7, f8, f9, f10, f11, f12, f13, f14, f15, .pointer (some ⟨gh, 0, none⟩), .int .i64 op, .pointer (some ⟨gl, 0, none⟩), f19, f20, f21, f22, .pointer (some ⟨vp3, 0, none⟩), f24, f25, f26, f27, f28, f29, f30, f31, f32, f33, f34, f35, f36, f37, f38, f39, f40, f41, f42, f43, f44, f45, f46, f47, f48, f49, f50, f51, f52, f53, f54, f55, f56, f57, f58, f59, f60, f61, f62, f63, f64, f65, f66, f67, f68, f69, f70, f71, f72, f73, f74, f75, f76, f77, f78, f79, f80, f81, f82, f83, f84, f85, f86, f87, f88, f89, f90, f91, f92, f93, f94, f95, f96, f97, f98, f99, f100, f101, f102, f103, f104, f105, f106, f107, f108, f109, f110, f111, f112, f113, f114, f115, f116, f117, f118, f119, f120, f121, f122, f123, f124, f125, f126, f127, f128, f129, f130, f131, f132, f133, f134, f135, f136, f137, f138, f139, f140, f141, f142, f143, f144, f145, f146, f147, f148, f149, f150, f151, f152, f153, f154, f155, f156, f157, f158, f159, f160, f161, f162, f163, f164, f165, f166, f167, f168, f169, f170, f171, f172, f173, f174, f175, f176, f177, f178, f179, f180, f181, f182, f183, f184, f185, f186, f187, f188, f189, f190, f191, f192, f193, f194, f195, f196, f197, f198, f199, f200, f201, f202, f203, f204, f205, f206, f207, f208, f209, f210, f211, f212, f213, f214, f215, f216, f217, f218, f219, f220, f221, f222, f223, f224, f225, f226, f227, f228, f229, f230, f231, f232, f233, f234, f235, f236, f237, f238, f239, f240, f241, f242, f243, f244, f245, f246, f247, f248, f249, f250, f251, f252, f253, f254, f255, f256, f257, f258, f259, f260, f261, f262, f263, f264, f265, f266, f267, f268, f269, f270, f271, f272, f273, f274, f275, f276, f277, f278, f279, f280, f281, f282], []⟩ wD := by
 refine from_path rfl ?_
 go_wp2_with fail
 go_loopw [24] (fun bv wr => ∃ (b m : Nat), bv = .int .i64 (b : Int) ∧ b ≤ 6 ∧ m ≤ 64 + 6 * b ∧ Hid (Arr wr ar3 (fun k => k < wB.heap.size) ((⟨s.bl, 0, false⟩ : St).tick (m)) ∧ VolR wr vp3 ar3.p (fun k => M ≤ k ∧ k ≠ vp3) T3 ∧ Below wB.heap.size wB wr)) (fun bv _ => 6 - (intOf bv).toNat)
 case atStart => exact ⟨0, m3, rfl, by decide, by omega, HD⟩
 case round =>
  obtain ⟨b, m, rfl, hb6, hm6, HI⟩ := hrel
  generalize wr = wF at HI ⊢
  by_cases hbl : b < 6
  ·have hbi : (b : Int) < 6 := by omega
   refine wp_seq_k (fun K1 h1 => ?_)
   have HK1 := Lib.hid h1
   clear h1
   go_wp2_with fail
   refine HK1.out _ _ ?_
   refine wp_seq_k (fun K2 h2 => ?_)
   have HK2 := Lib.hid h2
   clear h2 HK1
   refine wp_block ?_
   refine wp_seq_k (fun K3 h3 => ?_)
   have HK3 := Lib.hid h3
   clear h3
   go_wp2_with fail
   refine HK3.out _ _ ?_
   clear HK3
   refine chk8 _ ar3 s T3 held hv last opn op gh gl vp3 wB M HF HFI HOP HK0 HB b m hbl (by omega) wF _ _ _ _ _ _ _ _ _ _ _ _ _ _ _ _ _ _ _ _ _ _ _ _ _ _ _ _ _ _ _ _ _ _ _ _ _ _ _ _ _ _ _ _ _ _ _ _ _ _ _ _ _ _ _ _ _ _ _ _ _ _ _ _ _ _ _ _ _ _ _ _ _ _ _ _ _ _ _ _ _ _ _ _ _ _ _ _ _ _ _ _ _ _ _ _ _ _ _ _ _ _ _ _ _ _ _ _ _ _ _ _ _ _ _ _ _ _ _ _ _ _ _ _ _ _ _ _ _ _ _ _ _ _ _ _ _ _ _ _ _ _ _ _ _ _ _ _ _ _ _ _ _ _ _ _ _ _ _ _ _ _ _ _ _ _ _ _ _ _ _ _ _ _ _ _ _ _ _ _ _ _ _ _ _ _ _ _ _ _ _ _ _ _ _ _ _ _ _ _ _ _ _ _ _ _ _ _ _ _ _ _ _ _ _ _ _ _ _ _ _ _ _ _ _ _ _ _ _ _ _ _ _ _ _ _ _ _ _ _ _ _ _ _ _ _ _ _ _ _ _ _ _ _ _ _ _ _ _ _ _ _ _ _ _ _ _ _ _ _ _ _ _ _ _ _ _ HI (fun t2 t25 t26 t27 t28 t29 t30 t221 t222 t223 t224 t225 t226 t227 t228 t229 t230 t231 t232 t233 t234 t235 t236 t237 t238 t239 t240 t241 t242 t243 t244 t245 t246 t247 t248 t249 t250 t251 t252 t253 t254 t255 t256 t257 t258 t259 t260 t261 t262 t263 t264 t265 t266 t267 t268 t269 t270 t271 t272 t273 t274 t275 t276 t277 t278 t279 t280 t281 t282 m' wr hm' HJ2 => ?_) _ rfl
   refine HK2.out _ _ ?_
   clear HK2
   go_wp2_with fail
   go_roundw
   case rel => exact ⟨b + 1, m', by go_num, by omega, by omega, HJ2⟩
   case measure => simp [intOf]; omega
  ·obtain rfl : b = 6 := by omega
   go_wp2_with fail
   go_ret
   exact ⟨rfl, hBw.out.trans (below_mono HI.out.2.2 hBw.out.size)⟩
set_option maxHeartbeats 64000000 in
set_option maxRecDepth 100000 in
theorem chkR (w w7 w8 : World) (L2 : Lay) (E2 : Option Addr) (cE j ln lc : Nat) (LA : Option Addr) (evs : List Ev0) (lf : List Int) (F2 : Nat → Nat → Int × Int × Bool) (G2 : Nat → Nat → Nat → Value) (ar : Ar) (vp gh gl : Nat)
  (HBw : Hid (Below w.heap.size w w7)) (HW8 : Hid (WArr w8 L2 (.slice E2 (j + 1) cE) 0 fmtS.off F2 G2 ∧ (∀ c i j, c < 4 → i < 16 → j < 12 → (G2 c i j).oneCell' = true) ∧ w7.heap.size ≤ w8.heap.size))
  (H8 : Hid (Below w.heap.size w w8 ∧ Arr w8 ar (fun k => k < w7.heap.size) ⟨fmtS.bl, 0, false⟩ ∧ ar.Fix ∧ (∀ k, ar.M k → w7.heap.size ≤ k) ∧ ∀ x, ar.EA = some x → x.block < w8.heap.size)) (HAR : Hid (L2.p = ar.p ∧ ar.evs = evs ∧ ar.lf = lf ∧ ar = L2.ar E2 (j + 1) cE LA ln lc evs lf)) (op : Int) (wE : World) (H : Nat → Prop) (s : St) (T TF : Tb) (held : Nat → List Hd) (hv : Nat → Value) (last : Hd) (opn : Nat) (f0 f1 f2 f3 f4 f5 f6 f7 f8 f9 f10 f11 f12 f13 f15 f19 f20 f21 f22 f23 f24 f25 f26 f27 f28 f29 f30 f31 f32 f33 f34 f35 f36 f37 f38 f39 f40 f41 f42 f43 f44 f45 f46 f47 f48 f49 f50 f51 f52 f53 f54 f55 f56 f57 f58 f59 f60 f61 f62 f63 f64 f65 f66 f67 f68 f69 f70 f71 f72 f73 f74 f75 f76 f77 f78 f79 f80 f81 f82 f83 f84 f85 f86 f87 f88 f89 f90 f91 f92 f93 f94 f95 f96 f97 f98 f99 f100 f101 f102 f103 f104 f105 f106 f107 f108 f109 f110 f111 f112 f113 f114 f115 f116 f117 f118 f119 f120 f121 f122 f123 f124 f125 f126 f127 f128 f129 f130 f131 f132 f133 f134 f135 f136 f137 f138 f139 f140 f141 f142 f143 f144 f145 f146 f147 f148 f149 f150 f151 f152 f153 f154 f155 f156 f157 f158 f159 f160 f161 f162 f163 f164 f165 f166 f167 f168 f169 f170 f171 f172 f173 f174 f175 f176 f177 f178 f179 f180 f181 f182 f183 f184 f185 f186 f187 f188 f189 f190 f191 f192 f193 f194 f195 f196 f197 f198 f199 f200 f201 f202 f203 f204 f205 f206 f207 f208 f209 f210 f211 f212 f213 f214 f215 f216 f217 f218 f219 f220 f221 f222 f223 f224 f225 f226 f227 f228 f229 f230 f231 f232 f233 f234 f235 f236 f237 f238 f239 f240 f241 f242 f243 f244 f245 f246 f247 f248 f249 f250 f251 f252 f253 f254 f255 f256 f257 f258 f259 f260 f261 f262 f263 f264 f265 f266 f267 f268 f269 f270 f271 f272 f273 f274 f275 f276 f277 f278 f279 f280 f281 f282 : Value) (HE : Hid (RowSt wE ar vp gh gl (gh + 2) H s T held hv last ∧ Below w.heap.size w wE ∧ Mods ar.M w8 wE ∧ Fin s TF held opn ∧ ∀ b : Nat, b < 6 → b = opn → op = (b : Int))) : ∀ c, sub [1, 1, 1, 1, 1, 1, 1, 1, 1, 1, 1, 1, 1, 1, 1] Try.f4.body = some c → Code.wp Try.prog c (bodyPost Try.prog Try.f4 fun e w' => e = .returned (.bool true) ∧ Below w.heap.size w w') ⟨#[f0, f1, f2, f3, f4, f5, f6, f7, f8, f9, f10, f11, f12, f13, .pointer (some ⟨ar.p, 0, none⟩), f15, .pointer (some ⟨gh, 0, none⟩), .int .i64 op, .pointer (some ⟨gl, 0, none⟩), f19, f20, f21, f22, f23, f24, f25, f26, f27, f28, f29, f30, f31, f32, f33, f34, f35, f36, f37, f38, f39, f40, f41, f42, f43, f44, f45, f46, f47, f48, f49, f50, f51, f52, f53, f54, f55, f56, f57, f58, f59, f60, f61, f62, f63, f64, f65, f66, f67, f68, f69, f70, f71, f72, f73, f74, f75, f76, f77, f78, f79, f80, f81, f82, f83, f84, f85, f86, f87, f88, f89, f90, f91, f92, f93, f94, f95, f96, f97, f98, f99, f100, f101, f102, f103, f104, f105, f106, f107, f108, f109, f110, f111, f112, f113, f114, f115, f116, f117, f118, f119, f120, f121, f122, f123, f124, f125, f126, f127, f128, f129, f130, f131, f132, f133, f134, f135, f136, f137, f138, f139, f140, f141, f142, f143, f144, f145, f146, f147, f148, f149, f150, f151, f152, f153, f154, f155, f156, f157, f158, f159, f160, f161, f162, f163, f164, f165, f166, f167, f168, f169, f170, f171, f172, f173, f174, f175, f176, f177, f178, f179, f180, f181, f182, f183, f184, f185, f186, f187, f188, f189, f190, f191, f192, f193, f194, f195, f196, f197, f198, f199, f200, f201, f202, f203, f204, f205, f206, f207, f208, f209, f210, f211, f212, f213, f214, f215, f216, f217, f218, f219, f220, f221, f222, f223, f224, f225, f226, f227, f228, f229, f230, f231, f232, f233, f234, f235, f236, f237, f238, f239, f240, f241, f242, f243, f244, f245, f246, f247, f248, f249, f250, f251, f252, f253, f254, f255, f256, f257, f258, f259, f260, f261, f262, f263, f264, f265, f266, f267, f268, f269, f270, f271, f272, f273, f274, f275, f276, f277, f278, f279, f280, f281, f282], []⟩ wE := by
 refine from_path rfl ?_
 refine wp_seq_k (fun Ka h_ => ?_)
 have HKa := Lib.hid h_
 clear h_
 go_wp2_with fail
 refine (boot_any ar (okL ar vp H) s wE HE.out.1.fix (fun k hk => hk.1) HE.out.1.arr).mono ?_
 rintro e wB ⟨rfl, hAB, hMB⟩
 have hgm : ∀ k, H k → ¬ (ar.M k ∨ k = vp) := fun k hk => h_noM HE.out.1 hk
 have HB := Lib.hid (show Arr wB ar (okL ar vp H) ⟨s.bl, s.ops, false⟩ ∧ Mods ar.M w8 wB ∧ Below w.heap.size w wB ∧ wB.heap[gh]? = some (.cells #[hv 0, hv 1, hv 2, hv 3, hv 4, hv 5] 63 (0, 0)) ∧ wB.heap[gl]? = some (.cells (hdC last) 65 (0, 0)) ∧ ∀ b, b < 6 → wB.ownsRow (gh + 2) 65 7 (hv b) (held b).length (hdrC (held b)) from
  ⟨hAB, HE.out.2.2.1.trans hMB, HE.out.2.1.trans (hMB.below HE.out.2.1.size (fun i hi => by have h_ := H8.out.2.2.2.1 i hi; have h2_ := HBw.out.size; omega)), hMB.blk HE.out.1.cgh (fun hM => hgm _ HE.out.1.hg.1 (.inl hM)), hMB.blk HE.out.1.cgl (fun hM => hgm _ HE.out.1.hg.2.1 (.inl hM)), fun b hb => own_mods (HE.out.1.rows b hb).1 hMB (fun k hk hM => hgm _ ((HE.out.1.rows b hb).2 k hk).1 (.inl hM))⟩)
 have HFI := Lib.hid HE.out.2.2.2.1
 have HOP := Lib.hid HE.out.2.2.2.2
 clear hAB hMB hgm HE
 go_wp2_with fail
 refine HKa.out _ _ ?_
 clear HKa
 refine wp_seq_k (fun Kb h_ => ?_)
 have HKb := Lib.hid h_
 clear h_
 go_wp2_with fail
 have hAB := HB.out.1
 have hMB := HB.out.2.1
 rw [HAR.out.2.2.2] at hAB hMB
 rw [← HAR.out.1]
 refine (copy_law (EA := none) (n := 0) (ec := 0) (LA := none) (ln := 0) (lc := 0) (evs := []) (lf := []) HW8.out.1 HW8.out.2.1 hAB hMB ⟨rfl, fun hn => absurd hn (by decide)⟩ (fun _ => ⟨rfl, rfl⟩) (by decide) ⟨rfl, by decide, fun hn => absurd hn (by decide)⟩ (by decide) (fun x hx => by cases hx) (fun x hx => by cases hx)).mono ?_
 rintro e wC ⟨L3, E3, c3, F3, G3, rfl, hB3, -, -, hA3, hF3, hM3, hE3⟩
 obtain ⟨ar3, har3⟩ : ∃ ar3, L3.ar E3 0 c3 none 0 0 [] [] = ar3 := ⟨_, rfl⟩
 have HA3 := Lib.hid (show L3.p = ar3.p ∧ ar3.evs = [] from ⟨by rw [← har3]; rfl, by rw [← har3]; rfl⟩)
 have hE3' : ∀ x, (L3.ar E3 0 c3 none 0 0 [] []).EA = some x → x.block < wC.heap.size := hE3
 rw [har3] at hA3 hF3 hM3 hE3'
 have HC3 := Lib.hid (And.intro hB3 (And.intro hA3 (And.intro hF3 (And.intro hM3 hE3'))))
 clear hAB hMB hB3 hA3 hF3 hM3 hE3 hE3' har3
 go_wp2_with fail
 rw [HA3.out.1]
 have hfd := fin_find (s := ⟨s.bl, 0, false⟩) HFI.out.ok HFI.out.len HFI.out.sp HFI.out.sv HFI.out.cov
 refine (open_aux ar3 (fun k => k < wB.heap.size) ⟨s.bl, 0, false⟩ wC HC3.out.2.2.1 (fun k hk hM => by have h_ := HC3.out.2.2.2.1 k hM; omega) (fun k hk => Nat.lt_of_lt_of_le hk HC3.out.1.size) HC3.out.2.2.2.2 (fun x hx hp => reads_lt HC3.out.2.1.2.2.2.2.1 hp x hx) HC3.out.2.1 (show (0 : Int) ≤ 0 by decide) (show (0 : Int) + 64 ≤ 1000000 by decide) rfl (fun i hi => early (by rw [HA3.out.2]; intro x hx; cases hx) hi) hfd.1 hfd.2.1).mono ?_
 rintro e wD ⟨vp3, T3, m3, rfl, hm3, hAD, hMD, hv1, hv2, hVD, hmx⟩
 obtain rfl := hfd.2.2 T3 hmx
 have HD := Lib.hid (show Arr wD ar3 (fun k => k < wB.heap.size) ((⟨s.bl, 0, false⟩ : St).tick m3) ∧ VolR wD vp3 ar3.p (fun k => wC.heap.size ≤ k ∧ k ≠ vp3) T3 ∧ Below wB.heap.size wB wD from ⟨hAD, hVD, HC3.out.1.trans (hMD.below HC3.out.1.size (fun i hi => HC3.out.2.2.2.1 i hi))⟩)
 have HF := Lib.hid (show ar3.Fix ∧ (∀ k, ar3.M k → wB.heap.size ≤ k ∧ k < wC.heap.size) ∧ wC.heap.size ≤ vp3 from ⟨HC3.out.2.2.1, fun k hk => ⟨HC3.out.2.2.2.1 k hk, HC3.out.2.1.M_lt hk⟩, hv1⟩)
 have HK0 := Lib.hid (show ∀ st : St, st.off = false → readS ar3 st = ({ st with ops := st.ops + 1 }, 0) from fun st h_ => by rw [readS, if_neg (by rw [h_]; decide), if_neg (by rw [kind_none (by rw [HA3.out.2]; rfl)]; decide)])
 have HBX := Lib.hid HB.out.2.2.2
 have HBL := Lib.hid HB.out.2.2.1
 clear hfd hAD hMD hv1 hv2 hVD hmx
 go_wp2_with fail
 refine HKb.out _ _ ?_
 clear HKb
 refine wp_seq_k (fun Kc h_ => ?_)
 have HKc := Lib.hid h_
 clear h_
 go_wp2_with fail
 refine HKc.out _ _ ?_
 clear HKc
 exact chkT w ar3 s T3 held hv last opn op gh gl vp3 wB wC.heap.size HF HFI HOP HK0 HBX HBL m3 hm3 wD _ _ _ _ _ _ _ _ _ _ _ _ _ _ _ _ _ _ _ _ _ _ _ _ _ _ _ _ _ _ _ _ _ _ _ _ _ _ _ _ _ _ _ _ _ _ _ _ _ _ _ _ _ _ _ _ _ _ _ _ _ _ _ _ _ _ _ _ _ _ _ _ _ _ _ _ _ _ _ _ _ _ _ _ _ _ _ _ _ _ _ _ _ _ _ _ _ _ _ _ _ _ _ _ _ _ _ _ _ _ _ _ _ _ _ _ _ _ _ _ _ _ _ _ _ _ _ _ _ _ _ _ _ _ _ _ _ _ _ _ _ _ _ _ _ _ _ _ _ _ _ _ _ _ _ _ _ _ _ _ _ _ _ _ _ _ _ _ _ _ _ _ _ _ _ _ _ _ _ _ _ _ _ _ _ _ _ _ _ _ _ _ _ _ _ _ _ _ _ _ _ _ _ _ _ _ _ _ _ _ _ _ _ _ _ _ _ _ _ _ _ _ _ _ _ _ _ _ _ _ _ _ _ _ _ _ _ _ _ _ _ _ _ _ _ _ _ _ _ _ _ _ _ _ _ _ _ _ _ _ _ _ _ _ _ _ _ _ _ _ _ _ _ _ _ _ _ _ _ HD _ rfl
set_option maxHeartbeats 64000000 in
set_option maxRecDepth 100000 in
theorem tailT (w w7 w8 : World) (L2 : Lay) (E2 : Option Addr) (cE j ln lc : Nat) (LA : Option Addr) (evs : List Ev0) (lf : List Int) (F2 : Nat → Nat → Int × Int × Bool) (G2 : Nat → Nat → Nat → Value) (ar : Ar) (vp gh gl : Nat)
  (HBw : Hid (Below w.heap.size w w7)) (HW8 : Hid (WArr w8 L2 (.slice E2 (j + 1) cE) 0 fmtS.off F2 G2 ∧ (∀ c i j, c < 4 → i < 16 → j < 12 → (G2 c i j).oneCell' = true) ∧ w7.heap.size ≤ w8.heap.size))
  (H8 : Hid (Below w.heap.size w w8 ∧ Arr w8 ar (fun k => k < w7.heap.size) ⟨fmtS.bl, 0, false⟩ ∧ ar.Fix ∧ (∀ k, ar.M k → w7.heap.size ≤ k) ∧ ∀ x, ar.EA = some x → x.block < w8.heap.size)) (HAR : Hid (L2.p = ar.p ∧ ar.evs = evs ∧ ar.lf = lf ∧ ar = L2.ar E2 (j + 1) cE LA ln lc evs lf)) (e : Int) (op : Int) (wE : World) (H : Nat → Prop) (s : St) (T TF : Tb) (held : Nat → List Hd) (hv : Nat → Value) (last : Hd) (opn : Nat) (f0 f1 f2 f3 f4 f5 f6 f7 f8 f10 f11 f12 f13 f15 f19 f20 f21 f22 f23 f24 f25 f26 f27 f28 f29 f30 f31 f32 f33 f34 f35 f36 f37 f38 f39 f40 f41 f42 f43 f44 f45 f46 f47 f48 f49 f50 f51 f52 f53 f54 f55 f56 f57 f58 f59 f60 f61 f62 f63 f64 f65 f66 f67 f68 f69 f70 f71 f72 f73 f74 f75 f76 f77 f78 f79 f80 f81 f82 f83 f84 f85 f86 f87 f88 f89 f90 f91 f92 f93 f94 f95 f96 f97 f98 f99 f100 f101 f102 f103 f104 f105 f106 f107 f108 f109 f110 f111 f112 f113 f114 f115 f116 f117 f118 f119 f120 f121 f122 f123 f124 f125 f126 f127 f128 f129 f130 f131 f132 f133 f134 f135 f136 f137 f138 f139 f140 f141 f142 f143 f144 f145 f146 f147 f148 f149 f150 f151 f152 f153 f154 f155 f156 f157 f158 f159 f160 f161 f162 f163 f164 f165 f166 f167 f168 f169 f170 f171 f172 f173 f174 f175 f176 f177 f178 f179 f180 f181 f182 f183 f184 f185 f186 f187 f188 f189 f190 f191 f192 f193 f194 f195 f196 f197 f198 f199 f200 f201 f202 f203 f204 f205 f206 f207 f208 f209 f210 f211 f212 f213 f214 f215 f216 f217 f218 f219 f220 f221 f222 f223 f224 f225 f226 f227 f228 f229 f230 f231 f232 f233 f234 f235 f236 f237 f238 f239 f240 f241 f242 f243 f244 f245 f246 f247 f248 f249 f250 f251 f252 f253 f254 f255 f256 f257 f258 f259 f260 f261 f262 f263 f264 f265 f266 f267 f268 f269 f270 f271 f272 f273 f274 f275 f276 f277 f278 f279 f280 f281 f282 : Value) (he : e = 0 ∨ e = 72) (HE : Hid (RowSt wE ar vp gh gl (gh + 2) H s T held hv last ∧ Below w.heap.size w wE ∧ Mods ar.M w8 wE ∧ Fin s TF held opn ∧ ∀ b : Nat, b < 6 → b = opn → op = (b : Int))) : ∀ c, sub [1, 1, 1, 1, 1, 1, 1, 1, 1, 1, 1, 1, 1, 1] Try.f4.body = some c → Code.wp Try.prog c (bodyPost Try.prog Try.f4 fun e w' => e = .returned (.bool true) ∧ Below w.heap.size w w') ⟨#[f0, f1, f2, f3, f4, f5, f6, f7, f8, .int .i64 e, f10, f11, f12, f13, .pointer (some ⟨ar.p, 0, none⟩), f15, .pointer (some ⟨gh, 0, none⟩), .int .i64 op, .pointer (some ⟨gl, 0, none⟩), f19, f20, f21, f22, f23, f24, f25, f26, f27, f28, f29, f30, f31, f32, f33, f34, f35, f36, f37, f38, f39, f40, f41, f42, f43, f44, f45, f46, f47, f48, f49, f50, f51, f52, f53, f54, f55, f56, f57, f58, f59, f60, f61, f62, f63, f64, f65, f66, f67, f68, f69, f70, f71, f72, f73, f74, f75, f76, f77, f78, f79, f80, f81, f82, f83, f84, f85, f86, f87, f88, f89, f90, f91, f92, f93, f94, f95, f96, f97, f98, f99, f100, f101, f102, f103, f104, f105, f106, f107, f108, f109, f110, f111, f112, f113, f114, f115, f116, f117, f118, f119, f120, f121, f122, f123, f124, f125, f126, f127, f128, f129, f130, f131, f132, f133, f134, f135, f136, f137, f138, f139, f140, f141, f142, f143, f144, f145, f146, f147, f148, f149, f150, f151, f152, f153, f154, f155, f156, f157, f158, f159, f160, f161, f162, f163, f164, f165, f166, f167, f168, f169, f170, f171, f172, f173, f174, f175, f176, f177, f178, f179, f180, f181, f182, f183, f184, f185, f186, f187, f188, f189, f190, f191, f192, f193, f194, f195, f196, f197, f198, f199, f200, f201, f202, f203, f204, f205, f206, f207, f208, f209, f210, f211, f212, f213, f214, f215, f216, f217, f218, f219, f220, f221, f222, f223, f224, f225, f226, f227, f228, f229, f230, f231, f232, f233, f234, f235, f236, f237, f238, f239, f240, f241, f242, f243, f244, f245, f246, f247, f248, f249, f250, f251, f252, f253, f254, f255, f256, f257, f258, f259, f260, f261, f262, f263, f264, f265, f266, f267, f268, f269, f270, f271, f272, f273, f274, f275, f276, f277, f278, f279, f280, f281, f282], []⟩ wE := by
 refine from_path rfl ?_
 rcases he with rfl | rfl
 all_goals
  refine wp_seq_k (fun Ka h_ => ?_)
  have HKa := Lib.hid h_
  clear h_
  go_wp2_with fail
  refine HKa.out _ _ ?_
  exact chkR w w7 w8 L2 E2 cE j ln lc LA evs lf F2 G2 ar vp gh gl HBw HW8 H8 HAR op wE H s T TF held hv last opn _ _ _ _ _ _ _ _ _ _ _ _ _ _ _ _ _ _ _ _ _ _ _ _ _ _ _ _ _ _ _ _ _ _ _ _ _ _ _ _ _ _ _ _ _ _ _ _ _ _ _ _ _ _ _ _ _ _ _ _ _ _ _ _ _ _ _ _ _ _ _ _ _ _ _ _ _ _ _ _ _ _ _ _ _ _ _ _ _ _ _ _ _ _ _ _ _ _ _ _ _ _ _ _ _ _ _ _ _ _ _ _ _ _ _ _ _ _ _ _ _ _ _ _ _ _ _ _ _ _ _ _ _ _ _ _ _ _ _ _ _ _ _ _ _ _ _ _ _ _ _ _ _ _ _ _ _ _ _ _ _ _ _ _ _ _ _ _ _ _ _ _ _ _ _ _ _ _ _ _ _ _ _ _ _ _ _ _ _ _ _ _ _ _ _ _ _ _ _ _ _ _ _ _ _ _ _ _ _ _ _ _ _ _ _ _ _ _ _ _ _ _ _ _ _ _ _ _ _ _ _ _ _ _ _ _ _ _ _ _ _ _ _ _ _ _ _ _ _ _ _ _ _ _ _ _ _ _ _ _ _ _ _ _ _ _ _ _ _ _ _ _ _ _ _ _ _ _ _ HE _ rfl
end Go.Proofs.Ytffalemndjampaa
end
