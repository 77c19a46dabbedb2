-- Printed by a program of this session (xprint.py) over the kit's print, with contracts of its own. Not trusted: Lean checks it.
import Derived.Test.YtjjhdddiabdfhaaDoorXNam0
import Derived.Test.YtjjhdddiabdfhaaDoorXNam2
namespace Go.Proofs.YtjjhdddiabdfhaaDoor.XNam
open Go.RowKit Go.Proofs.YtjjhdddiabdfhaaDoorW.PrintWords Go.Proofs.YtjjhdddiabdfhaaDoorW.PrintLast Go.Proofs.YtjjhdddiabdfhaaDoorW.PrintMore
attribute [local go_sem] max2_int min2_int max_two min_two max_three min_three max_four min_four   -- for this text's walks alone
set_option linter.unusedVariables false
set_option linter.unusedSimpArgs false

/-! ### names_fits: function 31 (of this session's own) -/
def FitR.T7 : Bool × List (List Nat × List Nat) := (true, [([], []), ([], []), ([1], [1]), ([0, 2], [0, 2]), ([3], [3]), ([4], [4]), ([4], [4]), ([5, 6, 4], [4, 5, 6]), ([7, 4], [4, 7]), ([4], [4]), ([4], [4]), ([9, 10, 4], [4, 9, 10]), ([11, 4], [4, 11]), ([8, 12, 4, 4], [4, 8, 12]), ([4, 13], [4, 13]), ([14, 13], [14])])
def FitR.B7 : List Nat := [0, 0, 2, 7, 15, 31, 31, 127, 255, 31, 31, 1567, 3615, 8191, 16383, 32767]
theorem FitR.tab7 : rtab .any (opsOf Tryd.f31 7) = FitR.T7 := by kernel_rfl
theorem FitR.bits7 : waitsOk FitR.T7.2 FitR.B7 = true := by kernel_rfl
set_option maxHeartbeats 8000000 in
set_option maxRecDepth 100000 in
theorem names_fits.calls (A : Option Addr) (cA : Nat) (l : List Part) (b1 n c1 f0 : Nat) (s : List Nat) (r : Bool) (w : World) (hL : kPart.C w A l.length l) (hcA : l.length ≤ cA) (hl : l.length ≤ 1000000) (hrs : ∀ x ∈ l, x.2.2.2.length ≤ 1000000) (hn : n ≤ c1) (hn1 : n ≤ 1000000) (hs : RdN w b1 n s) (h : fitsF l s f0 0 0 none 0 = some r) :
    Calls Tryd.prog 31 #[.slice A l.length cA, .slice (some ⟨b1, 0, none⟩) n c1] w fun e w' => e = .returned (.bool r) ∧ Below w.heap.size w w' := by
  have HL := Lib.hid hL
  have HS := Lib.hid hs
  have HR := Lib.hid hrs
  have H := Lib.hid h
  clear hL hs hrs h
  go_enter Tryd.func31, Tryd.ntmps31
  go_wp2_with fail
  go_loopg [5, 6, 7, 8] f0 (fun f vi vk vb vf wr => ∃ (i k fr : Nat) (back : Option Nat), i ≤ l.length ∧ k ≤ n ∧ fr ≤ k ∧ (∀ b, back = some b → b < l.length) ∧ vi = .int .i64 (i : Int) ∧ vk = .int .i64 (k : Int) ∧ vb = .int .i64 (backI back) ∧ vf = .int .i64 (fr : Int) ∧ Hid (fitsF l s f i k back fr = some r) ∧ Hid (Below w.heap.size w wr))
  case atStart => exact ⟨0, 0, 0, none, Nat.zero_le _, Nat.zero_le _, Nat.le_refl _, (fun _ h => by cases h), rfl, rfl, rfl, rfl, H, Lib.hid (Below.refl _ _)⟩
  case round =>
    obtain ⟨i, k, fr, back, hi, hk, hfr, hb, rfl, rfl, rfl, rfl, HF, HB⟩ := hrel
    obtain ⟨wo, hwo⟩ : ∃ wo, wo = wr := ⟨_, rfl⟩
    subst hwo
    have HB0 := Lib.hid hb
    clear hb
    cases gk with
    | zero => exact absurd HF.out (by simp [fitsF])
    | succ f =>
      have h := HF.out
      rw [fitsF_succ] at h
      clear HF
      by_cases hkn : k < n
      · rw [if_pos (HS.out.1.symm ▸ hkn)] at h
        by_cases hil : i < l.length
        · obtain ⟨ad, B, cB, hA, hcB, hCB, y0, y1, y2, y3⟩ := at_P (Kd.C_below HL.out HB.out) i hil
          subst hA
          obtain ⟨P, hP⟩ : ∃ P, rdP l i = P := ⟨_, rfl⟩
          have hmem : P ∈ l := by rw [← hP, rdP_getElem hil]; exact List.getElem_mem hil
          have hPl := HR.out P hmem
          rw [hP] at hcB hCB y0 y1 y2 y3 h
          obtain ⟨m, ay, nt, rs⟩ := P
          simp only at hcB hCB y0 y1 y2 y3 h hPl
          have HCB := Lib.hid hCB
          clear hCB hP hmem
          cases m with
          | true =>
            rw [if_pos ⟨hil, rfl⟩] at h
            have H1 := Lib.hid h
            clear h
            go_wp2_with fail
            go_roundg f
            case measure => omega
            case rel => exact ⟨i + 1, k, k, some i, by omega, hk, Nat.le_refl _, (fun b hb => by cases hb; exact hil), by go_num, rfl, rfl, rfl, H1, HB⟩
          | false =>
            rw [if_neg (by simp)] at h
            have z1 := (HS.out.below HB.out).2 k hkn
            have H1 := Lib.hid h
            clear h
            obtain ⟨q, hq⟩ : ∃ q, hasP (false, ay, nt, rs) ((rnP s k : Nat) : Int) = q := ⟨_, rfl⟩
            have HQ := Lib.hid hq
            rw [hq] at H1
            clear hq
            go_wp2_with fail
            refine start_ (n := 16) (S := fun w' => True) (ds := []) #[false, false, false, false, false, false, false, false, false, false, false, false, false, false, false, false] (by kernel_rfl) rfl rfl trivial (fun hHeld => ?_)
            refine with_tabW FitR.tab7 FitR.bits7 (fun HT_ HW_ => ?_)
            have HY0 := Lib.hid (show wo.drew.cell? (ad.add (i * 4)) = _ from y0)
            have HY1 := Lib.hid (show wo.drew.cell? ⟨(ad.add (i * 4)).block, (ad.add (i * 4)).off + 1, none⟩ = _ from y1)
            have HY2 := Lib.hid (show wo.drew.cell? ⟨(ad.add (i * 4)).block, (ad.add (i * 4)).off + 2, none⟩ = _ from y2)
            have HY3 := Lib.hid (show wo.drew.cell? ⟨(ad.add (i * 4)).block, (ad.add (i * 4)).off + 3, none⟩ = _ from y3)
            have HZ1 := Lib.hid (show wo.drew.cell? ⟨b1, k, none⟩ = _ from z1)
            have HCz := Lib.hid (Kd.C_drew HCB.out)
            have DZ := Lib.hid (fun W (h_ : Below wo.drew.heap.size wo.drew W) => (⟨h_.os, h_.tape, h_.output, h_.size, h_.block⟩ : Below wo.heap.size wo W))
            generalize wo.drew = wz at HY0 HY1 HY2 HY3 HZ1 HCz DZ hHeld ⊢
            have BB := Lib.hid (Below.refl wz.heap.size wz)
            refine inv_at [0, 1, 2, 3, 4, 5, 6, 7, 8, 9, 10, 11, 12, 13, 14, 15] (fun a0_ b a w' => a = putSel a0_ b [(0, 30, .int .i64 (i : Int)), (1, 31, .slice (some ad) l.length cA), (2, 32, .int .i64 (l.length : Int)), (3, 33, .bool true), (4, 34, .bool true), (5, 35, .slice (some ad) l.length cA), (6, 36, .int .i64 (i : Int)), (7, 37, .pointer (some (ad.add (i * 4)))), (8, 38, .agg #[.bool false, .bool ay, .bool nt, .slice B rs.length cB]), (9, 39, .slice (some ⟨b1, 0, none⟩) n c1), (10, 40, .int .i64 (k : Int)), (11, 41, .pointer (some ⟨b1, k, none⟩)), (12, 42, .int .i32 ((rnP s k : Nat) : Int)), (13, 43, .bool q), (14, 44, .bool q), (15, 29, .bool q)] ∧ (Below wz.heap.size wz w')) HT_.out HW_.out (by kernel_rfl) (by kernel_rfl) ?_ ?_ ?_
            · exact ⟨by simp only [putSel, Bool.false_eq_true, if_false], BB.out⟩
            · skip
              clear BB
              refine steps_cons ?_ ?_
              · rintro b a w' ⟨ha, Q_BB⟩ hb_ hon hoff
                refine ⟨_, rfl, fun K hK => ?_⟩
                have e5 : a.tmps[5]? = some (.int .i64 (i : Int)) := by rw [ha]; exact (putSel_off rfl).trans rfl
                replace ha := Aside0.mk ha
                have BB := Aside0.mk Q_BB
                refine value_ (w1 := w') (v := .int .i64 (i : Int)) (by rfl) rfl ?_ ?_
                · go_simp
                  (try simp only [i64_w])
                  try rfl
                refine hK.out _ _ ⟨(by rw [ha.out]; exact putSel_upk 0 hb_ rfl rfl rfl), Q_BB⟩
              refine steps_cons ?_ ?_
              · rintro b a w' ⟨ha, Q_BB⟩ hb_ hon hoff
                refine ⟨_, rfl, fun K hK => ?_⟩
                have e0 : a.tmps[0]? = some (.slice (some ad) l.length cA) := by rw [ha]; exact (putSel_off rfl).trans rfl
                replace ha := Aside0.mk ha
                have BB := Aside0.mk Q_BB
                refine value_ (w1 := w') (v := .slice (some ad) l.length cA) (by rfl) rfl ?_ ?_
                · go_simp
                  (try simp only [i64_w])
                  try rfl
                refine hK.out _ _ ⟨(by rw [ha.out]; exact putSel_upk 1 hb_ rfl rfl rfl), Q_BB⟩
              refine steps_cons ?_ ?_
              · rintro b a w' ⟨ha, Q_BB⟩ hb_ hon hoff
                refine ⟨_, rfl, fun K hK => ?_⟩
                have e31 : a.tmps[31]? = some (.slice (some ad) l.length cA) := by rw [ha]; exact putSel_on (e := (1, 31, .slice (some ad) l.length cA)) 1 rfl rfl (hon 1 (by kernel_rfl)) rfl
                replace ha := Aside0.mk ha
                have BB := Aside0.mk Q_BB
                refine value_ (w1 := w') (v := .int .i64 (l.length : Int)) (by rfl) rfl ?_ ?_
                · go_simp
                  (try simp only [i64_w])
                  try rfl
                refine hK.out _ _ ⟨(by rw [ha.out]; exact putSel_upk 2 hb_ rfl rfl rfl), Q_BB⟩
              refine steps_cons ?_ ?_
              · rintro b a w' ⟨ha, Q_BB⟩ hb_ hon hoff
                refine ⟨_, rfl, fun K hK => ?_⟩
                have e30 : a.tmps[30]? = some (.int .i64 (i : Int)) := by rw [ha]; exact putSel_on (e := (0, 30, .int .i64 (i : Int))) 0 rfl rfl (hon 0 (by kernel_rfl)) rfl
                have e32 : a.tmps[32]? = some (.int .i64 (l.length : Int)) := by rw [ha]; exact putSel_on (e := (2, 32, .int .i64 (l.length : Int))) 2 rfl rfl (hon 2 (by kernel_rfl)) rfl
                replace ha := Aside0.mk ha
                have BB := Aside0.mk Q_BB
                refine value_ (w1 := w') (v := .bool true) (by rfl) rfl ?_ ?_
                · go_simp
                  (try simp only [i64_w])
                  try rfl
                refine hK.out _ _ ⟨(by rw [ha.out]; exact putSel_upk 3 hb_ rfl rfl rfl), Q_BB⟩
              refine steps_cons ?_ ?_
              · rintro b a w' ⟨ha, Q_BB⟩ hb_ hon hoff
                refine ⟨_, rfl, fun K hK => ?_⟩
                have e33 : a.tmps[33]? = some (.bool true) := by rw [ha]; exact putSel_on (e := (3, 33, .bool true)) 3 rfl rfl (hon 3 (by kernel_rfl)) rfl
                replace ha := Aside0.mk ha
                have BB := Aside0.mk Q_BB
                refine value_ (w1 := w') (v := .bool true) (by rfl) rfl ?_ ?_
                · go_simp
                  (try simp only [i64_w])
                  try rfl
                refine hK.out _ _ ⟨(by rw [ha.out]; exact putSel_upk 4 hb_ rfl rfl rfl), Q_BB⟩
              refine steps_cons ?_ ?_
              · rintro b a w' ⟨ha, Q_BB⟩ hb_ hon hoff
                refine ⟨_, rfl, fun K hK => ?_⟩
                have e0 : a.tmps[0]? = some (.slice (some ad) l.length cA) := by rw [ha]; exact (putSel_off rfl).trans rfl
                have e34 : a.tmps[34]? = some (.bool true) := by rw [ha]; exact putSel_on (e := (4, 34, .bool true)) 4 rfl rfl (hon 4 (by kernel_rfl)) rfl
                replace ha := Aside0.mk ha
                have BB := Aside0.mk Q_BB
                refine value_ (w1 := w') (v := .slice (some ad) l.length cA) (wanted_on rfl rfl rfl (e34.trans (by first | rfl | (simp [*]; done)))) rfl ?_ ?_
                · go_simp
                  (try simp only [i64_w])
                  try rfl
                refine hK.out _ _ ⟨(by rw [ha.out]; exact putSel_upk 5 hb_ rfl rfl rfl), Q_BB⟩
              refine steps_cons ?_ ?_
              · rintro b a w' ⟨ha, Q_BB⟩ hb_ hon hoff
                refine ⟨_, rfl, fun K hK => ?_⟩
                have e5 : a.tmps[5]? = some (.int .i64 (i : Int)) := by rw [ha]; exact (putSel_off rfl).trans rfl
                have e34 : a.tmps[34]? = some (.bool true) := by rw [ha]; exact putSel_on (e := (4, 34, .bool true)) 4 rfl rfl (hon 4 (by kernel_rfl)) rfl
                replace ha := Aside0.mk ha
                have BB := Aside0.mk Q_BB
                refine value_ (w1 := w') (v := .int .i64 (i : Int)) (wanted_on rfl rfl rfl (e34.trans (by first | rfl | (simp [*]; done)))) rfl ?_ ?_
                · go_simp
                  (try simp only [i64_w])
                  try rfl
                refine hK.out _ _ ⟨(by rw [ha.out]; exact putSel_upk 6 hb_ rfl rfl rfl), Q_BB⟩
              refine steps_cons ?_ ?_
              · rintro b a w' ⟨ha, Q_BB⟩ hb_ hon hoff
                refine ⟨_, rfl, fun K hK => ?_⟩
                have e35 : a.tmps[35]? = some (.slice (some ad) l.length cA) := by rw [ha]; exact putSel_on (e := (5, 35, .slice (some ad) l.length cA)) 5 rfl rfl (hon 5 (by kernel_rfl)) rfl
                have e36 : a.tmps[36]? = some (.int .i64 (i : Int)) := by rw [ha]; exact putSel_on (e := (6, 36, .int .i64 (i : Int))) 6 rfl rfl (hon 6 (by kernel_rfl)) rfl
                have e34 : a.tmps[34]? = some (.bool true) := by rw [ha]; exact putSel_on (e := (4, 34, .bool true)) 4 rfl rfl (hon 4 (by kernel_rfl)) rfl
                replace ha := Aside0.mk ha
                have BB := Aside0.mk Q_BB
                refine value_ (w1 := w') (v := .pointer (some (ad.add (i * 4)))) (wanted_on rfl rfl rfl (e34.trans (by first | rfl | (simp [*]; done)))) rfl ?_ ?_
                · go_simp
                  (try simp only [i64_w])
                  try rfl
                refine hK.out _ _ ⟨(by rw [ha.out]; exact putSel_upk 7 hb_ rfl rfl rfl), Q_BB⟩
              refine steps_cons ?_ ?_
              · rintro b a w' ⟨ha, Q_BB⟩ hb_ hon hoff
                refine ⟨_, rfl, fun K hK => ?_⟩
                have e37 : a.tmps[37]? = some (.pointer (some (ad.add (i * 4)))) := by rw [ha]; exact putSel_on (e := (7, 37, .pointer (some (ad.add (i * 4))))) 7 rfl rfl (hon 7 (by kernel_rfl)) rfl
                have e34 : a.tmps[34]? = some (.bool true) := by rw [ha]; exact putSel_on (e := (4, 34, .bool true)) 4 rfl rfl (hon 4 (by kernel_rfl)) rfl
                replace ha := Aside0.mk ha
                have BB := Aside0.mk Q_BB
                have hc_0 : w'.cell? (ad.add (i * 4)) = some (.bool false) := pw_cell_below BB.out HY0.out
                have hc_1 : w'.cell? ⟨(ad.add (i * 4)).block, (ad.add (i * 4)).off + 1, none⟩ = some (.bool ay) := pw_cell_below BB.out HY1.out
                have hc_2 : w'.cell? ⟨(ad.add (i * 4)).block, (ad.add (i * 4)).off + 2, none⟩ = some (.bool nt) := pw_cell_below BB.out HY2.out
                have hc_3 : w'.cell? ⟨(ad.add (i * 4)).block, (ad.add (i * 4)).off + 3, none⟩ = some (.slice B rs.length cB) := pw_cell_below BB.out HY3.out
                refine value_ (w1 := w') (v := .agg #[.bool false, .bool ay, .bool nt, .slice B rs.length cB]) (wanted_on rfl rfl rfl (e34.trans (by first | rfl | (simp [*]; done)))) rfl ?_ ?_
                · go_simp
                  (try simp only [i64_w])
                  try rfl
                refine hK.out _ _ ⟨(by rw [ha.out]; exact putSel_upk 8 hb_ rfl rfl rfl), Q_BB⟩
              refine steps_cons ?_ ?_
              · rintro b a w' ⟨ha, Q_BB⟩ hb_ hon hoff
                refine ⟨_, rfl, fun K hK => ?_⟩
                have e1 : a.tmps[1]? = some (.slice (some ⟨b1, 0, none⟩) n c1) := by rw [ha]; exact (putSel_off rfl).trans rfl
                have e34 : a.tmps[34]? = some (.bool true) := by rw [ha]; exact putSel_on (e := (4, 34, .bool true)) 4 rfl rfl (hon 4 (by kernel_rfl)) rfl
                replace ha := Aside0.mk ha
                have BB := Aside0.mk Q_BB
                refine value_ (w1 := w') (v := .slice (some ⟨b1, 0, none⟩) n c1) (wanted_on rfl rfl rfl (e34.trans (by first | rfl | (simp [*]; done)))) rfl ?_ ?_
                · go_simp
                  (try simp only [i64_w])
                  try rfl
                refine hK.out _ _ ⟨(by rw [ha.out]; exact putSel_upk 9 hb_ rfl rfl rfl), Q_BB⟩
              refine steps_cons ?_ ?_
              · rintro b a w' ⟨ha, Q_BB⟩ hb_ hon hoff
                refine ⟨_, rfl, fun K hK => ?_⟩
                have e6 : a.tmps[6]? = some (.int .i64 (k : Int)) := by rw [ha]; exact (putSel_off rfl).trans rfl
                have e34 : a.tmps[34]? = some (.bool true) := by rw [ha]; exact putSel_on (e := (4, 34, .bool true)) 4 rfl rfl (hon 4 (by kernel_rfl)) rfl
                replace ha := Aside0.mk ha
                have BB := Aside0.mk Q_BB
                refine value_ (w1 := w') (v := .int .i64 (k : Int)) (wanted_on rfl rfl rfl (e34.trans (by first | rfl | (simp [*]; done)))) rfl ?_ ?_
                · go_simp
                  (try simp only [i64_w])
                  try rfl
                refine hK.out _ _ ⟨(by rw [ha.out]; exact putSel_upk 10 hb_ rfl rfl rfl), Q_BB⟩
              refine steps_cons ?_ ?_
              · rintro b a w' ⟨ha, Q_BB⟩ hb_ hon hoff
                refine ⟨_, rfl, fun K hK => ?_⟩
                have e39 : a.tmps[39]? = some (.slice (some ⟨b1, 0, none⟩) n c1) := by rw [ha]; exact putSel_on (e := (9, 39, .slice (some ⟨b1, 0, none⟩) n c1)) 9 rfl rfl (hon 9 (by kernel_rfl)) rfl
                have e40 : a.tmps[40]? = some (.int .i64 (k : Int)) := by rw [ha]; exact putSel_on (e := (10, 40, .int .i64 (k : Int))) 10 rfl rfl (hon 10 (by kernel_rfl)) rfl
                have e34 : a.tmps[34]? = some (.bool true) := by rw [ha]; exact putSel_on (e := (4, 34, .bool true)) 4 rfl rfl (hon 4 (by kernel_rfl)) rfl
                replace ha := Aside0.mk ha
                have BB := Aside0.mk Q_BB
                refine value_ (w1 := w') (v := .pointer (some ⟨b1, k, none⟩)) (wanted_on rfl rfl rfl (e34.trans (by first | rfl | (simp [*]; done)))) rfl ?_ ?_
                · go_simp
                  (try simp only [i64_w])
                  try rfl
                refine hK.out _ _ ⟨(by rw [ha.out]; exact putSel_upk 11 hb_ rfl rfl rfl), Q_BB⟩
              refine steps_cons ?_ ?_
              · rintro b a w' ⟨ha, Q_BB⟩ hb_ hon hoff
                refine ⟨_, rfl, fun K hK => ?_⟩
                have e41 : a.tmps[41]? = some (.pointer (some ⟨b1, k, none⟩)) := by rw [ha]; exact putSel_on (e := (11, 41, .pointer (some ⟨b1, k, none⟩))) 11 rfl rfl (hon 11 (by kernel_rfl)) rfl
                have e34 : a.tmps[34]? = some (.bool true) := by rw [ha]; exact putSel_on (e := (4, 34, .bool true)) 4 rfl rfl (hon 4 (by kernel_rfl)) rfl
                replace ha := Aside0.mk ha
                have BB := Aside0.mk Q_BB
                have hc_x : w'.cell? ⟨b1, k, none⟩ = some (.int .i32 ((rnP s k : Nat) : Int)) := pw_cell_below BB.out HZ1.out
                refine value_ (w1 := w') (v := .int .i32 ((rnP s k : Nat) : Int)) (wanted_on rfl rfl rfl (e34.trans (by first | rfl | (simp [*]; done)))) rfl ?_ ?_
                · go_simp
                  (try simp only [i64_w])
                  try rfl
                refine hK.out _ _ ⟨(by rw [ha.out]; exact putSel_upk 12 hb_ rfl rfl rfl), Q_BB⟩
              refine steps_cons ?_ ?_
              · rintro b a w' ⟨ha, Q_BB⟩ hb_ hon hoff
                refine ⟨_, rfl, fun K hK => ?_⟩
                have e38 : a.tmps[38]? = some (.agg #[.bool false, .bool ay, .bool nt, .slice B rs.length cB]) := by rw [ha]; exact putSel_on (e := (8, 38, .agg #[.bool false, .bool ay, .bool nt, .slice B rs.length cB])) 8 rfl rfl (hon 8 (by kernel_rfl)) rfl
                have e42 : a.tmps[42]? = some (.int .i32 ((rnP s k : Nat) : Int)) := by rw [ha]; exact putSel_on (e := (12, 42, .int .i32 ((rnP s k : Nat) : Int))) 12 rfl rfl (hon 12 (by kernel_rfl)) rfl
                have e34 : a.tmps[34]? = some (.bool true) := by rw [ha]; exact putSel_on (e := (4, 34, .bool true)) 4 rfl rfl (hon 4 (by kernel_rfl)) rfl
                replace ha := Aside0.mk ha
                have BB := Aside0.mk Q_BB
                refine goes_ Tryd.func37 (by kernel_rfl) rfl #[.agg #[.bool false, .bool ay, .bool nt, .slice B rs.length cB], .int .i32 ((rnP s k : Nat) : Int)] (wanted_on rfl rfl rfl (e34.trans (by first | rfl | (simp [*]; done)))) rfl rfl (by first | (simp only [List.map_toArray, List.map_cons, List.map_nil, Act.eval, Array.getD_eq_getD_getElem?, Option.getD_some, e38, e42, e34]; done) | (simp only [List.map_toArray, List.map_cons, List.map_nil, Act.eval, Array.getD_eq_getD_getElem?, Option.getD_some, e38, e42, e34]; rfl)) ?_
                refine (names_has.calls false ay nt B cB rs ((rnP s k : Nat) : Int) w' (Kd.C_below HCz.out BB.out) hcB hPl).mono ?_
                rintro e w1 ⟨rfl, hn⟩
                rw [HQ.out]
                refine ⟨_, rfl, ?_⟩
                refine hK.out _ _ ⟨(by rw [ha.out]; exact putSel_upk 13 hb_ rfl rfl rfl), bl_seq_ BB.out hn⟩
              refine steps_cons ?_ ?_
              · rintro b a w' ⟨ha, Q_BB⟩ hb_ hon hoff
                refine ⟨_, rfl, fun K hK => ?_⟩
                have e34 : a.tmps[34]? = some (.bool true) := by rw [ha]; exact putSel_on (e := (4, 34, .bool true)) 4 rfl rfl (hon 4 (by kernel_rfl)) rfl
                have e43 : a.tmps[43]? = some (.bool q) := by rw [ha]; exact putSel_on (e := (13, 43, .bool q)) 13 rfl rfl (hon 13 (by kernel_rfl)) rfl
                replace ha := Aside0.mk ha
                have BB := Aside0.mk Q_BB
                refine value_ (w1 := w') (v := .bool q) (by rfl) rfl ?_ ?_
                · go_simp
                  (try simp only [i64_w])
                  try rfl
                refine hK.out _ _ ⟨(by rw [ha.out]; exact putSel_upk 14 hb_ rfl rfl rfl), Q_BB⟩
              refine steps_cons ?_ ?_
              · rintro b a w' ⟨ha, Q_BB⟩ hb_ hon hoff
                refine ⟨_, rfl, fun K hK => ?_⟩
                have e44 : a.tmps[44]? = some (.bool q) := by rw [ha]; exact putSel_on (e := (14, 44, .bool q)) 14 rfl rfl (hon 14 (by kernel_rfl)) rfl
                replace ha := Aside0.mk ha
                have BB := Aside0.mk Q_BB
                refine value_ (w1 := w') (v := .bool q) (by rfl) rfl ?_ ?_
                · go_simp
                  (try simp only [i64_w])
                  try rfl
                refine hK.out _ _ ⟨(by rw [ha.out]; exact putSel_upk 15 hb_ rfl rfl rfl), Q_BB⟩
              exact steps_nil
            · rintro b a w' hall ⟨ha, Q_BB⟩
              clear BB
              have hb0_ := hall 0 (by kernel_rfl)
              have hb1_ := hall 1 (by kernel_rfl)
              have hb2_ := hall 2 (by kernel_rfl)
              have hb3_ := hall 3 (by kernel_rfl)
              have hb4_ := hall 4 (by kernel_rfl)
              have hb5_ := hall 5 (by kernel_rfl)
              have hb6_ := hall 6 (by kernel_rfl)
              have hb7_ := hall 7 (by kernel_rfl)
              have hb8_ := hall 8 (by kernel_rfl)
              have hb9_ := hall 9 (by kernel_rfl)
              have hb10_ := hall 10 (by kernel_rfl)
              have hb11_ := hall 11 (by kernel_rfl)
              have hb12_ := hall 12 (by kernel_rfl)
              have hb13_ := hall 13 (by kernel_rfl)
              have hb14_ := hall 14 (by kernel_rfl)
              have hb15_ := hall 15 (by kernel_rfl)
              subst ha
              simp only [putSel, hb0_, hb1_, hb2_, hb3_, hb4_, hb5_, hb6_, hb7_, hb8_, hb9_, hb10_, hb11_, hb12_, hb13_, hb14_, hb15_, if_true, Act.put, List.setIfInBounds_toArray, List.set_cons_zero, List.set_cons_succ]
              have BB := Aside0.mk Q_BB
              clear Q_BB
              clear hall hb0_ hb1_ hb2_ hb3_ hb4_ hb5_ hb6_ hb7_ hb8_ hb9_ hb10_ hb11_ hb12_ hb13_ hb14_ hb15_
              have HNB := Lib.hid (show Below wo.heap.size wo w' from DZ.out _ BB.out)
              have HBN := Lib.hid (bl_seq_ HB.out HNB.out)
              clear BB DZ HY0 HY1 HY2 HY3 HZ1 HCz
              cases q with
              | true =>
                have H2 := Lib.hid (show fitsF l s f (i + 1) (k + 1) back fr = some r by have h_ := H1.out; rw [if_pos ⟨hil, rfl⟩] at h_; exact h_)
                clear H1
                go_wp2
                go_roundg f
                case measure => omega
                case rel => exact ⟨i + 1, k + 1, fr, back, by omega, by omega, by omega, HB0.out, by go_num, by go_num, rfl, rfl, H2, HBN⟩
              | false =>
                have H2 := Lib.hid (by have h_ := H1.out; rw [if_neg (by simp)] at h_; exact h_)
                cases back with
                | some bk =>
                  have hbk := HB0.out bk rfl
                  have g1 : decide ((0 : Int) ≤ backI (some bk)) = true := by simp [backI]
                  have g2 : backI (some bk) = (bk : Int) := rfl
                  rw [g2] at g1 ⊢
                  have H3 := Lib.hid (show fitsF l s f (bk + 1) (fr + 1) (some bk) (fr + 1) = some r from H2.out)
                  clear H1 H2
                  go_wp2
                  go_roundg f
                  case measure => omega
                  case rel => exact ⟨bk + 1, fr + 1, fr + 1, some bk, by omega, by omega, Nat.le_refl _, HB0.out, by go_num, by go_num, rfl, by go_num, H3, HBN⟩
                | none =>
                  have H3 := Lib.hid (show some false = some r from H2.out)
                  have hr : false = r := Option.some.inj H3.out
                  clear H1 H2 H3
                  have hz : backI none < 0 := by decide
                  obtain ⟨z, hz0⟩ : ∃ z, backI none = z := ⟨_, rfl⟩
                  rw [hz0] at hz ⊢
                  clear hz0
                  go_wp2_with fail
                  go_ret
                  exact ⟨by rw [← hr]; rfl, HBN.out⟩
        · rw [if_neg (fun h_ => hil h_.1), if_neg (fun h_ => hil h_.1)] at h
          have H1 := Lib.hid h
          have H2 := H1
          clear h
          have z1 := (HS.out.below HB.out).2 k hkn
          go_wp2_with fail
          go_quiet (fail)
          have HBN := Lib.hid (bl_seq_ HB.out (pw_below_drewN (Below.refl wo.heap.size wo) nq))
          cases back with
          | some bk =>
            have hbk := HB0.out bk rfl
            have g1 : decide ((0 : Int) ≤ backI (some bk)) = true := by simp [backI]
            have g2 : backI (some bk) = (bk : Int) := rfl
            rw [g2] at g1 ⊢
            have H3 := Lib.hid (show fitsF l s f (bk + 1) (fr + 1) (some bk) (fr + 1) = some r from H2.out)
            clear H1 H2
            go_wp2
            go_roundg f
            case measure => omega
            case rel => exact ⟨bk + 1, fr + 1, fr + 1, some bk, by omega, by omega, Nat.le_refl _, HB0.out, by go_num, by go_num, rfl, by go_num, H3, HBN⟩
          | none =>
            have H3 := Lib.hid (show some false = some r from H2.out)
            have hr : false = r := Option.some.inj H3.out
            clear H1 H2 H3
            have hz : backI none < 0 := by decide
            obtain ⟨z, hz0⟩ : ∃ z, backI none = z := ⟨_, rfl⟩
            rw [hz0] at hz ⊢
            clear hz0
            go_wp2_with fail
            go_ret
            exact ⟨by rw [← hr]; rfl, HBN.out⟩
      · rw [if_neg (HS.out.1.symm ▸ hkn)] at h
        have hr : tailM l i = r := Option.some.inj h
        have HT := Lib.hid hr
        clear hr h
        go_wp2_with fail
        go_loopw [5] (fun vj wj => ∃ j : Nat, j ≤ l.length ∧ vj = .int .i64 (j : Int) ∧ Hid (tailM l j = r) ∧ wj = wo) (fun vj _ => l.length - (intOf vj).toNat)
        case atStart => exact ⟨i, hi, rfl, HT, rfl⟩
        case round =>
          obtain ⟨j, hj, rfl, HTj, rfl⟩ := hrel
          by_cases hjl : j < l.length
          · obtain ⟨ad, B, cB, hA, -, -, y0, -⟩ := at_P (Kd.C_below HL.out HB.out) j hjl
            subst hA
            have hst := tailM_step hjl
            rw [HTj.out] at hst
            obtain ⟨q, hq⟩ : ∃ q, (rdP l j).1 = q := ⟨_, rfl⟩
            rw [hq] at y0 hst
            have HST := Lib.hid hst
            clear hst hq
            cases q with
            | true =>
              have HT1 : Hid (tailM l (j + 1) = r) := Lib.hid (by rw [HST.out]; simp)
              clear HST
              go_wp2_with fail
              go_roundw
              case rel => exact ⟨j + 1, by omega, by go_num, HT1, by first | rfl | trivial⟩
              case measure => simp [intOf]; omega
            | false =>
              have hr : r = false := by rw [HST.out]; simp
              have hne : ((j : Int) == (l.length : Int)) = false := by simp; omega
              clear HST HTj HT
              go_wp2_with fail
              go_ret
              exact ⟨by rw [hr]; rfl, HB.out⟩
          · have hr : r = true := by rw [← HTj.out]; exact tailM_end (by omega)
            have hjl2 : j = l.length := by omega
            have hne : ((l.length : Int) == (l.length : Int)) = true := by simp
            clear HTj HT
            subst hjl2
            go_wp2_with fail
            go_ret
            exact ⟨by rw [hr]; rfl, HB.out⟩

/-! ### names_Match: function 19 (of this session's own) -/
def names_Match.f (a0 a1 : ByteArray) : Option (Bool × Int) :=
  if a0.size ≤ 1000000 ∧ a1.size ≤ 1000000 ∧ 0 < a1.size ∧ allF a0 a0.size 0 = true then
    match partsF (runes a0) 1000001 0 [] with
    | none => none
    | some l => if okL l = true then (match fitsF l (runes a1) 1000000 0 0 none 0 with | none => none | some b => some (b, 0)) else none
  else none
theorem names_Match.open_ {a0 a1 : ByteArray} {r1 : Bool} {r2 : Int} (h : names_Match.f a0 a1 = some (r1, r2)) : a0.size ≤ 1000000 ∧ a1.size ≤ 1000000 ∧ 0 < a1.size ∧ allF a0 a0.size 0 = true ∧ r2 = 0 ∧ ∃ l, partsF (runes a0) 1000001 0 [] = some l ∧ l.length ≤ 1000000 ∧ (∀ x ∈ l, x.2.2.2.length ≤ 1000000) ∧ fitsF l (runes a1) 1000000 0 0 none 0 = some r1 := by
  unfold names_Match.f at h
  split at h
  · rename_i hc
    split at h
    · cases h
    · rename_i l hp
      split at h
      · rename_i hk
        split at h
        · cases h
        · rename_i b hf
          obtain ⟨rfl, rfl⟩ : b = r1 ∧ (0 : Int) = r2 := by simpa using h
          refine ⟨hc.1, hc.2.1, hc.2.2.1, hc.2.2.2, rfl, l, hp, ?_, ?_, hf⟩
          · simp only [okL, Bool.and_eq_true, decide_eq_true_eq] at hk; exact hk.1
          · intro x hx
            simp only [okL, Bool.and_eq_true, decide_eq_true_eq] at hk
            simpa using List.all_eq_true.1 hk.2 x hx
      · cases h
  · cases h
theorem runes_pos {s : ByteArray} (h : 0 < s.size) : 0 < (runes s).length := by
  rw [runes, runesF_step s s.size 0 h (by omega)]
  simp
def MatS (w wr : World) (k1 : Nat) (a1 : ByteArray) (pos b : Nat) (v : Value) (p : List Nat) : Prop :=
  wr.heap[k1]? = some (.stringIter a1 pos) ∧ (Kd.int .i32).R 21 wr k1 (fun k => k ≠ k1) v (nI p) ∧ Below w.heap.size w wr ∧ p ++ runesF a1 b pos = runes a1
theorem infoI32 : (Tryd.prog.info? 21).map (fun i => (i.zero, i.size, i.bytes)) = some (some (.int .i32 0), 1, 4) := by kernel_rfl
set_option maxHeartbeats 8000000 in
set_option maxRecDepth 100000 in
theorem names_Match.calls (a0 a1 : ByteArray) (r1 : Bool) (r2 : Int) (w : World) (h : names_Match.f a0 a1 = some (r1, r2)) (hgt : GT w) :
    Calls Tryd.prog 19 #[.string a0, .string a1] w fun e w' => e = .returned (.tuple #[.bool r1, .int .i64 r2]) ∧ Below w.heap.size w w' := by
  obtain ⟨hs0, hs1, hp1, hva, rfl, l, hpa, hll, hlr, hfi⟩ := names_Match.open_ h
  have HPA := Lib.hid hpa
  have HLR := Lib.hid hlr
  have HFI := Lib.hid hfi
  have HP1 := Lib.hid hp1
  have k0 := conv_run a0 (by omega)
  have hl0 : (runes a0).length ≤ 1000000 := Nat.le_trans (runes_length a0) hs0
  have hc0 : (runes a0).length ≤ rcap w a0 := (grownCap_ge w _ 0 21)
  have HR0 := Lib.hid (rworld_RdN w a0)
  have HB0 := Lib.hid (rworld_below w a0)
  have HG0 := Lib.hid (hgt.below (rworld_below w a0))
  clear h hgt hpa hlr hfi hp1
  go_enter Tryd.func19, Tryd.ntmps19
  go_wp2_with fail
  obtain ⟨W0, hW0⟩ : ∃ W0, rworld w a0 = W0 := ⟨_, rfl⟩
  rw [hW0] at HR0 HB0 HG0 ⊢
  obtain ⟨g0, hg0⟩ : ∃ g0, w.heap.size = g0 := ⟨_, rfl⟩
  rw [hg0] at HR0
  try rw [hg0]
  obtain ⟨n0, hn0⟩ : ∃ n0, (runes a0).length = n0 := ⟨_, rfl⟩
  obtain ⟨c0, hc0'⟩ : ∃ c0, rcap w a0 = c0 := ⟨_, rfl⟩
  rw [hn0] at HR0 hl0 hc0
  rw [hc0'] at hc0
  try rw [hn0]
  try rw [hc0']
  clear k0 hW0
  refine (Valid_any a0 W0 (by omega) HG0.out).mono ?_
  rw [hva]
  rintro e w1 ⟨rfl, hb⟩
  have HR1 := Lib.hid (HR0.out.below hb)
  have HB1 := Lib.hid (bl_seq_ HB0.out hb)
  clear hb hva
  go_wp2_with fail
  refine (names_parts.calls g0 n0 c0 1000001 (runes a0) l w1 hc0 hl0 HR1.out HPA.out).mono ?_
  rintro e w2 ⟨v, rfl, hR, hb⟩
  obtain ⟨A, cA, hv, hcA, hC⟩ := Kd.R_reads hR
  subst hv
  have HC2 := Lib.hid hC
  have HB2 := Lib.hid (bl_seq_ HB1.out hb)
  clear hR hC hb
  go_wp2_with fail
  obtain ⟨k1, hk1⟩ : ∃ k1, w2.heap.size = k1 := ⟨_, rfl⟩
  try rw [hk1]
  go_loopw [9] (fun v wr => ∃ pos b p, a1.size ≤ pos + b ∧ Hid (MatS w2 wr k1 a1 pos b v p)) (fun _ wr => a1.size - wr.iterPos k1)
  case atStart => exact ⟨0, a1.size, [], by omega, Lib.hid ⟨by rw [← hk1]; exact heap_alloc_new w2 _, Kd.R_nil _ _ _ _ _, below_alloc (Below.refl _ _) _, rfl⟩⟩
  case round =>
    obtain ⟨pos, b, p, hpb, HS⟩ := hrel
    obtain ⟨e1, e2, e3, e4⟩ := HS.out
    have e5 : p.length ≤ a1.size := by
      have h1_ := congrArg List.length e4
      rw [List.length_append] at h1_
      have h2_ := runes_length a1
      omega
    obtain ⟨A3, c3, hv, hpc, -⟩ := Kd.R_reads e2
    subst hv
    have hip : wr.iterPos k1 = pos := by simp [World.iterPos, e1]
    have hks : k1 < wr.heap.size := blk_lt e1
    by_cases hp : pos < a1.size
    · have hnx : ∀ ty, (Instr.next (.pointer (some ⟨k1, 0, none⟩)) true ty).run Tryd.prog wr = _ := fun ty => Lib.run_next_any_at wr k1 a1 pos ty e1 hp
      have hwd := Lib.decode_width_pos a1 pos hp
      have hst := runesF_step a1 b pos hp hpb
      have hi1 := Lib.iterAt_heap wr k1 a1 pos (pos + (Utf8.decode a1 pos).2) e1
      obtain ⟨x, hx⟩ : ∃ x, (Utf8.decode a1 pos).1 = x := ⟨_, rfl⟩
      obtain ⟨wd, hwd0⟩ : ∃ wd, (Utf8.decode a1 pos).2 = wd := ⟨_, rfl⟩
      rw [hx, hwd0] at hnx
      rw [hwd0] at hwd hi1
      rw [hx, hwd0] at hst
      have f2 : (Kd.int .i32).R 21 (wr.iterAt k1 a1 (pos + wd)) k1 (fun k => k ≠ k1) (.slice A3 (nI p).length c3) (nI p) := Kd.R_step e2 (fun k hk _ => Lib.iterAt_other wr k1 k a1 _ hk)
      have hne : some k1 ≠ (Value.slice A3 (nI p).length c3).ownBlock := fun h_ => (f2.1 k1 h_.symm) rfl
      have hsz : (wr.iterAt k1 a1 (pos + wd)).heap.size = wr.heap.size := Lib.iterAt_size _ _ _ _
      have HX := Lib.hid (show (∀ k, (wr.iterAt k1 a1 (pos + wd)).heap.size ≤ k → k ≠ k1) ∧ (Kd.int .i32).R 21 (wr.iterAt k1 a1 (pos + wd)) k1 (fun k => k ≠ k1) (.slice A3 (nI p).length c3) (nI p) ∧ Below w2.heap.size w2 (wr.iterAt k1 a1 (pos + wd)) ∧ k1 ≤ (wr.iterAt k1 a1 (pos + wd)).heap.size ∧ ((nI p).length + 1) * 4 ≤ 140737488355328 ∧ (wr.iterAt k1 a1 (pos + wd)).heap[k1]? = some (.stringIter a1 (pos + wd)) ∧ some k1 ≠ (Value.slice A3 (nI p).length c3).ownBlock from ⟨by rw [hsz]; omega, f2, Lib.below_iterAt e3 (by omega) _ _, by rw [hsz]; omega, by simp [nI]; omega, hi1, hne⟩)
      have HY := Lib.hid (show (p ++ [x]) ++ runesF a1 b (pos + wd) = runes a1 by rw [← e4, hst, List.append_assoc]; rfl)
      have HI := Lib.hid hip
      have hnI : nI p ++ [(x : Int)] = nI (p ++ [x]) := by simp [nI]
      have HN := Lib.hid hnI
      clear e1 e2 e3 e4 e5 hst f2 hne hsz hi1 hx hwd0 hip hnI HS hpc hks
      go_wp2_with (at_builtin; refine Kd.R_append (Kd.int .i32) (w0 := w2) k1 rfl (.tmp 30) (.tmp 32) 50 21 (.int .i32 0) 4 rfl Tryd.underlying50 infoI32 rfl (by decide) (by decide) (.slice A3 (nI p).length c3) (nI p) (x : Int) [.int .i32 (x : Int)] (fun k => k ≠ k1) (fun _ => False) rfl rfl rfl (fun _ h => h.elim) ?aF ?aO ?aB ?aS ?aL ?_; (case aF => exact HX.out.1); (case aO => exact HX.out.2.1); (case aB => exact hk1 ▸ HX.out.2.2.1); (case aS => exact HX.out.2.2.2.1); (case aL => exact HX.out.2.2.2.2.1); intro v1 w1 ho1 hb hg1 hat; have G2 := Lib.hid (And.intro ho1 (And.intro hb (blk_grown HX.out.2.2.2.2.2.1 hg1 HX.out.2.2.2.2.2.2))); clear ho1 hb hg1 hat)
      go_roundw
      case rel => exact ⟨pos + wd, b, p ++ [x], by omega, Lib.hid ⟨G2.out.2.2, by rw [← HN.out]; exact G2.out.1, by rw [hk1]; exact G2.out.2.1, HY.out⟩⟩
      case measure =>
        have h1 : w1.iterPos k1 = pos + wd := by simp [World.iterPos, G2.out.2.2]
        rw [h1, HI.out]; omega
    · have hnx : ∀ ty, (Instr.next (.pointer (some ⟨k1, 0, none⟩)) true ty).run Tryd.prog wr = _ := fun ty => Lib.run_next_end_at wr k1 a1 pos ty e1 hp
      have hpe : p = runes a1 := by rw [← e4, runesF_end a1 b pos hp, List.append_nil]
      subst hpe
      obtain ⟨g3, c3', hv3, hc3, hN3⟩ := own_RdN e2 (runes_pos HP1.out)
      rw [hv3]
      have hn1 : (runes a1).length ≤ 1000000 := Nat.le_trans (runes_length a1) hs1
      have HF := Lib.hid (names_fits.calls A cA l g3 (runes a1).length c3' 1000000 (runes a1) r1 wr (Kd.C_below HC2.out e3) hcA hll HLR.out hc3 hn1 hN3 HFI.out)
      have HB := Lib.hid (bl_seq_ HB2.out e3)
      obtain ⟨n3, hn3⟩ : ∃ n3, (runes a1).length = n3 := ⟨_, rfl⟩
      rw [hn3] at HF hc3 hn1 ⊢
      clear e1 e2 e3 e4 e5 HS hip hv3 hN3
      go_wp2_with fail
      refine HF.out.mono ?_
      rintro e w5 ⟨rfl, hb⟩
      have HB5 := Lib.hid (bl_seq_ HB.out hb)
      clear hb
      go_wp2_with fail
      go_ret2
      exact ⟨rfl, HB5.out⟩

/-! ### gabionlaw03_split: function 12 -/
def gabionlaw03_split.f  : Option (Bool) := (names_Split.f (⟨#[47, 97, 47, 46, 47, 98, 47, 46, 46, 47, 99]⟩ : ByteArray)).bind fun bt110 => ((names_Match.f (⟨#[42, 46, 91, 97, 45, 99, 93, 63]⟩ : ByteArray) (⟨#[120, 46, 98, 122]⟩ : ByteArray)).bind fun bt114 => (if bt110.2 = 0 then (if (bt110.1.length : Int) = 2 then (if 0 < (bt110.1.length : Int) then (if (rdOf ByteArray.empty bt110.1 0).toList = ([97] : List UInt8) then (if 1 < (bt110.1.length : Int) then (if (rdOf ByteArray.empty bt110.1 1).toList = ([99] : List UInt8) then (if bt114.1 = true then (some (bt114.2 == 0)) else (some false)) else (some false)) else (none)) else (some false)) else (none)) else (some false)) else (some false)))
set_option maxHeartbeats 8000000 in
set_option maxRecDepth 100000 in
theorem gabionlaw03_split.calls  (r : Bool) (w : World) (h : gabionlaw03_split.f  = some r) (hgt : GT w) :
    Calls Tryd.prog 12 #[] w fun e w' => e = .returned (.bool r) ∧ Below w.heap.size w w' := by
  have HGT := Aside0.mk hgt
  clear hgt
  have HB := Aside0.mk (Below.refl w.heap.size w)
  have H : ((names_Split.f (⟨#[47, 97, 47, 46, 47, 98, 47, 46, 46, 47, 99]⟩ : ByteArray)).bind fun bt110 => ((names_Match.f (⟨#[42, 46, 91, 97, 45, 99, 93, 63]⟩ : ByteArray) (⟨#[120, 46, 98, 122]⟩ : ByteArray)).bind fun bt114 => (if bt110.2 = 0 then (if (bt110.1.length : Int) = 2 then (if 0 < (bt110.1.length : Int) then (if (rdOf ByteArray.empty bt110.1 0).toList = ([97] : List UInt8) then (if 1 < (bt110.1.length : Int) then (if (rdOf ByteArray.empty bt110.1 1).toList = ([99] : List UInt8) then (if bt114.1 = true then (some (bt114.2 == 0)) else (some false)) else (some false)) else (none)) else (some false)) else (none)) else (some false)) else (some false)))) = some r := h
  clear h
  replace H := Option.bind_eq_some_iff.mp H
  obtain ⟨⟨t110, t111⟩, A10, H⟩ := H
  replace H : ((names_Match.f (⟨#[42, 46, 91, 97, 45, 99, 93, 63]⟩ : ByteArray) (⟨#[120, 46, 98, 122]⟩ : ByteArray)).bind fun bt114 => (if t111 = 0 then (if (t110.length : Int) = 2 then (if 0 < (t110.length : Int) then (if (rdOf ByteArray.empty t110 0).toList = ([97] : List UInt8) then (if 1 < (t110.length : Int) then (if (rdOf ByteArray.empty t110 1).toList = ([99] : List UInt8) then (if bt114.1 = true then (some (bt114.2 == 0)) else (some false)) else (some false)) else (none)) else (some false)) else (none)) else (some false)) else (some false))) = some r := H
  have A1 := Aside0.mk A10
  clear A10
  replace H := Option.bind_eq_some_iff.mp H
  obtain ⟨⟨t114, t115⟩, A20, H⟩ := H
  replace H : (if t111 = 0 then (if (t110.length : Int) = 2 then (if 0 < (t110.length : Int) then (if (rdOf ByteArray.empty t110 0).toList = ([97] : List UInt8) then (if 1 < (t110.length : Int) then (if (rdOf ByteArray.empty t110 1).toList = ([99] : List UInt8) then (if t114 = true then (some (t115 == 0)) else (some false)) else (some false)) else (none)) else (some false)) else (none)) else (some false)) else (some false)) = some r := H
  have A2 := Aside0.mk A20
  clear A20
  by_cases c3 : t111 = 0
  · rw [if_pos c3] at H
    have c3b0 : (t111 == 0) = true := beq_iff_eq.mpr c3
    have c3b1 : (t111 != 0) = false := bne_eq_false_iff_eq.mpr c3
    clear c3
    by_cases c4 : (t110.length : Int) = 2
    · rw [if_pos c4] at H
      have c4b0 : ((t110.length : Int) == 2) = true := beq_iff_eq.mpr c4
      have c4b1 : ((t110.length : Int) != 2) = false := bne_eq_false_iff_eq.mpr c4
      clear c4
      by_cases c5 : 0 < (t110.length : Int)
      · rw [if_pos c5] at H
        have c5b0 : decide (0 < (t110.length : Int)) = true := decide_eq_true c5
        have c5b1 : decide (0 < t110.length) = true := decide_eq_true (by omega)
        clear c5
        by_cases c6 : (rdOf ByteArray.empty t110 0).toList = ([97] : List UInt8)
        · rw [if_pos c6] at H
          have c6b0 : ((rdOf ByteArray.empty t110 0).toList == ([97] : List UInt8)) = true := beq_iff_eq.mpr c6
          have c6b1 : ((rdOf ByteArray.empty t110 0).toList != ([97] : List UInt8)) = false := bne_eq_false_iff_eq.mpr c6
          clear c6
          by_cases c7 : 1 < (t110.length : Int)
          · rw [if_pos c7] at H
            have c7b0 : decide (1 < (t110.length : Int)) = true := decide_eq_true c7
            have c7b1 : decide (1 < t110.length) = true := decide_eq_true (by omega)
            clear c7
            by_cases c8 : (rdOf ByteArray.empty t110 1).toList = ([99] : List UInt8)
            · rw [if_pos c8] at H
              have c8b0 : ((rdOf ByteArray.empty t110 1).toList == ([99] : List UInt8)) = true := beq_iff_eq.mpr c8
              have c8b1 : ((rdOf ByteArray.empty t110 1).toList != ([99] : List UInt8)) = false := bne_eq_false_iff_eq.mpr c8
              clear c8
              by_cases c9 : t114 = true
              · subst c9
                have H1 : (some (t115 == 0)) = some r := by rw [if_pos rfl] at H; exact H
                clear H
                have H := H1
                clear H1
                obtain rfl := Option.some.inj H
                go_enter Tryd.func12, Tryd.ntmps12
                go_wp2_with (first | ((with_reducible refine gate_callee (f := 15) rfl ?_); refine goesL_ (some 6) rfl rfl Tryd.func15 (by kernel_rfl) rfl #[.string (⟨#[47, 97, 47, 46, 47, 98, 47, 46, 46, 47, 99]⟩ : ByteArray)] rfl (by (try simp only [List.map_toArray, List.map_cons, List.map_nil]); first | done | rfl | (simp only [List.length_drop, List.length_take]; rfl)) ?_; (with_reducible refine (names_Split.calls (⟨#[47, 97, 47, 46, 47, 98, 47, 46, 46, 47, 99]⟩ : ByteArray) t110 t111 _ A1.out ?sidegt).mono ?_); (case sidegt => exact GT.below HGT.out (by repeat (first | (with_reducible first | exact HB.out | apply below_alloc | apply pw_below_drewN | apply below_drew1) | exact HB.out))); rintro e w10 ⟨v112, rfl, ho0, hb⟩; refine ⟨_, rfl, ?_⟩; have n0_ := Aside0.mk (Kd.R_lower ho0 (below_size (by repeat (first | (with_reducible first | exact HB.out | apply below_alloc | apply pw_below_drewN | apply below_drew1) | exact HB.out)))); have n1_ := Aside0.mk (below_step (by repeat (first | (with_reducible first | exact HB.out | apply below_alloc | apply pw_below_drewN | apply below_drew1) | exact HB.out)) hb); clear HB; have HO113 := n0_; have HB := n1_; clear n0_ n1_; (try clear hb); (try clear hb2); (try clear hk); (try clear hi); (try clear ho0)) | ((with_reducible refine gate_callee (f := 19) rfl ?_); refine goesL_ (some 10) rfl rfl Tryd.func19 (by kernel_rfl) rfl #[.string (⟨#[42, 46, 91, 97, 45, 99, 93, 63]⟩ : ByteArray), .string (⟨#[120, 46, 98, 122]⟩ : ByteArray)] rfl (by (try simp only [List.map_toArray, List.map_cons, List.map_nil]); first | done | rfl | (simp only [List.length_drop, List.length_take]; rfl)) ?_; (with_reducible refine (names_Match.calls (⟨#[42, 46, 91, 97, 45, 99, 93, 63]⟩ : ByteArray) (⟨#[120, 46, 98, 122]⟩ : ByteArray) true t115 _ A2.out ?sidegt).mono ?_); (case sidegt => exact GT.below HGT.out (by repeat (first | (with_reducible first | exact HB.out | apply below_alloc | apply pw_below_drewN | apply below_drew1) | exact HB.out))); rintro e w11 ⟨rfl, hb⟩; refine ⟨_, rfl, ?_⟩; have n0_ := Aside0.mk (Kd.R_below (by (with_reducible repeat (first | apply Kd.R_alloc | apply Kd.R_drewN | apply Kd.R_drew)); exact HO113.out) hb); have n1_ := Aside0.mk (below_step (by repeat (first | (with_reducible first | exact HB.out | apply below_alloc | apply pw_below_drewN | apply below_drew1) | exact HB.out)) hb); clear HO113; clear HB; have HO113 := n0_; have HB := n1_; clear n0_ n1_; (try clear hb); (try clear hb2); (try clear hk); (try clear hi); obtain ⟨Ao12, co12, eo12⟩ := Kd.R_slice HO113.out; subst eo12; have p116 : 0 ≤ (0 : Int) := (by omega); have q116 : 0 < (t110.length : Int) := of_decide_eq_true (by first | (with_reducible assumption) | assumption); obtain ⟨ad116, e116, hx116_0⟩ := Kd.at_string (Kd.R_reads' HO113.out).2.2 0 p116 q116; cases e116; have qi116 : (0 < t110.length) = True := eq_true (by omega); (try rw [show ((0 : Int)).toNat = 0 from rfl] at hx116_0); (try rw [Addr.add_zero'] at hx116_0); replace p116 := eq_true p116; replace q116 := eq_true q116; have p117 : 0 ≤ (1 : Int) := (by omega); have q117 : 1 < (t110.length : Int) := of_decide_eq_true (by first | (with_reducible assumption) | assumption); obtain ⟨ad117, e117, hx117_0⟩ := Kd.at_string (Kd.R_reads' HO113.out).2.2 1 p117 q117; obtain rfl : ad116 = ad117 := (by injection e117); (try simp only [show (1 : Int).toNat = 1 from rfl, Nat.reduceMul, Nat.reduceEqDiff, Go.Addr.add, ↓reduceIte] at hx117_0); have qi117 : (1 < t110.length) = True := eq_true (by omega); (try rw [show ((1 : Int)).toNat = 1 from rfl] at hx117_0); replace p117 := eq_true p117; replace q117 := eq_true q117))
                go_ret
                exact ⟨by first | rfl | (simp [errW_none, errW_some] <;> rfl) | (simp [*, errW_none, errW_some] <;> rfl), by repeat (first | (with_reducible first | exact HB.out | apply below_alloc | apply pw_below_drewN | apply below_drew1) | exact HB.out)⟩
              · replace c9 := Bool.eq_false_iff.mpr c9
                subst c9
                have H1 : (some false) = some r := by rw [if_neg (show ¬ (false = true) by decide)] at H; exact H
                clear H
                have H := H1
                clear H1
                obtain rfl := Option.some.inj H
                go_enter Tryd.func12, Tryd.ntmps12
                go_wp2_with (first | ((with_reducible refine gate_callee (f := 15) rfl ?_); refine goesL_ (some 6) rfl rfl Tryd.func15 (by kernel_rfl) rfl #[.string (⟨#[47, 97, 47, 46, 47, 98, 47, 46, 46, 47, 99]⟩ : ByteArray)] rfl (by (try simp only [List.map_toArray, List.map_cons, List.map_nil]); first | done | rfl | (simp only [List.length_drop, List.length_take]; rfl)) ?_; (with_reducible refine (names_Split.calls (⟨#[47, 97, 47, 46, 47, 98, 47, 46, 46, 47, 99]⟩ : ByteArray) t110 t111 _ A1.out ?sidegt).mono ?_); (case sidegt => exact GT.below HGT.out (by repeat (first | (with_reducible first | exact HB.out | apply below_alloc | apply pw_below_drewN | apply below_drew1) | exact HB.out))); rintro e w13 ⟨v112, rfl, ho0, hb⟩; refine ⟨_, rfl, ?_⟩; have n0_ := Aside0.mk (Kd.R_lower ho0 (below_size (by repeat (first | (with_reducible first | exact HB.out | apply below_alloc | apply pw_below_drewN | apply below_drew1) | exact HB.out)))); have n1_ := Aside0.mk (below_step (by repeat (first | (with_reducible first | exact HB.out | apply below_alloc | apply pw_below_drewN | apply below_drew1) | exact HB.out)) hb); clear HB; have HO113 := n0_; have HB := n1_; clear n0_ n1_; (try clear hb); (try clear hb2); (try clear hk); (try clear hi); (try clear ho0)) | ((with_reducible refine gate_callee (f := 19) rfl ?_); refine goesL_ (some 10) rfl rfl Tryd.func19 (by kernel_rfl) rfl #[.string (⟨#[42, 46, 91, 97, 45, 99, 93, 63]⟩ : ByteArray), .string (⟨#[120, 46, 98, 122]⟩ : ByteArray)] rfl (by (try simp only [List.map_toArray, List.map_cons, List.map_nil]); first | done | rfl | (simp only [List.length_drop, List.length_take]; rfl)) ?_; (with_reducible refine (names_Match.calls (⟨#[42, 46, 91, 97, 45, 99, 93, 63]⟩ : ByteArray) (⟨#[120, 46, 98, 122]⟩ : ByteArray) false t115 _ A2.out ?sidegt).mono ?_); (case sidegt => exact GT.below HGT.out (by repeat (first | (with_reducible first | exact HB.out | apply below_alloc | apply pw_below_drewN | apply below_drew1) | exact HB.out))); rintro e w14 ⟨rfl, hb⟩; refine ⟨_, rfl, ?_⟩; have n0_ := Aside0.mk (Kd.R_below (by (with_reducible repeat (first | apply Kd.R_alloc | apply Kd.R_drewN | apply Kd.R_drew)); exact HO113.out) hb); have n1_ := Aside0.mk (below_step (by repeat (first | (with_reducible first | exact HB.out | apply below_alloc | apply pw_below_drewN | apply below_drew1) | exact HB.out)) hb); clear HO113; clear HB; have HO113 := n0_; have HB := n1_; clear n0_ n1_; (try clear hb); (try clear hb2); (try clear hk); (try clear hi); obtain ⟨Ao15, co15, eo15⟩ := Kd.R_slice HO113.out; subst eo15; have p116 : 0 ≤ (0 : Int) := (by omega); have q116 : 0 < (t110.length : Int) := of_decide_eq_true (by first | (with_reducible assumption) | assumption); obtain ⟨ad116, e116, hx116_0⟩ := Kd.at_string (Kd.R_reads' HO113.out).2.2 0 p116 q116; cases e116; have qi116 : (0 < t110.length) = True := eq_true (by omega); (try rw [show ((0 : Int)).toNat = 0 from rfl] at hx116_0); (try rw [Addr.add_zero'] at hx116_0); replace p116 := eq_true p116; replace q116 := eq_true q116; have p117 : 0 ≤ (1 : Int) := (by omega); have q117 : 1 < (t110.length : Int) := of_decide_eq_true (by first | (with_reducible assumption) | assumption); obtain ⟨ad117, e117, hx117_0⟩ := Kd.at_string (Kd.R_reads' HO113.out).2.2 1 p117 q117; obtain rfl : ad116 = ad117 := (by injection e117); (try simp only [show (1 : Int).toNat = 1 from rfl, Nat.reduceMul, Nat.reduceEqDiff, Go.Addr.add, ↓reduceIte] at hx117_0); have qi117 : (1 < t110.length) = True := eq_true (by omega); (try rw [show ((1 : Int)).toNat = 1 from rfl] at hx117_0); replace p117 := eq_true p117; replace q117 := eq_true q117))
                go_ret
                exact ⟨by first | rfl | (simp [errW_none, errW_some] <;> rfl) | (simp [*, errW_none, errW_some] <;> rfl), by repeat (first | (with_reducible first | exact HB.out | apply below_alloc | apply pw_below_drewN | apply below_drew1) | exact HB.out)⟩
            · rw [if_neg c8] at H
              have c8b0 : ((rdOf ByteArray.empty t110 1).toList == ([99] : List UInt8)) = false := beq_eq_false_iff_ne.mpr c8
              have c8b1 : ((rdOf ByteArray.empty t110 1).toList != ([99] : List UInt8)) = true := bne_iff_ne.mpr c8
              obtain rfl := Option.some.inj H
              go_enter Tryd.func12, Tryd.ntmps12
              go_wp2_with (first | ((with_reducible refine gate_callee (f := 15) rfl ?_); refine goesL_ (some 6) rfl rfl Tryd.func15 (by kernel_rfl) rfl #[.string (⟨#[47, 97, 47, 46, 47, 98, 47, 46, 46, 47, 99]⟩ : ByteArray)] rfl (by (try simp only [List.map_toArray, List.map_cons, List.map_nil]); first | done | rfl | (simp only [List.length_drop, List.length_take]; rfl)) ?_; (with_reducible refine (names_Split.calls (⟨#[47, 97, 47, 46, 47, 98, 47, 46, 46, 47, 99]⟩ : ByteArray) t110 t111 _ A1.out ?sidegt).mono ?_); (case sidegt => exact GT.below HGT.out (by repeat (first | (with_reducible first | exact HB.out | apply below_alloc | apply pw_below_drewN | apply below_drew1) | exact HB.out))); rintro e w16 ⟨v112, rfl, ho0, hb⟩; refine ⟨_, rfl, ?_⟩; have n0_ := Aside0.mk (Kd.R_lower ho0 (below_size (by repeat (first | (with_reducible first | exact HB.out | apply below_alloc | apply pw_below_drewN | apply below_drew1) | exact HB.out)))); have n1_ := Aside0.mk (below_step (by repeat (first | (with_reducible first | exact HB.out | apply below_alloc | apply pw_below_drewN | apply below_drew1) | exact HB.out)) hb); clear HB; have HO113 := n0_; have HB := n1_; clear n0_ n1_; (try clear hb); (try clear hb2); (try clear hk); (try clear hi); (try clear ho0)) | ((with_reducible refine gate_callee (f := 19) rfl ?_); refine goesL_ (some 10) rfl rfl Tryd.func19 (by kernel_rfl) rfl #[.string (⟨#[42, 46, 91, 97, 45, 99, 93, 63]⟩ : ByteArray), .string (⟨#[120, 46, 98, 122]⟩ : ByteArray)] rfl (by (try simp only [List.map_toArray, List.map_cons, List.map_nil]); first | done | rfl | (simp only [List.length_drop, List.length_take]; rfl)) ?_; (with_reducible refine (names_Match.calls (⟨#[42, 46, 91, 97, 45, 99, 93, 63]⟩ : ByteArray) (⟨#[120, 46, 98, 122]⟩ : ByteArray) t114 t115 _ A2.out ?sidegt).mono ?_); (case sidegt => exact GT.below HGT.out (by repeat (first | (with_reducible first | exact HB.out | apply below_alloc | apply pw_below_drewN | apply below_drew1) | exact HB.out))); rintro e w17 ⟨rfl, hb⟩; refine ⟨_, rfl, ?_⟩; have n0_ := Aside0.mk (Kd.R_below (by (with_reducible repeat (first | apply Kd.R_alloc | apply Kd.R_drewN | apply Kd.R_drew)); exact HO113.out) hb); have n1_ := Aside0.mk (below_step (by repeat (first | (with_reducible first | exact HB.out | apply below_alloc | apply pw_below_drewN | apply below_drew1) | exact HB.out)) hb); clear HO113; clear HB; have HO113 := n0_; have HB := n1_; clear n0_ n1_; (try clear hb); (try clear hb2); (try clear hk); (try clear hi); obtain ⟨Ao18, co18, eo18⟩ := Kd.R_slice HO113.out; subst eo18; have p116 : 0 ≤ (0 : Int) := (by omega); have q116 : 0 < (t110.length : Int) := of_decide_eq_true (by first | (with_reducible assumption) | assumption); obtain ⟨ad116, e116, hx116_0⟩ := Kd.at_string (Kd.R_reads' HO113.out).2.2 0 p116 q116; cases e116; have qi116 : (0 < t110.length) = True := eq_true (by omega); (try rw [show ((0 : Int)).toNat = 0 from rfl] at hx116_0); (try rw [Addr.add_zero'] at hx116_0); replace p116 := eq_true p116; replace q116 := eq_true q116; have p117 : 0 ≤ (1 : Int) := (by omega); have q117 : 1 < (t110.length : Int) := of_decide_eq_true (by first | (with_reducible assumption) | assumption); obtain ⟨ad117, e117, hx117_0⟩ := Kd.at_string (Kd.R_reads' HO113.out).2.2 1 p117 q117; obtain rfl : ad116 = ad117 := (by injection e117); (try simp only [show (1 : Int).toNat = 1 from rfl, Nat.reduceMul, Nat.reduceEqDiff, Go.Addr.add, ↓reduceIte] at hx117_0); have qi117 : (1 < t110.length) = True := eq_true (by omega); (try rw [show ((1 : Int)).toNat = 1 from rfl] at hx117_0); replace p117 := eq_true p117; replace q117 := eq_true q117))
              go_ret
              exact ⟨by first | rfl | (simp [errW_none, errW_some] <;> rfl) | (simp [*, errW_none, errW_some] <;> rfl), by repeat (first | (with_reducible first | exact HB.out | apply below_alloc | apply pw_below_drewN | apply below_drew1) | exact HB.out)⟩
          · rw [if_neg c7] at H
            exact absurd H (by simp)
        · rw [if_neg c6] at H
          have c6b0 : ((rdOf ByteArray.empty t110 0).toList == ([97] : List UInt8)) = false := beq_eq_false_iff_ne.mpr c6
          have c6b1 : ((rdOf ByteArray.empty t110 0).toList != ([97] : List UInt8)) = true := bne_iff_ne.mpr c6
          obtain rfl := Option.some.inj H
          go_enter Tryd.func12, Tryd.ntmps12
          go_wp2_with (first | ((with_reducible refine gate_callee (f := 15) rfl ?_); refine goesL_ (some 6) rfl rfl Tryd.func15 (by kernel_rfl) rfl #[.string (⟨#[47, 97, 47, 46, 47, 98, 47, 46, 46, 47, 99]⟩ : ByteArray)] rfl (by (try simp only [List.map_toArray, List.map_cons, List.map_nil]); first | done | rfl | (simp only [List.length_drop, List.length_take]; rfl)) ?_; (with_reducible refine (names_Split.calls (⟨#[47, 97, 47, 46, 47, 98, 47, 46, 46, 47, 99]⟩ : ByteArray) t110 t111 _ A1.out ?sidegt).mono ?_); (case sidegt => exact GT.below HGT.out (by repeat (first | (with_reducible first | exact HB.out | apply below_alloc | apply pw_below_drewN | apply below_drew1) | exact HB.out))); rintro e w19 ⟨v112, rfl, ho0, hb⟩; refine ⟨_, rfl, ?_⟩; have n0_ := Aside0.mk (Kd.R_lower ho0 (below_size (by repeat (first | (with_reducible first | exact HB.out | apply below_alloc | apply pw_below_drewN | apply below_drew1) | exact HB.out)))); have n1_ := Aside0.mk (below_step (by repeat (first | (with_reducible first | exact HB.out | apply below_alloc | apply pw_below_drewN | apply below_drew1) | exact HB.out)) hb); clear HB; have HO113 := n0_; have HB := n1_; clear n0_ n1_; (try clear hb); (try clear hb2); (try clear hk); (try clear hi); (try clear ho0)) | ((with_reducible refine gate_callee (f := 19) rfl ?_); refine goesL_ (some 10) rfl rfl Tryd.func19 (by kernel_rfl) rfl #[.string (⟨#[42, 46, 91, 97, 45, 99, 93, 63]⟩ : ByteArray), .string (⟨#[120, 46, 98, 122]⟩ : ByteArray)] rfl (by (try simp only [List.map_toArray, List.map_cons, List.map_nil]); first | done | rfl | (simp only [List.length_drop, List.length_take]; rfl)) ?_; (with_reducible refine (names_Match.calls (⟨#[42, 46, 91, 97, 45, 99, 93, 63]⟩ : ByteArray) (⟨#[120, 46, 98, 122]⟩ : ByteArray) t114 t115 _ A2.out ?sidegt).mono ?_); (case sidegt => exact GT.below HGT.out (by repeat (first | (with_reducible first | exact HB.out | apply below_alloc | apply pw_below_drewN | apply below_drew1) | exact HB.out))); rintro e w20 ⟨rfl, hb⟩; refine ⟨_, rfl, ?_⟩; have n0_ := Aside0.mk (Kd.R_below (by (with_reducible repeat (first | apply Kd.R_alloc | apply Kd.R_drewN | apply Kd.R_drew)); exact HO113.out) hb); have n1_ := Aside0.mk (below_step (by repeat (first | (with_reducible first | exact HB.out | apply below_alloc | apply pw_below_drewN | apply below_drew1) | exact HB.out)) hb); clear HO113; clear HB; have HO113 := n0_; have HB := n1_; clear n0_ n1_; (try clear hb); (try clear hb2); (try clear hk); (try clear hi); obtain ⟨Ao21, co21, eo21⟩ := Kd.R_slice HO113.out; subst eo21; have p116 : 0 ≤ (0 : Int) := (by omega); have q116 : 0 < (t110.length : Int) := of_decide_eq_true (by first | (with_reducible assumption) | assumption); obtain ⟨ad116, e116, hx116_0⟩ := Kd.at_string (Kd.R_reads' HO113.out).2.2 0 p116 q116; cases e116; have qi116 : (0 < t110.length) = True := eq_true (by omega); (try rw [show ((0 : Int)).toNat = 0 from rfl] at hx116_0); (try rw [Addr.add_zero'] at hx116_0); replace p116 := eq_true p116; replace q116 := eq_true q116))
          go_ret
          exact ⟨by first | rfl | (simp [errW_none, errW_some] <;> rfl) | (simp [*, errW_none, errW_some] <;> rfl), by repeat (first | (with_reducible first | exact HB.out | apply below_alloc | apply pw_below_drewN | apply below_drew1) | exact HB.out)⟩
      · rw [if_neg c5] at H
        exact absurd H (by simp)
    · rw [if_neg c4] at H
      have c4b0 : ((t110.length : Int) == 2) = false := beq_eq_false_iff_ne.mpr c4
      have c4b1 : ((t110.length : Int) != 2) = true := bne_iff_ne.mpr c4
      obtain rfl := Option.some.inj H
      go_enter Tryd.func12, Tryd.ntmps12
      go_wp2_with (first | ((with_reducible refine gate_callee (f := 15) rfl ?_); refine goesL_ (some 6) rfl rfl Tryd.func15 (by kernel_rfl) rfl #[.string (⟨#[47, 97, 47, 46, 47, 98, 47, 46, 46, 47, 99]⟩ : ByteArray)] rfl (by (try simp only [List.map_toArray, List.map_cons, List.map_nil]); first | done | rfl | (simp only [List.length_drop, List.length_take]; rfl)) ?_; (with_reducible refine (names_Split.calls (⟨#[47, 97, 47, 46, 47, 98, 47, 46, 46, 47, 99]⟩ : ByteArray) t110 t111 _ A1.out ?sidegt).mono ?_); (case sidegt => exact GT.below HGT.out (by repeat (first | (with_reducible first | exact HB.out | apply below_alloc | apply pw_below_drewN | apply below_drew1) | exact HB.out))); rintro e w22 ⟨v112, rfl, ho0, hb⟩; refine ⟨_, rfl, ?_⟩; have n0_ := Aside0.mk (Kd.R_lower ho0 (below_size (by repeat (first | (with_reducible first | exact HB.out | apply below_alloc | apply pw_below_drewN | apply below_drew1) | exact HB.out)))); have n1_ := Aside0.mk (below_step (by repeat (first | (with_reducible first | exact HB.out | apply below_alloc | apply pw_below_drewN | apply below_drew1) | exact HB.out)) hb); clear HB; have HO113 := n0_; have HB := n1_; clear n0_ n1_; (try clear hb); (try clear hb2); (try clear hk); (try clear hi); (try clear ho0)) | ((with_reducible refine gate_callee (f := 19) rfl ?_); refine goesL_ (some 10) rfl rfl Tryd.func19 (by kernel_rfl) rfl #[.string (⟨#[42, 46, 91, 97, 45, 99, 93, 63]⟩ : ByteArray), .string (⟨#[120, 46, 98, 122]⟩ : ByteArray)] rfl (by (try simp only [List.map_toArray, List.map_cons, List.map_nil]); first | done | rfl | (simp only [List.length_drop, List.length_take]; rfl)) ?_; (with_reducible refine (names_Match.calls (⟨#[42, 46, 91, 97, 45, 99, 93, 63]⟩ : ByteArray) (⟨#[120, 46, 98, 122]⟩ : ByteArray) t114 t115 _ A2.out ?sidegt).mono ?_); (case sidegt => exact GT.below HGT.out (by repeat (first | (with_reducible first | exact HB.out | apply below_alloc | apply pw_below_drewN | apply below_drew1) | exact HB.out))); rintro e w23 ⟨rfl, hb⟩; refine ⟨_, rfl, ?_⟩; have n0_ := Aside0.mk (Kd.R_below (by (with_reducible repeat (first | apply Kd.R_alloc | apply Kd.R_drewN | apply Kd.R_drew)); exact HO113.out) hb); have n1_ := Aside0.mk (below_step (by repeat (first | (with_reducible first | exact HB.out | apply below_alloc | apply pw_below_drewN | apply below_drew1) | exact HB.out)) hb); clear HO113; clear HB; have HO113 := n0_; have HB := n1_; clear n0_ n1_; (try clear hb); (try clear hb2); (try clear hk); (try clear hi); obtain ⟨Ao24, co24, eo24⟩ := Kd.R_slice HO113.out; subst eo24))
      go_ret
      exact ⟨by first | rfl | (simp [errW_none, errW_some] <;> rfl) | (simp [*, errW_none, errW_some] <;> rfl), by repeat (first | (with_reducible first | exact HB.out | apply below_alloc | apply pw_below_drewN | apply below_drew1) | exact HB.out)⟩
  · rw [if_neg c3] at H
    have c3b0 : (t111 == 0) = false := beq_eq_false_iff_ne.mpr c3
    have c3b1 : (t111 != 0) = true := bne_iff_ne.mpr c3
    obtain rfl := Option.some.inj H
    go_enter Tryd.func12, Tryd.ntmps12
    go_wp2_with (first | ((with_reducible refine gate_callee (f := 15) rfl ?_); refine goesL_ (some 6) rfl rfl Tryd.func15 (by kernel_rfl) rfl #[.string (⟨#[47, 97, 47, 46, 47, 98, 47, 46, 46, 47, 99]⟩ : ByteArray)] rfl (by (try simp only [List.map_toArray, List.map_cons, List.map_nil]); first | done | rfl | (simp only [List.length_drop, List.length_take]; rfl)) ?_; (with_reducible refine (names_Split.calls (⟨#[47, 97, 47, 46, 47, 98, 47, 46, 46, 47, 99]⟩ : ByteArray) t110 t111 _ A1.out ?sidegt).mono ?_); (case sidegt => exact GT.below HGT.out (by repeat (first | (with_reducible first | exact HB.out | apply below_alloc | apply pw_below_drewN | apply below_drew1) | exact HB.out))); rintro e w25 ⟨v112, rfl, ho0, hb⟩; refine ⟨_, rfl, ?_⟩; have n0_ := Aside0.mk (Kd.R_lower ho0 (below_size (by repeat (first | (with_reducible first | exact HB.out | apply below_alloc | apply pw_below_drewN | apply below_drew1) | exact HB.out)))); have n1_ := Aside0.mk (below_step (by repeat (first | (with_reducible first | exact HB.out | apply below_alloc | apply pw_below_drewN | apply below_drew1) | exact HB.out)) hb); clear HB; have HO113 := n0_; have HB := n1_; clear n0_ n1_; (try clear hb); (try clear hb2); (try clear hk); (try clear hi); (try clear ho0)) | ((with_reducible refine gate_callee (f := 19) rfl ?_); refine goesL_ (some 10) rfl rfl Tryd.func19 (by kernel_rfl) rfl #[.string (⟨#[42, 46, 91, 97, 45, 99, 93, 63]⟩ : ByteArray), .string (⟨#[120, 46, 98, 122]⟩ : ByteArray)] rfl (by (try simp only [List.map_toArray, List.map_cons, List.map_nil]); first | done | rfl | (simp only [List.length_drop, List.length_take]; rfl)) ?_; (with_reducible refine (names_Match.calls (⟨#[42, 46, 91, 97, 45, 99, 93, 63]⟩ : ByteArray) (⟨#[120, 46, 98, 122]⟩ : ByteArray) t114 t115 _ A2.out ?sidegt).mono ?_); (case sidegt => exact GT.below HGT.out (by repeat (first | (with_reducible first | exact HB.out | apply below_alloc | apply pw_below_drewN | apply below_drew1) | exact HB.out))); rintro e w26 ⟨rfl, hb⟩; refine ⟨_, rfl, ?_⟩; have n0_ := Aside0.mk (Kd.R_below (by (with_reducible repeat (first | apply Kd.R_alloc | apply Kd.R_drewN | apply Kd.R_drew)); exact HO113.out) hb); have n1_ := Aside0.mk (below_step (by repeat (first | (with_reducible first | exact HB.out | apply below_alloc | apply pw_below_drewN | apply below_drew1) | exact HB.out)) hb); clear HO113; clear HB; have HO113 := n0_; have HB := n1_; clear n0_ n1_; (try clear hb); (try clear hb2); (try clear hk); (try clear hi)))
    go_ret
    exact ⟨by first | rfl | (simp [errW_none, errW_some] <;> rfl) | (simp [*, errW_none, errW_some] <;> rfl), by repeat (first | (with_reducible first | exact HB.out | apply below_alloc | apply pw_below_drewN | apply below_drew1) | exact HB.out)⟩

end Go.Proofs.YtjjhdddiabdfhaaDoor.XNam
