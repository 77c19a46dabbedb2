/- What the proof of TopSealed leans on: Xd. -/
import Derived.Test.YtffalemndjampaaQbb
set_option linter.unusedVariables false
set_option linter.unusedSimpArgs false
namespace Go.Proofs.Ytffalemndjampaa
open Go.RowKit Go.Proofs.YtffalemndjampaaW.PrintWords Go.Proofs.YtffalemndjampaaW.PrintLast
structure EvSt (w : World) (B : Nat) (l : Value) (LA : Option Addr) (ln lc j : Nat) (evs : List Ev0) : Prop where
 own : w.ownsRow B 59 4 l (j + 1) (evL (.slice LA ln lc) evs)
 len : evs.length = j + 1
 ok : EvOk evs
 late : ∀ x ∈ evs, 90 ≤ x.1
 few : evs.countP (fun x => decide (x.2 = 1)) ≤ j
theorem own_ev1 (w : World) (q : Int) (LA : Option Addr) (ln lc : Nat) (hq : 90 ≤ q) : ∃ evs, EvSt (w.alloc (.cells #[.int .i64 q, .int .i64 2, .int .i64 0, .slice LA ln lc] 59)) w.heap.size (.slice (some ⟨w.heap.size, 0, none⟩) (0 + 1) 1) LA ln lc 0 evs :=
 ⟨[(q, 2)], ⟨rfl, .inr ⟨w.heap.size, 1, _, rfl, Nat.le_refl _, heap_alloc_new w _, by decide, by decide, rfl, rfl⟩⟩, rfl, fun x hx => by simp only [List.mem_singleton] at hx; rw [hx]; exact .inr rfl, fun x hx => by simp only [List.mem_singleton] at hx; rw [hx]; exact hq, by simp⟩
theorem evL_app (LV : Value) (a b : List Ev0) : evL LV (a ++ b) = evL LV a ++ evL LV b := by
 induction a with
 | nil => rfl
 | cons x r ih => simp only [List.cons_append, evL, ih]
theorem EvSt.next {w w' : World} {B : Nat} {l l' : Value} {LA : Option Addr} {ln lc j : Nat} {evs : List Ev0} {q : Int} (h : EvSt w B l LA ln lc j evs) (ho : w'.ownsRow B 59 4 l' (j + 1 + 1) (evL (.slice LA ln lc) evs ++ [.int .i64 q, .int .i64 1, .int .i64 0, .slice LA ln lc])) (hq : 90 ≤ q) : EvSt w' B l' LA ln lc (j + 1) (evs ++ [(q, 1)]) := by
 refine ⟨by rw [evL_app]; exact ho, by rw [List.length_append, h.len]; rfl, fun x hx => ?_, fun x hx => ?_, by rw [List.countP_append]; have := h.few; simp; omega⟩
 ·rcases List.mem_append.1 hx with h1 | h1
  ·exact h.ok x h1
  ·simp only [List.mem_singleton] at h1; rw [h1]; exact .inl rfl
 ·rcases List.mem_append.1 hx with h1 | h1
  ·exact h.late x h1
  ·simp only [List.mem_singleton] at h1; rw [h1]; exact hq
theorem EvSt.evr {w : World} {B j c : Nat} {A LA : Option Addr} {ln lc : Nat} {evs : List Ev0} (h : EvSt w B (.slice A (j + 1) c) LA ln lc j evs) : EvR w A (j + 1) (.slice LA ln lc) evs := by
 refine ⟨h.len, fun _ => ?_⟩
 rcases h.own.2 with ⟨-, h0⟩ | ⟨g, cap, cur, e, hg, hh, h1, h2, h3, h4⟩
 ·omega
 ·simp only [Value.slice.injEq] at e
  refine ⟨g, e.1, fun i x hx => ?_⟩
  obtain ⟨a0, a1, a2, a3⟩ := evL_at (.slice LA ln lc) evs i x hx
  exact ⟨(blk_cell hh _).trans (take_cell h4 a0), (blk_cell hh _).trans (take_cell h4 a1), (blk_cell hh _).trans (take_cell h4 a2), (blk_cell hh _).trans (take_cell h4 a3)⟩
set_option maxHeartbeats 64000000 in
set_option maxRecDepth 100000 in
theorem law_walk (AR AF LA : Option Addr) (nR cR nF cF ln lc : Nat) (at0 : Int) (rows : List (Int × Bool × Int)) (fails lf : List Int) (w : World) (hnR : rows.length = nR) (hR : RdW w AR rows) (hF : ReadsInt w .i64 AF nF fails) (hl : ReadsInt w .u8 LA ln lf) (hb : Byt lf) (hnR2 : nR ≤ 9223372036854775807) (hln2 : ln ≤ 9223372036854775807) :
  Calls Try.prog 4 #[.agg #[.slice AR nR cR, .slice AF nF cF, .int .i64 at0, .slice LA ln lc]] w fun e w' => e = .returned (.bool true) ∧ Below w.heap.size w w' := by
 have HR := Lib.hid (And.intro hnR hR)
 have HFL := Lib.hid hF
 have HL := Lib.hid (And.intro hl hb)
 have hg1 := heap_alloc_new w (.cells #[.slice AR nR cR, .slice AF nF cF, .int .i64 at0, .slice LA ln lc] 48)
 have hb1 := bl_alloc (Below.refl w.heap.size w) (.cells #[.slice AR nR cR, .slice AF nF cF, .int .i64 at0, .slice LA ln lc] 48)
 have x0 : (w.alloc (.cells #[.slice AR nR cR, .slice AF nF cF, .int .i64 at0, .slice LA ln lc] 48)).cell? ⟨w.heap.size, 0, none⟩ = some (.slice AR nR cR) := (blk_cell hg1 0).trans rfl
 have x1 : (w.alloc (.cells #[.slice AR nR cR, .slice AF nF cF, .int .i64 at0, .slice LA ln lc] 48)).cell? ⟨w.heap.size, 1, none⟩ = some (.slice AF nF cF) := (blk_cell hg1 1).trans rfl
 have x2 : (w.alloc (.cells #[.slice AR nR cR, .slice AF nF cF, .int .i64 at0, .slice LA ln lc] 48)).cell? ⟨w.heap.size, 2, none⟩ = some (.int .i64 at0) := (blk_cell hg1 2).trans rfl
 have x3 : (w.alloc (.cells #[.slice AR nR cR, .slice AF nF cF, .int .i64 at0, .slice LA ln lc] 48)).cell? ⟨w.heap.size, 3, none⟩ = some (.slice LA ln lc) := (blk_cell hg1 3).trans rfl
 have HB1 := Lib.hid hb1
 clear hnR hR hF hl hb hg1 hb1
 go_enter Try.func4, Try.ntmps4
 go_wp2_with fail
 go_region
 go_wp2_with fail
 clear x0 x1 x2 x3
 have hbW : Below w.heap.size w (World.drew _) := bl_drew (bl_alloc HB1.out (.cells #[.int .i64 3, .int .i64 16, .int .i64 6, .int .i64 256] 50))
 refine (new_any _).mono ?_
 rintro e w1 ⟨L, rfl, hb1, hW1, hN1⟩
 obtain ⟨hA1, hF1⟩ := new_arr hW1 (fun k => w1.heap.size ≤ k)
 have H1 := Lib.hid (And.intro (bl_seq hbW hb1) (And.intro hW1 (And.intro hA1 hF1)))
 have HN1 := Lib.hid (show (∀ k, (L.ar none 0 0 none 0 0 [] []).M k → w.heap.size ≤ k) from fun k hk => by
  have hz := hbW.size
  rcases hk with rfl | rfl | ⟨i, hi, rfl⟩
  ·exact Nat.le_trans hz hN1.1
  ·exact Nat.le_trans hz (hN1.2.2.2 0 (by decide)).1
  ·exact Nat.le_trans hz ((hN1.2.2.2 0 (by decide)).2 i hi))
 clear hbW hb1 hW1 hN1 hA1 hF1 HB1
 go_wp2_with fail
 refine (chips_any _ _ _ _ H1.out.2.2.1).mono ?_
 rintro e w2 ⟨rfl, hb2⟩
 have H2 := Lib.hid hb2
 clear hb2
 by_cases h60 : 60 < nR
 ·have h60' : (60 : Int) < (nR : Int) := by omega
  go_wp2_with fail
  refine (chips_any _ _ _ _ (H1.out.2.2.1.below H2.out)).mono ?_
  rintro e w3 ⟨rfl, hb3⟩
  go_wp2_with fail
  go_ret
  exact ⟨rfl, bl_seq (bl_seq H1.out.1 H2.out) hb3⟩
 have h60' : ¬ (60 : Int) < (nR : Int) := by omega
 by_cases hf3 : 3 < nF
 ·have hf3' : (3 : Int) < (nF : Int) := by omega
  go_wp2_with fail
  refine (chips_any _ _ _ _ (H1.out.2.2.1.below H2.out)).mono ?_
  rintro e w3 ⟨rfl, hb3⟩
  go_wp2_with fail
  go_ret
  exact ⟨rfl, bl_seq (bl_seq H1.out.1 H2.out) hb3⟩
 have hf3' : ¬ (3 : Int) < (nF : Int) := by omega
 by_cases hl3 : 320 < ln
 ·have hl3' : (320 : Int) < (ln : Int) := by omega
  go_wp2_with fail
  refine (chips_any _ _ _ _ (H1.out.2.2.1.below H2.out)).mono ?_
  rintro e w3 ⟨rfl, hb3⟩
  go_wp2_with fail
  go_ret
  exact ⟨rfl, bl_seq (bl_seq H1.out.1 H2.out) hb3⟩
 have hl3' : ¬ (320 : Int) < (ln : Int) := by omega
 go_wp2_with fail
 refine (unsealed_any LA ln lc lf w2 (HL.out.1.below (bl_seq H1.out.1 H2.out)) HL.out.2 (by omega)).mono ?_
 rintro e w3 ⟨ub, rfl, hb3, hub⟩
 have H3 := Lib.hid (bl_seq H2.out hb3)
 cases ub with
 | false =>
  go_wp2_with fail
  refine (chips_any _ _ _ _ (H1.out.2.2.1.below H3.out)).mono ?_
  rintro e w4 ⟨rfl, hb4⟩
  go_wp2_with fail
  go_ret
  exact ⟨rfl, bl_seq (bl_seq H1.out.1 H3.out) hb4⟩
 | true =>
 have HU := Lib.hid (uns_open (hub rfl))
 clear hub hb3 H2
 go_wp2_with fail
 have hA3 := H1.out.2.2.1.below H3.out
 refine (format_any (L.ar none 0 0 none 0 0 [] []) (fun k => w1.heap.size ≤ k) w3 H1.out.2.2.2 (fun k hk hM => by have h_ := H1.out.2.2.1.M_lt hM; omega) (fun k hk => Nat.le_trans H3.out.size hk) (fun x hx => by cases hx) (fun x hx => by cases hx) hA3 rfl).mono ?_
 rintro e w4 ⟨vp0, rfl, hA4, hM4⟩
 have H4 := Lib.hid (show Arr w4 (L.ar none 0 0 none 0 0 [] []) (fun k => w1.heap.size ≤ k) fmtS ∧ Mods (L.ar none 0 0 none 0 0 [] []).M w1 w4 ∧ Below w.heap.size w w4 from ⟨hA4, (Mods.of_below H3.out).trans hM4, by
  have h5 := bl_seq H1.out.1 H3.out
  exact h5.trans (hM4.below h5.size (fun i hi => HN1.out i hi))⟩)
 clear hA3 hA4 hM4 H3
 go_wp2_with fail
 refine (pick_any at0 250 w4 (by decide) (by decide)).mono ?_
 rintro e w5 ⟨q0, rfl, hq0, hq1, rfl⟩
 go_wp2_with fail
 have HEV0 := Lib.hid (own_ev1 w5 (90 + q0) LA ln lc (by omega))
 clear hq0 hq1
 obtain ⟨w6, hw6⟩ : ∃ w6, w5.alloc (.cells #[.int .i64 (90 + q0), .int .i64 2, .int .i64 0, .slice LA ln lc] 59) = w6 := ⟨_, rfl⟩
 have HB6 := Lib.hid (show Below w5.heap.size w5 w6 from by rw [← hw6]; exact bl_alloc (Below.refl _ _) _)
 rw [hw6] at HEV0 ⊢
 try rw [show q0 + 90 = 90 + q0 from Int.add_comm _ _]
 clear hw6
 go_loopw [12, 13] (fun l i wr => ∃ (j : Nat) (A : Option Addr) (c : Nat), i = .int .i64 (j : Int) ∧ j ≤ nF ∧ l = .slice A (j + 1) c ∧ Hid (Below w5.heap.size w5 wr ∧ ∃ evs, EvSt wr w5.heap.size (.slice A (j + 1) c) LA ln lc j evs)) (fun _ i _ => nF - (intOf i).toNat)
 case atStart => exact ⟨0, _, _, rfl, Nat.zero_le _, rfl, Lib.hid ⟨HB6.out, HEV0.out⟩⟩
 case round =>
  obtain ⟨j, A, c, rfl, hj, rfl, HI⟩ := hrel
  generalize wr = w7 at HI ⊢
  have HBw := Lib.hid (show Below w.heap.size w w7 from bl_seq H4.out.2.2 HI.out.1)
  by_cases hlt : j < nF
  ·have hji : (j : Int) < (nF : Int) := by omega
   obtain ⟨ad, hA, hc⟩ := (HFL.out.below HBw.out).at_ (j : Int) (by omega) (by omega)
   rw [Int.toNat_natCast, rd_getD] at hc
   subst hA
   go_wp2_with fail
   refine (pick_any (fails.getD j 0) 200 w7 (by decide) (by decide)).mono ?_
   rintro e w8 ⟨q1, rfl, hq0, hq1, rfl⟩
   obtain ⟨hb7, evs, hev⟩ := HI.out
   have HE := Lib.hid (And.intro hb7 hev)
   clear hb7 hev hc
   go_wp2_with (at_builtin; go_loud (refine print_append_cells (w0 := w5) w5.heap.size rfl (.tmp 94) (.tmp 103) 60 59 (.agg #[.int .i64 0, .int .i64 0, .int .i64 0, .slice none 0 0]) 4 48 rfl Try.underlying60 infoEv rfl (by decide) (by decide) (.slice A (j + 1) c) (j + 1) (evL (.slice LA ln lc) evs) [.int .i64 (90 + q1), .int .i64 1, .int .i64 0, .slice LA ln lc] rfl rfl rfl (by simp [Value.oneCell']) HE.out.2.own HE.out.1 HE.out.1.size (by omega) ?_); intro v2 w9 ho9 hb9 hg9 hat9; go_loud (obtain ⟨A3, c3, rfl⟩ := own_sln ho9; have H9 := Lib.hid (And.intro ho9 hb9); clear ho9 hb9 hg9 hat9))
   go_roundw
   case rel => exact ⟨j + 1, A3, c3, by go_num, by omega, rfl, Lib.hid ⟨H9.out.2, _, HE.out.2.next H9.out.1 (by omega)⟩⟩
   case measure => simp [intOf]; omega
  ·obtain rfl : j = nF := by omega
   go_wp2_with fail
   obtain ⟨hb7, evs, hev⟩ := HI.out
   refine (copy_law (EA0 := none) (n0 := 0) (ec0 := 0) (LA0 := none) (ln0 := 0) (lc0 := 0) (evs0 := []) (lf0 := []) (evs := evs) (lf := lf) (s := fmtS) H1.out.2.1 (fun _ _ _ _ _ _ => rfl) (H4.out.1.below hb7) (H4.out.2.1.trans (Mods.of_below hb7)) hev.evr (fun h_ => by omega) (by omega) (HL.out.1.below HBw.out) (by omega) HL.out.2 hev.ok).mono ?_
   rintro e w8 ⟨L2, E2, cE, F2, G2, rfl, hB8, hW8, hG8, hA8, hF8, hM8, hE8⟩
   have H8 := Lib.hid (show Below w.heap.size w w8 ∧ Arr w8 (L2.ar E2 (j + 1) cE LA ln lc evs lf) (fun k => k < w7.heap.size) ⟨fmtS.bl, 0, false⟩ ∧ _ ∧ _ ∧ ∀ x, (L2.ar E2 (j + 1) cE LA ln lc evs lf).EA = some x → x.block < w8.heap.size from ⟨bl_seq HBw.out hB8, hA8, hF8, hM8, hE8⟩)
   have HW8 := Lib.hid (And.intro hW8 (And.intro hG8 hB8.size))
   have HN := Lib.hid (show nf (L2.ar E2 (j + 1) cE LA ln lc evs lf) 0 ≤ 3 ∧ EvOk evs ∧ ∀ x ∈ evs, 90 ≤ x.1 from ⟨Nat.le_trans (List.countP_mono_left (fun x _ hx => by simp only [Bool.and_eq_true] at hx; exact hx.1)) (Nat.le_trans hev.few (by omega)), hev.ok, hev.late⟩)
   clear hb7 hev hB8 hW8 hG8 hA8 hF8 hM8 hE8 HI H1 H4 HN1 HEV0 HB6 HFL
   go_wp2_with fail
   obtain ⟨ar, har⟩ : ∃ ar, L2.ar E2 (j + 1) cE LA ln lc evs lf = ar := ⟨_, rfl⟩
   rw [har] at H8 HN
   have HAR := Lib.hid (show L2.p = ar.p ∧ ar.evs = evs ∧ ar.lf = lf ∧ ar = L2.ar E2 (j + 1) cE LA ln lc evs lf from ⟨by rw [← har]; rfl, by rw [← har]; rfl, by rw [← har]; rfl, har.symm⟩)
   clear har
   have hfi := fmt_inv HN.out.1 0
   have hfd := fin_find (s := ⟨fmtS.bl, 0, false⟩) hfi.ok hfi.len hfi.sp hfi.sv hfi.cov
   have HFD := Lib.hid hfd.2.2
   rw [HAR.out.1]
   refine (open_aux ar (fun k => k < w7.heap.size) ⟨fmtS.bl, 0, false⟩ w8 H8.out.2.2.1 (fun k hk hM => by have h_ := H8.out.2.2.2.1 k hM; omega) (fun k hk => Nat.lt_of_lt_of_le hk HW8.out.2.2) H8.out.2.2.2.2 (fun x hx hp => reads_lt H8.out.2.1.2.2.2.2.1 hp x hx) H8.out.2.1 (by decide) (by decide) rfl (fun i hi => early (by rw [HAR.out.2.1]; exact HN.out.2.2) hi) hfd.1 hfd.2.1).mono ?_
   rintro e w9 ⟨vp, T, m, rfl, hm64, hA9, hM9, hv1, hv2, hV9, hmx⟩
   obtain rfl := HFD.out T hmx
   have H9 := Lib.hid (And.intro hA9 (And.intro hM9 (And.intro hv1 (And.intro hv2 hV9))))
   clear hA9 hM9 hv1 hv2 hV9 hmx hfi hfd
   go_wp2_with fail
   rename_i K hK
   obtain ⟨gh, hgh⟩ : ∃ gh, w9.heap.size = gh := ⟨_, rfl⟩
   obtain ⟨gl, hgl⟩ : ∃ gl, w9.heap.size + 1 = gl := ⟨_, rfl⟩
   rw [hgl]
   rw [hgh]
   obtain ⟨w10, hw10⟩ : ∃ w10, (w9.alloc (.cells #[.slice none 0 0, .slice none 0 0, .slice none 0 0, .slice none 0 0, .slice none 0 0, .slice none 0 0] 63)).alloc (.cells #[.int .u8 0, .int .u32 0, .int .u32 0, .int .u16 0, .int .u16 0, .int .u32 0, .int .u32 0] 65) = w10 := ⟨_, rfl⟩
   rw [hw10]
   have HK := Lib.hid hK
   clear hK
   have HR0 := Lib.hid (rowst_init H8.out.2.2.1 H8.out.2.1 H8.out.2.2.2.1 HW8.out.2.2 H8.out.2.2.2.2 H9.out.1 H9.out.2.2.1 H9.out.2.2.2.1 H9.out.2.2.2.2 H9.out.2.1.size _ rfl)
   simp only [hdC] at HR0
   rw [hw10, hgl, hgh] at HR0
   have hb10 : Below w9.heap.size w9 w10 := by rw [← hw10]; exact bl_alloc (bl_alloc (Below.refl _ _) _) _
   have hW9 : Below w.heap.size w w9 := H8.out.1.trans (H9.out.2.1.below H8.out.1.size (fun i hi => by have h_ := H8.out.2.2.2.1 i hi; have h2_ := HBw.out.size; omega))
   have HW0 := Lib.hid (show Below w.heap.size w w10 ∧ Mods ar.M w8 w10 ∧ Inv ar ((⟨fmtS.bl, 0, false⟩ : St).tick m) T0.up (fun _ => []) ∧ w8.heap.size ≤ gh ∧ w8.heap.size ≤ vp ∧ gl = gh + 1 ∧ (∀ k, ar.M k → k < w8.heap.size) ∧ w.heap.size ≤ w8.heap.size ∧ ∀ k, ar.M k → w.heap.size ≤ k from ⟨bl_seq hW9 hb10, H9.out.2.1.trans (Mods.of_below hb10), fmt_inv HN.out.1 m, by rw [← hgh]; exact H9.out.2.1.size, H9.out.2.2.1, by rw [← hgl, hgh], fun k hk => H8.out.2.1.M_lt hk, H8.out.1.size, fun k hk => by have h_ := H8.out.2.2.2.1 k hk; have h2_ := HBw.out.size; omega⟩)
   clear hW9 hb10 hw10 H9 hgl hgh
   go_loopw [9, 17, 19] (fun ev opv i wr => ∃ (k : Nat) (H : Nat → Prop) (s : St) (T : Tb) (held : Nat → List Hd) (hv : Nat → Value) (last : Hd), ev = .int .i64 0 ∧ opv = .int .i64 (-1) ∧ i = .int .i64 (k : Int) ∧ k ≤ nR ∧ 0 ≤ s.ops ∧ s.ops ≤ 64 + 100 * (k : Int) ∧ T.seq ≤ 2 + 2 * (k : Int) ∧ Hid (RowSt wr ar vp gh gl (gh + 2) H s T held hv last ∧ WK w w8 ar wr ∧ Inv ar s T held)) (fun _ _ i _ => nR - (intOf i).toNat)
   case atStart => exact ⟨0, _, _, _, _, _, _, rfl, rfl, rfl, Nat.zero_le _, (by show (0 : Int) ≤ 0 + (m : Int); omega), (by show (0 : Int) + (m : Int) ≤ 64 + 100 * ((0 : Nat) : Int); omega), (by decide), Lib.hid ⟨HR0.out, ⟨HW0.out.1, HW0.out.2.1⟩, HW0.out.2.2.1⟩⟩
   case round =>
    obtain ⟨k, H, s, T, held, hv, last, rfl, rfl, rfl, hk, hs0, hs1, hsq, HI⟩ := hrel
    generalize wr = wR at HI ⊢
    by_cases hlt : k < nR
    ·have hki : (k : Int) < (nR : Int) := by omega
     have hkn : k < rows.length := by rw [HR.out.1]; exact hlt
     obtain ⟨⟨bI, er, cI⟩, hx⟩ : ∃ x, rows[k]? = some x := ⟨_, List.getElem?_eq_getElem hkn⟩
     obtain ⟨ad, hAR, c0, c1, c2, c3, c4⟩ := HR.out.2 k _ hx
     simp only at c0 c1 c2 c3 c4
     have HC := Lib.hid (And.intro c1 (And.intro c2 (And.intro c3 c4)))
     have c0 := pw_cell_below HI.out.2.1.1 c0
     subst hAR
     clear hx hkn c1 c2 c3 c4
     have HLN := Lib.hid (show EvOk ar.evs ∧ openB (leftD ar.lf) (leftO ar.lf) = false from ⟨by rw [HAR.out.2.1]; exact HN.out.2.1, by rw [HAR.out.2.2.1]; exact HU.out⟩)
     have HW1 := Lib.hid (show True ∧ True ∧ True ∧ w8.heap.size ≤ gh ∧ w8.heap.size ≤ vp ∧ gl = gh + 1 ∧ (∀ k, ar.M k → k < w8.heap.size) ∧ w.heap.size ≤ w8.heap.size ∧ ∀ k, ar.M k → w.heap.size ≤ k from ⟨trivial, trivial, trivial, HW0.out.2.2.2⟩)
     refine wp_seq_k (fun K1 h_ => ?_)
     have HK1 := Lib.hid h_
     clear h_
     go_wp2_with fail
     refine HK1.out _ _ ?_
     clear HK1
     refine wp_seq_k (fun K2 h_ => ?_)
     have HK2 := Lib.hid h_
     clear h_
     refine wp_block ?_
     refine wp_seq_k (fun Ka h_ => ?_)
     have HKa := Lib.hid h_
     clear h_
     go_wp2_with fail
     refine (pick_any bI 6 wR (by decide) (by decide)).mono ?_
     rintro e wS ⟨r, rfl, hr0, hr6, rfl⟩
     obtain ⟨b, rfl⟩ : ∃ b : Nat, r = (b : Int) := ⟨r.toNat, by omega⟩
     have hb6 : b < 6 := by omega
     clear c0
     go_wp2_with fail
     refine HKa.out _ _ ?_
     clear HKa
     refine wp_seq_k (fun Kb h_ => ?_)
     have HKb := Lib.hid h_
     clear h_
     go_wp2_with fail
     refine HKb.out _ _ ?_
     clear HKb
     refine wp_seq_k (fun Kc h_ => ?_)
     have HKc := Lib.hid h_
     clear h_
     refine eraseT _ w w8 ar vp gh gl nR cR k b ad er cI hb6 hlt (by omega) HW1 HC HLN wS H s T held hv last _ _ _ _ _ _ _ _ _ _ _ _ _ _ _ _ _ _ _ _ _ _ _ _ _ _ _ _ _ _ _ _ _ _ _ _ _ _ _ _ _ _ _ _ _ _ _ _ _ _ _ _ _ _ _ _ _ _ _ _ _ _ _ _ _ _ _ _ _ _ _ _ _ _ _ _ _ _ _ _ _ _ _ _ _ _ _ _ _ _ _ _ _ _ _ _ _ _ _ _ _ _ _ _ _ _ _ _ _ _ _ _ _ _ _ _ _ _ _ _ _ _ _ _ _ _ _ _ _ _ _ _ _ _ _ _ _ _ _ _ _ _ _ _ _ _ _ _ _ _ _ _ _ _ _ _ _ _ _ _ _ _ _ _ _ _ _ _ _ _ _ _ _ _ _ _ _ _ _ _ _ _ _ _ _ _ _ _ _ _ _ _ _ _ _ _ _ _ _ _ _ _ _ _ _ _ _ _ _ _ _ _ _ _ _ _ _ _ _ _ _ _ _ _ _ _ _ _ _ _ _ _ _ _ _ _ _ _ _ _ _ _ _ _ _ _ _ _ _ _ _ _ _ _ _ _ _ _ _ _ _ _ _ _ _ _ _ _ _ _ _ _ _ hs0 hs1 hsq HI (fun t21 t22 t116 t117 t118 t119 t120 t121 t122 t123 t124 t125 t126 t127 t128 t129 t130 t131 t132 t133 t134 t135 t136 t137 t138 t139 t140 t141 t142 t143 t144 t145 t146 t147 t148 t149 t150 t151 t152 t153 t154 t155 t156 t157 t158 t159 t160 t161 t162 t163 t164 t165 t166 t167 t168 t169 t170 t171 t172 t173 t174 t175 t176 t177 t178 t179 t180 t181 t182 t183 t184 t185 t186 t187 t188 t189 t190 t191 t192 t193 t194 t195 t196 t197 t198 t199 t200 wP H3 s3 T3 held3 hv3 last3 g1 g2 g3 g4 HP => ?_) (fun t20 t21 t22 t116 t117 t118 t119 t120 t121 t122 t123 t124 t125 t126 t127 t128 t129 t130 t131 t132 t133 t134 t135 t136 t137 t138 t139 t140 t141 t142 t143 t144 t145 t146 t147 t148 t149 t150 t151 t152 t153 t154 t155 t156 t157 t158 t159 t160 t161 t162 t163 t164 t165 t166 t167 t168 t169 t170 t171 t172 t173 t174 t175 t176 t177 t178 t179 t180 t181 t182 t183 t184 t185 t186 t187 t188 t189 t190 t191 t192 t193 t194 t195 t196 t197 t198 t199 t200 op2 wE2 H2 s2 T2 TF2 held2 hv2 last2 opn2 HE2 => ?_) _ rfl
     ·refine HKc.out _ _ ?_
      refine fillT _ w w8 ar vp gh gl nR cR k b ad er cI hb6 hlt (by omega) HW1 HC HLN wP H3 s3 T3 held3 hv3 last3 _ _ _ _ _ _ _ _ _ _ _ _ _ _ _ _ _ _ _ _ _ _ _ _ _ _ _ _ _ _ _ _ _ _ _ _ _ _ _ _ _ _ _ _ _ _ _ _ _ _ _ _ _ _ _ _ _ _ _ _ _ _ _ _ _ _ _ _ _ _ _ _ _ _ _ _ _ _ _ _ _ _ _ _ _ _ _ _ _ _ _ _ _ _ _ _ _ _ _ _ _ _ _ _ _ _ _ _ _ _ _ _ _ _ _ _ _ _ _ _ _ _ _ _ _ _ _ _ _ _ _ _ _ _ _ _ _ _ _ _ _ _ _ _ _ _ _ _ _ _ _ _ _ _ _ _ _ _ _ _ _ _ _ _ _ _ _ _ _ _ _ _ _ _ _ _ _ _ _ _ _ _ _ _ _ _ _ _ _ _ _ _ _ _ _ _ _ _ _ _ _ _ _ _ _ _ _ _ _ _ _ _ _ _ _ _ _ _ _ _ _ _ _ _ _ _ _ _ _ _ _ _ _ _ _ _ _ _ _ _ _ _ _ _ _ _ _ _ _ _ _ _ _ _ _ _ _ _ _ _ _ _ _ _ _ _ _ _ _ _ _ _ _ g1 g2 g3 g4 HP (fun t20 t21 t22 t116 t117 t118 t119 t120 t121 t122 t123 t124 t125 t126 t127 t128 t129 t130 t131 t132 t133 t134 t135 t136 t137 t138 t139 t140 t141 t142 t143 t144 t145 t146 t147 t148 t149 t150 t151 t152 t153 t154 t155 t156 t157 t158 t159 t160 t161 t162 t163 t164 t165 t166 t167 t168 t169 t170 t171 t172 t173 t174 t175 t176 t177 t178 t179 t180 t181 t182 t183 t184 t185 t186 t187 t188 t189 t190 t191 t192 t193 t194 t195 t196 t197 t198 t199 t200 wQ H4 s4 T4 held4 hv4 last4 g5 g6 g7 HQ => ?_) (fun t20 t21 t22 t116 t117 t118 t119 t120 t121 t122 t123 t124 t125 t126 t127 t128 t129 t130 t131 t132 t133 t134 t135 t136 t137 t138 t139 t140 t141 t142 t143 t144 t145 t146 t147 t148 t149 t150 t151 t152 t153 t154 t155 t156 t157 t158 t159 t160 t161 t162 t163 t164 t165 t166 t167 t168 t169 t170 t171 t172 t173 t174 t175 t176 t177 t178 t179 t180 t181 t182 t183 t184 t185 t186 t187 t188 t189 t190 t191 t192 t193 t194 t195 t196 t197 t198 t199 t200 op2 wE2 H2 s2 T2 TF2 held2 hv2 last2 opn2 HE2 => ?_) _ rfl
      ·refine HK2.out _ _ ?_
       go_wp2_with fail
       go_roundw
       case rel => exact ⟨k + 1, H4, s4, T4, held4, hv4, last4, rfl, rfl, by go_num, by omega, g5, g6, g7, HQ⟩
       case measure => simp [intOf]; omega
      ·go_wp2_with fail
       exact HK.out _ _ (tailT w w7 w8 L2 E2 cE j ln lc LA evs lf F2 G2 ar vp gh gl HBw HW8 H8 HAR 72 op2 wE2 H2 s2 T2 TF2 held2 hv2 last2 opn2 _ _ _ _ _ _ _ _ _ _ _ _ _ _ _ _ _ _ _ _ _ _ _ _ _ _ _ _ _ _ _ _ _ _ _ _ _ _ _ _ _ _ _ _ _ _ _ _ _ _ _ _ _ _ _ _ _ _ _ _ _ _ _ _ _ _ _ _ _ _ _ _ _ _ _ _ _ _ _ _ _ _ _ _ _ _ _ _ _ _ _ _ _ _ _ _ _ _ _ _ _ _ _ _ _ _ _ _ _ _ _ _ _ _ _ _ _ _ _ _ _ _ _ _ _ _ _ _ _ _ _ _ _ _ _ _ _ _ _ _ _ _ _ _ _ _ _ _ _ _ _ _ _ _ _ _ _ _ _ _ _ _ _ _ _ _ _ _ _ _ _ _ _ _ _ _ _ _ _ _ _ _ _ _ _ _ _ _ _ _ _ _ _ _ _ _ _ _ _ _ _ _ _ _ _ _ _ _ _ _ _ _ _ _ _ _ _ _ _ _ _ _ _ _ _ _ _ _ _ _ _ _ _ _ _ _ _ _ _ _ _ _ _ _ _ _ _ _ _ _ _ _ _ _ _ _ _ _ _ _ _ _ _ _ _ _ _ _ _ _ _ _ _ _ _ _ _ _ (.inr rfl) HE2 _ rfl)
     ·go_wp2_with fail
      exact HK.out _ _ (tailT w w7 w8 L2 E2 cE j ln lc LA evs lf F2 G2 ar vp gh gl HBw HW8 H8 HAR 72 op2 wE2 H2 s2 T2 TF2 held2 hv2 last2 opn2 _ _ _ _ _ _ _ _ _ _ _ _ _ _ _ _ _ _ _ _ _ _ _ _ _ _ _ _ _ _ _ _ _ _ _ _ _ _ _ _ _ _ _ _ _ _ _ _ _ _ _ _ _ _ _ _ _ _ _ _ _ _ _ _ _ _ _ _ _ _ _ _ _ _ _ _ _ _ _ _ _ _ _ _ _ _ _ _ _ _ _ _ _ _ _ _ _ _ _ _ _ _ _ _ _ _ _ _ _ _ _ _ _ _ _ _ _ _ _ _ _ _ _ _ _ _ _ _ _ _ _ _ _ _ _ _ _ _ _ _ _ _ _ _ _ _ _ _ _ _ _ _ _ _ _ _ _ _ _ _ _ _ _ _ _ _ _ _ _ _ _ _ _ _ _ _ _ _ _ _ _ _ _ _ _ _ _ _ _ _ _ _ _ _ _ _ _ _ _ _ _ _ _ _ _ _ _ _ _ _ _ _ _ _ _ _ _ _ _ _ _ _ _ _ _ _ _ _ _ _ _ _ _ _ _ _ _ _ _ _ _ _ _ _ _ _ _ _ _ _ _ _ _ _ _ _ _ _ _ _ _ _ _ _ _ _ _ _ _ _ _ _ _ _ _ _ _ _ (.inr rfl) HE2 _ rfl)
    ·obtain rfl : k = nR := by omega
     go_wp2_with fail
     exact HK.out _ _ (tailT w w7 w8 L2 E2 cE j ln lc LA evs lf F2 G2 ar vp gh gl HBw HW8 H8 HAR 0 (-1) _ H s T T held hv last 20 _ _ _ _ _ _ _ _ _ _ _ _ _ _ _ _ _ _ _ _ _ _ _ _ _ _ _ _ _ _ _ _ _ _ _ _ _ _ _ _ _ _ _ _ _ _ _ _ _ _ _ _ _ _ _ _ _ _ _ _ _ _ _ _ _ _ _ _ _ _ _ _ _ _ _ _ _ _ _ _ _ _ _ _ _ _ _ _ _ _ _ _ _ _ _ _ _ _ _ _ _ _ _ _ _ _ _ _ _ _ _ _ _ _ _ _ _ _ _ _ _ _ _ _ _ _ _ _ _ _ _ _ _ _ _ _ _ _ _ _ _ _ _ _ _ _ _ _ _ _ _ _ _ _ _ _ _ _ _ _ _ _ _ _ _ _ _ _ _ _ _ _ _ _ _ _ _ _ _ _ _ _ _ _ _ _ _ _ _ _ _ _ _ _ _ _ _ _ _ _ _ _ _ _ _ _ _ _ _ _ _ _ _ _ _ _ _ _ _ _ _ _ _ _ _ _ _ _ _ _ _ _ _ _ _ _ _ _ _ _ _ _ _ _ _ _ _ _ _ _ _ _ _ _ _ _ _ _ _ _ _ _ _ _ _ _ _ _ _ _ _ _ _ _ _ _ _ _ (.inl rfl) (Lib.hid ⟨HI.out.1, HI.out.2.1.1, HI.out.2.1.2, Fin.of_inv HI.out.2.2 20, fun c hc e => by omega⟩) _ rfl)
end Go.Proofs.Ytffalemndjampaa
