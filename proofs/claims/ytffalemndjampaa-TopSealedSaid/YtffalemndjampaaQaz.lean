/- What the proof of TopSealed leans on: Ue Va Vb Vc Vd Ve Vf Vg Xa Xb Xc. -/
import Derived.Test.YtffalemndjampaaQay
section
set_option linter.unusedVariables false
set_option linter.unusedSimpArgs false
namespace Go.Proofs.Ytffalemndjampaa
open Go.RowKit Go.Proofs.YtffalemndjampaaW.PrintWords Go.Proofs.YtffalemndjampaaW.PrintLast
def UeR.T8 : Bool × List (List Nat × List Nat) := (true, [([], []), ([0], [0]), ([1], [1]), ([2], [2]), ([2], [2]), ([3, 4, 2], [2, 3, 4]), ([2], [2]), ([2], [2]), ([6, 7, 2], [2, 6, 7]), ([5, 8, 2, 2], [2, 5, 8]), ([9, 2], [2, 9]), ([2, 10], [2, 10]), ([11, 9, 0, 1, 2, 3, 4, 5, 6, 7, 8, 9, 10, 11], [11])])
def UeR.B8 : List Nat := [0, 1, 3, 7, 7, 31, 7, 7, 199, 511, 1023, 2047, 4095]
theorem UeR.tab8 : rtab .any (opsOf Try.f18 8) = UeR.T8 := by kernel_rfl
theorem UeR.bits8 : waitsOk UeR.T8.2 UeR.B8 = true := by kernel_rfl
def UnsQ (w : World) (lf : List Int) (e : Ending) (w' : World) : Prop := ∃ b, e = .returned (.bool b) ∧ Below w.heap.size w w' ∧ (b = true → at_ (leftO lf) 24 4 ≠ crcOf ((leftO lf).take 24 ++ leftD lf ++ (leftO lf).drop 32))
theorem uns_open {lf : List Int} (h : at_ (leftO lf) 24 4 ≠ crcOf ((leftO lf).take 24 ++ leftD lf ++ (leftO lf).drop 32)) : openB (leftD lf) (leftO lf) = false := by
 rw [openB, right_no h]; simp
set_option maxHeartbeats 8000000 in
set_option maxRecDepth 100000 in
theorem unsealed_any (LA : Option Addr) (ln lc : Nat) (lf : List Int) (w : World) (hl : ReadsInt w .u8 LA ln lf) (hb : Byt lf) (hn : ln ≤ 1000) :
  Calls Try.prog 18 #[.slice LA ln lc, .int .i64 256] w (UnsQ w lf) := by
 have HL := Lib.hid hl
 have HBY := Lib.hid (show Byt (leftD lf) ∧ Byt (leftO lf) from ⟨leftD_byt hb, leftO_byt hb⟩)
 obtain ⟨sb, hsb⟩ : ∃ sb, decide (at_ (leftO lf) 24 4 = crcOf ((leftO lf).take 24 ++ leftD lf ++ (leftO lf).drop 32)) = sb := ⟨_, rfl⟩
 have HSB := Lib.hid hsb
 clear hl hb hsb
 go_enter Try.func18, Try.ntmps18
 go_wp2_with fail
 refine (cleft_any w.heap.size (.int .i64 0) (.int .i64 0) (.int .i64 0) (.slice none 0 0) (.slice none 0 0) (.slice none 0 0) (.int .i64 0) (.bool false) LA ln lc lf _ (heap_alloc_new w _) (HL.out.below (bl_alloc (Below.refl _ _) _)) hn).mono ?_
 rintro e w0 ⟨g, rfl, hg, hb0, hr0⟩
 have hbb := bl_alloc (Below.refl w.heap.size w) (.cells #[.int .i64 0, .int .i64 0, .int .i64 0, .int .i64 256, .slice none 0 0, .slice none 0 0, .slice none 0 0, .int .i64 0, .bool false] 102)
 have hrd := reads_cut (m := 256) hr0 0 (by decide) (by decide)
 have hro := reads_cut (m := 64) hr0 256 (by decide) (by decide)
 rw [List.drop_zero, leftAt_D] at hrd
 rw [leftAt_O, List.take_of_length_le (by rw [leftO_len]; exact Nat.le_refl _)] at hro
 have H0 := Lib.hid (And.intro (bl_seq hbb hb0) (And.intro hrd (And.intro hro hr0)))
 clear hg hb0 hr0 hbb hrd hro
 go_wp2_with fail
 go_loopw [7, 8] (fun al i wr => ∃ (j : Nat) (ab : Bool), i = .int .i64 (j : Int) ∧ al = .bool ab ∧ j ≤ 320 ∧ Hid (wr = w0)) (fun _ i _ => 320 - (intOf i).toNat)
 case atStart => exact ⟨0, true, rfl, rfl, by decide, Lib.hid rfl⟩
 case round =>
  obtain ⟨j, ab, rfl, rfl, hj, HW⟩ := hrel
  generalize wr = w1 at HW ⊢
  have hw := HW.out
  by_cases hlt : j < 320
  ·have hji : (j : Int) < 320 := by omega
   obtain ⟨ad, e, hc⟩ := H0.out.2.2.2.2.2 (by decide)
   have hcj := hc j hlt
   obtain rfl := Option.some.inj e
   rw [add_zero_, ← hw] at hcj
   obtain ⟨x, hx⟩ : ∃ x, (leftAt lf 320).getD j 0 = x := ⟨_, rfl⟩
   rw [hx] at hcj
   clear hc hx e hw
   cases ab with
   | false =>
    go_wp2_with fail
    go_roundw
    case rel => exact ⟨j + 1, _, by go_num, rfl, by omega, HW⟩
    case measure => simp [intOf]; omega
   | true =>
    by_cases h255 : x = 255
    ·subst h255
     go_wp2_with fail
     go_roundw
     case rel => exact ⟨j + 1, _, by go_num, rfl, by omega, HW⟩
     case measure => simp [intOf]; omega
    ·go_wp2_with fail
     go_roundw
     case rel => exact ⟨j + 1, _, by go_num, rfl, by omega, HW⟩
     case measure => simp [intOf]; omega
  ·obtain rfl : j = 320 := by omega
   have H1 := Lib.hid (show Below w.heap.size w w1 ∧ ReadsInt w1 .u8 (some ⟨g, 0, none⟩) 256 (leftD lf) ∧ ReadsInt w1 .u8 (some ⟨g, 256, none⟩) 64 (leftO lf) from by rw [hw]; exact ⟨H0.out.1, H0.out.2.1, H0.out.2.2.1⟩)
   clear hw HW
   cases ab with
   | true =>
    go_wp2_with fail
    go_region
    go_wp2_with fail
    go_ret
    exact ⟨false, rfl, by first | exact H1.out.1 | exact bl_drew H1.out.1, fun h => absurd h (by decide)⟩
   | false =>
    go_wp2_with fail
    refine start_ (n := 13) (S := fun w' => True) (ds := []) _ (by kernel_rfl) rfl rfl trivial (fun hHeld => ?_)
    refine with_tabW UeR.tab8 UeR.bits8 (fun HT_ HW_ => ?_)
    have HRz := Lib.hid (show ReadsInt w1.drew .u8 (some ⟨g, 0, none⟩) 256 (leftD lf) ∧ ReadsInt w1.drew .u8 (some ⟨g, 256, none⟩) 64 (leftO lf) from ⟨H1.out.2.1.below (bl_drew (Below.refl _ _)), H1.out.2.2.below (bl_drew (Below.refl _ _))⟩)
    have DZ := Lib.hid (show Below w1.heap.size w1 w1.drew from bl_drew (Below.refl _ _))
    generalize w1.drew = wz at HRz DZ hHeld ⊢
    have VB := Lib.hid (Below.refl wz.heap.size wz)
    refine pur_ 0 (some 30) HT_.out rfl rfl (by kernel_rfl) (fun _ _ _ h => h) (by rfl) (fun w' => by go_simp; with_reducible rfl) (by simp only [Act.put, List.setIfInBounds_toArray, List.set_cons_zero, List.set_cons_succ, i64_w, i32_w]; rfl) ?_
    refine pur_ 1 (some 31) HT_.out rfl rfl (by kernel_rfl) (fun _ _ _ h => h) (by rfl) (fun w' => by go_simp; with_reducible rfl) (by simp only [Act.put, List.setIfInBounds_toArray, List.set_cons_zero, List.set_cons_succ, i64_w, i32_w]; rfl) ?_
    refine pur_ 2 (some 32) HT_.out rfl rfl (by kernel_rfl) (fun _ _ _ h => h) (by rfl) (fun w' => by go_simp; with_reducible rfl) (by simp only [Act.put, List.setIfInBounds_toArray, List.set_cons_zero, List.set_cons_succ, i64_w, i32_w]; rfl) ?_
    refine pur_ 3 (some 33) HT_.out rfl rfl (by kernel_rfl) (fun _ _ _ h => h) (by rfl) (fun w' => by go_simp; with_reducible rfl) (by simp only [Act.put, List.setIfInBounds_toArray, List.set_cons_zero, List.set_cons_succ, i64_w, i32_w]; rfl) ?_
    refine pur_ 4 (some 34) HT_.out rfl rfl (by kernel_rfl) (fun _ _ _ h => h) (by rfl) (fun w' => by go_simp; with_reducible rfl) (by simp only [Act.put, List.setIfInBounds_toArray, List.set_cons_zero, List.set_cons_succ, i64_w, i32_w]; rfl) ?_
    refine pur_ 5 (some 35) HT_.out rfl rfl (by kernel_rfl) (fun _ _ _ h => h) (by rfl) (fun w' => by go_simp; with_reducible rfl) (by simp only [Act.put, List.setIfInBounds_toArray, List.set_cons_zero, List.set_cons_succ, i64_w, i32_w]; rfl) ?_
    refine pur_ 6 (some 36) HT_.out rfl rfl (by kernel_rfl) (fun _ _ _ h => h) (by rfl) (fun w' => by go_simp; with_reducible rfl) (by simp only [Act.put, List.setIfInBounds_toArray, List.set_cons_zero, List.set_cons_succ, i64_w, i32_w]; rfl) ?_
    refine pur_ 7 (some 37) HT_.out rfl rfl (by kernel_rfl) (fun _ _ _ h => h) (by rfl) (fun w' => by go_simp; with_reducible rfl) (by simp only [Act.put, List.setIfInBounds_toArray, List.set_cons_zero, List.set_cons_succ, i64_w, i32_w]; rfl) ?_
    refine pur_ 8 (some 38) HT_.out rfl rfl (by kernel_rfl) (fun _ _ _ h => h) (by rfl) (fun w' => by go_simp; with_reducible rfl) (by simp only [Act.put, List.setIfInBounds_toArray, List.set_cons_zero, List.set_cons_succ, i64_w, i32_w]; rfl) ?_
    refine inv_at [9, 10, 11, 12] (fun a0_ b a w' => a = putSel a0_ b [(9, 39, .bool sb), (10, 40, .bool (!sb)), (11, 41, .bool (!sb)), (12, 4, .bool (!sb))] ∧ (b 9 = false → Below wz.heap.size wz w') ∧ (b 9 = true → Below wz.heap.size wz w')) HT_.out HW_.out (by kernel_rfl) (by kernel_rfl) ?_ ?_ ?_
    ·exact ⟨by simp only [putSel, Bool.false_eq_true, if_false], fun _ => VB.out, fun h_ => absurd h_ (by decide)⟩
    ·skip
     clear VB
     refine steps_cons ?_ ?_
     ·rintro b a w' ⟨ha, Q_VB, Q_VQ⟩ hb_ hon hoff
      refine ⟨_, rfl, fun K hK => ?_⟩
      have e35 : a.tmps[35]? = some (.slice (some ⟨g, 0, none⟩) 256 320) := by rw [ha]; exact (putSel_off rfl).trans rfl
      have e38 : a.tmps[38]? = some (.slice (some ⟨g, 256, none⟩) 64 64) := by rw [ha]; exact (putSel_off rfl).trans rfl
      have e32 : a.tmps[32]? = some (.bool true) := by rw [ha]; exact (putSel_off rfl).trans rfl
      replace ha := Aside0.mk ha
      have VB := Aside0.mk (Q_VB hb_)
      refine goes_ Try.func34 (by kernel_rfl) rfl #[.slice (some ⟨g, 0, none⟩) 256 320, .slice (some ⟨g, 256, none⟩) 64 64] (wanted_on rfl rfl rfl (e32.trans (by first | rfl | (simp [*]; done)))) rfl rfl (by first | (simp only [List.map_toArray, List.map_cons, List.map_nil, Act.eval, Array.getD_eq_getD_getElem?, Option.getD_some, e35, e38, e32]; done) | (simp only [List.map_toArray, List.map_cons, List.map_nil, Act.eval, Array.getD_eq_getD_getElem?, Option.getD_some, e35, e38, e32]; rfl)) ?_
      refine (sealed_any g (leftD lf) (leftO lf) w' (HRz.out.1.below VB.out) (HRz.out.2.below VB.out) HBY.out.1 HBY.out.2).mono ?_
      rintro e w2 ⟨he_, q1⟩
      rw [HSB.out] at he_
      subst he_
      refine ⟨_, rfl, ?_⟩
      refine hK.out _ _ ⟨(ptup_ ha.out 0 hb_ rfl rfl rfl), fun h0_ => absurd ((up_self b 9).symm.trans h0_) (by decide), fun _ => bl_seq VB.out q1⟩
     refine steps_cons ?_ ?_
     ·rintro b a w' ⟨ha, Q_VB, Q_VQ⟩ hb_ hon hoff
      refine ⟨_, rfl, fun K hK => ?_⟩
      have e39 : a.tmps[39]? = some (.bool sb) := pton_ ha 0 rfl rfl (hon 9 (by kernel_rfl)) rfl
      have e32 : a.tmps[32]? = some (.bool true) := by rw [ha]; exact (putSel_off rfl).trans rfl
      replace ha := Aside0.mk ha
      have VQ := Aside0.mk (Q_VQ (hon 9 (by kernel_rfl)))
      refine value_ (w1 := w') (v := .bool (!sb)) (wanted_on rfl rfl rfl (e32.trans (by first | rfl | (simp [*]; done)))) rfl ?_ ?_
      ·go_simp
       (try simp only [i64_w])
       try rfl
      refine hK.out _ _ ⟨(ptup_ ha.out 1 hb_ rfl rfl rfl), fun h0_ => absurd ((hon 9 (by kernel_rfl)).symm.trans h0_) (by decide), Q_VQ⟩
     refine steps_cons ?_ ?_
     ·rintro b a w' ⟨ha, Q_VB, Q_VQ⟩ hb_ hon hoff
      refine ⟨_, rfl, fun K hK => ?_⟩
      have e32 : a.tmps[32]? = some (.bool true) := by rw [ha]; exact (putSel_off rfl).trans rfl
      have e40 : a.tmps[40]? = some (.bool (!sb)) := pton_ ha 1 rfl rfl (hon 10 (by kernel_rfl)) rfl
      replace ha := Aside0.mk ha
      have VQ := Aside0.mk (Q_VQ (hon 9 (by kernel_rfl)))
      refine value_ (w1 := w') (v := .bool (!sb)) (by rfl) rfl ?_ ?_
      ·go_simp
       (try simp only [i64_w])
       try rfl
      refine hK.out _ _ ⟨(ptup_ ha.out 2 hb_ rfl rfl rfl), fun h0_ => absurd ((hon 9 (by kernel_rfl)).symm.trans h0_) (by decide), Q_VQ⟩
     refine steps_cons ?_ ?_
     ·rintro b a w' ⟨ha, Q_VB, Q_VQ⟩ hb_ hon hoff
      refine ⟨_, rfl, fun K hK => ?_⟩
      have e41 : a.tmps[41]? = some (.bool (!sb)) := pton_ ha 2 rfl rfl (hon 11 (by kernel_rfl)) rfl
      replace ha := Aside0.mk ha
      have VQ := Aside0.mk (Q_VQ (hon 9 (by kernel_rfl)))
      refine value_ (w1 := w') (v := .bool (!sb)) (by rfl) rfl ?_ ?_
      ·go_simp
       (try simp only [i64_w])
       try rfl
      refine hK.out _ _ ⟨(ptup_ ha.out 3 hb_ rfl rfl rfl), fun h0_ => absurd ((hon 9 (by kernel_rfl)).symm.trans h0_) (by decide), Q_VQ⟩
     exact steps_nil
    ·rintro b a w' hall ⟨ha, Q_VB, Q_VQ⟩
     clear VB
     have hb9_ := hall 9 (by kernel_rfl)
     have hb10_ := hall 10 (by kernel_rfl)
     have hb11_ := hall 11 (by kernel_rfl)
     have hb12_ := hall 12 (by kernel_rfl)
     subst ha
     simp only [putSel, hb9_, hb10_, hb11_, hb12_, if_true, Act.put, List.setIfInBounds_toArray, List.set_cons_zero, List.set_cons_succ]
     clear Q_VB
     have VQ := Aside0.mk (Q_VQ hb9_)
     clear Q_VQ
     clear hall hb9_ hb10_ hb11_ hb12_
     go_wp2_with fail
     go_ret
     exact ⟨!sb, rfl, bl_seq (bl_seq H1.out.1 DZ.out) VQ.out, fun h => of_decide_eq_false (by rw [HSB.out]; simpa using h)⟩
end Go.Proofs.Ytffalemndjampaa
end
section
set_option linter.unusedVariables false
set_option linter.unusedSimpArgs false
namespace Go.Proofs.Ytffalemndjampaa
open Go.RowKit Go.Proofs.YtffalemndjampaaW.PrintWords
def nf (ar : Ar) (ops : Int) : Nat := ar.evs.countP fun x => decide (x.2 = 1) && decide (ops < x.1)
theorem nf_le (ar : Ar) {a b : Int} (h : a ≤ b) : nf ar b ≤ nf ar a := by
 unfold nf
 exact List.countP_mono_left (fun x _ hx => by simp only [Bool.and_eq_true, decide_eq_true_eq] at hx ⊢; exact ⟨hx.1, by omega⟩)
theorem countP_lt {α : Type} {p q : α → Bool} {l : List α} (hpq : ∀ x ∈ l, p x = true → q x = true) {y : α} (hy : y ∈ l) (hq : q y = true) (hp : p y = false) : l.countP p + 1 ≤ l.countP q := by
 induction l with
 | nil => simp at hy
 | cons a r ih =>
  have hr : r.countP p ≤ r.countP q := List.countP_mono_left (fun x hx h => hpq x (List.mem_cons_of_mem _ hx) h)
  rw [List.countP_cons, List.countP_cons]
  rcases List.mem_cons.1 hy with rfl | hy
  ·rw [hq, hp]; simp; omega
  ·have h_ := ih (fun x hx h => hpq x (List.mem_cons_of_mem _ hx) h) hy
   by_cases hpa : p a = true
   ·rw [hpq a (List.mem_cons_self ..) hpa, hpa]; simp; omega
   ·rw [Bool.not_eq_true] at hpa
    rw [hpa]
    cases hqa : q a <;> simp <;> omega
theorem nf_hit {ar : Ar} {s : St} (h : s.kind ar = 1) : nf ar (s.ops + 1) + 1 ≤ nf ar s.ops := by
 unfold St.kind at h
 cases he : evFind ar.evs (s.ops + 1) with
 | none => rw [he] at h; simp [evK] at h
 | some x =>
  rw [he] at h
  have h2 : x.2 = 1 := h
  have hm := List.mem_of_find?_eq_some he
  have h1 := List.find?_some he
  simp only [Bool.and_eq_true, decide_eq_true_eq, beq_iff_eq] at h1
  refine countP_lt (fun y _ hy => ?_) hm ?_ ?_
  ·simp only [Bool.and_eq_true, decide_eq_true_eq] at hy ⊢; exact ⟨hy.1, by omega⟩
  ·simp only [Bool.and_eq_true, decide_eq_true_eq]; exact ⟨h2, by omega⟩
  ·simp only [Bool.and_eq_false_iff, decide_eq_false_iff_not]; exact .inr (by omega)
def NoT0 (b : Bk) : Prop := NoTab (pgD (b.pg 0))
structure Step (K : Nat → Prop) (ar : Ar) (s s' : St) : Prop where
 keep : ∀ k, ¬ K k → s'.bl k = s.bl k
 zero : ∀ k, K k → NoT0 (s'.bl k) ∨ (s'.bl k).pg 0 = (s.bl k).pg 0
 ops : s.ops ≤ s'.ops
theorem Step.refl (K : Nat → Prop) (ar : Ar) (s : St) : Step K ar s s := ⟨fun _ _ => rfl, fun _ _ => .inr rfl, Int.le_refl _⟩
theorem Step.trans {K : Nat → Prop} {ar : Ar} {s s1 s2 : St} (h : Step K ar s s1) (h' : Step K ar s1 s2) : Step K ar s s2 :=
 ⟨fun k hk => (h'.keep k hk).trans (h.keep k hk), fun k hk => by
  rcases h'.zero k hk with h1 | h1
  ·exact .inl h1
  ·rcases h.zero k hk with h2 | h2
   ·left; unfold NoT0; rw [h1]; exact h2
   ·exact .inr (h1.trans h2), Int.le_trans h.ops h'.ops⟩
theorem Step.mono {K K' : Nat → Prop} {ar : Ar} {s s' : St} (h : Step K ar s s') (hk : ∀ k, K k → K' k) : Step K' ar s s' :=
 ⟨fun k hn => h.keep k (fun h_ => hn (hk k h_)), fun k hk' => by
  by_cases e : K k
  ·exact h.zero k e
  ·rw [h.keep k e]; exact .inr rfl, h.ops⟩
theorem Step.nf {K : Nat → Prop} {ar : Ar} {s s' : St} (h : Step K ar s s') : nf ar s'.ops ≤ nf ar s.ops := nf_le ar h.ops
def blankB : Bk := ⟨fun _ => none, 0, false⟩
theorem kind_cases {ar : Ar} (he : EvOk ar.evs) (s : St) : s.kind ar = 0 ∨ s.kind ar = 1 ∨ s.kind ar = 2 := by
 cases h : evFind ar.evs (s.ops + 1) with
 | none => exact .inl (kind_none h)
 | some x => rw [kind_some h]; exact .inr (evFind_kind he h)
theorem noT_left {ar : Ar} (h : openB (leftD ar.lf) (leftO ar.lf) = false) : NoTab (leftPg ar) := fun h_ => by
 have := h_.1
 simp only [leftPg] at this
 rw [h] at this; cases this
theorem erase_cases {ar : Ar} (he : EvOk ar.evs) (hL : NoTab (leftPg ar)) {s : St} {kb : Nat} (h : s.off = false) (hb : (s.bl kb).bad = false) :
  ((eraseS ar s kb).2 = 0 ∧ (eraseS ar s kb).1.off = false ∧ (eraseS ar s kb).1.bl = upd s.bl kb blankB ∧ (eraseS ar s kb).1.ops = s.ops + 1) ∨
  ((eraseS ar s kb).2 = 70 ∧ (eraseS ar s kb).1.off = false ∧ Step (· = kb) ar s (eraseS ar s kb).1 ∧ nf ar (eraseS ar s kb).1.ops + 1 ≤ nf ar s.ops) ∨
  ((eraseS ar s kb).2 = 72 ∧ (eraseS ar s kb).1.off = true ∧ Step (· = kb) ar s (eraseS ar s kb).1) := by
 have hstep : ∀ (s' : St), (∀ k, k ≠ kb → s'.bl k = s.bl k) → (s'.bl kb).pg 0 = some (leftPg ar) → s.ops ≤ s'.ops → Step (· = kb) ar s s' := fun s' h1 h2 h3 =>
  ⟨fun k hk => h1 k hk, fun k hk => .inl (by rw [hk]; unfold NoT0; rw [h2]; exact hL), h3⟩
 rcases kind_cases he s with hk | hk | hk
 ·left
  rw [eraseS_free h hk hb]
  refine ⟨rfl, rfl, ?_, rfl⟩
  funext i
  simp only [St.setNx, St.setPgs, St.go, upd, blankB]
  split
  ·simp [hb]
  ·rfl
 ·right; left
  have e : eraseS ar s kb = ((((s.go false).lf ar kb 6).setNx kb 6).setBad kb, 70) := by
   rw [eraseS, if_neg (by rw [h]; decide), if_neg (by rw [hk]; decide), if_neg (by rw [hb]; decide), if_pos hk]
  rw [e]
  refine ⟨rfl, rfl, hstep _ (fun k hk' => ?_) ?_ ?_, ?_⟩
  ·simp [St.setBad, St.setNx, St.lf, St.setPgs, St.go, upd, hk']
  ·simp [St.setBad, St.setNx, St.lf, St.setPgs, St.go, upd]
  ·simp only [St.setBad, St.setNx, St.lf, St.setPgs, St.go]; omega
  ·exact nf_hit hk
 ·right; right
  have e : eraseS ar s kb = ((((s.go false).lf ar kb 6).setNx kb 6).setOff, 72) := by
   rw [eraseS, if_neg (by rw [h]; decide), if_pos hk, if_neg (by rw [hb]; decide)]
  rw [e]
  refine ⟨rfl, rfl, hstep _ (fun k hk' => ?_) ?_ ?_⟩
  ·simp [St.setOff, St.setNx, St.lf, St.setPgs, St.go, upd, hk']
  ·simp [St.setOff, St.setNx, St.lf, St.setPgs, St.go, upd]
  ·simp only [St.setOff, St.setNx, St.lf, St.setPgs, St.go]; omega
theorem prog_cases {ar : Ar} (he : EvOk ar.evs) {s : St} {kb p : Nat} {x : List Int × List Int} (h : s.off = false) (hb : (s.bl kb).bad = false) (hp : (s.bl kb).nx = p) :
  ((progS ar s kb p x).2 = 0 ∧ (progS ar s kb p x).1.off = false ∧ (progS ar s kb p x).1.bl = upd s.bl kb ⟨upd (s.bl kb).pg p (some x), p + 1, false⟩ ∧ (progS ar s kb p x).1.ops = s.ops + 1) ∨
  ((progS ar s kb p x).2 = 70 ∧ (progS ar s kb p x).1.off = false ∧ (progS ar s kb p x).1.bl = upd s.bl kb ⟨upd (s.bl kb).pg p (some (leftPg ar)), p + 1, true⟩ ∧ s.ops ≤ (progS ar s kb p x).1.ops ∧ nf ar (progS ar s kb p x).1.ops + 1 ≤ nf ar s.ops) ∨
  ((progS ar s kb p x).2 = 72 ∧ (progS ar s kb p x).1.off = true ∧ (progS ar s kb p x).1.bl = upd s.bl kb ⟨upd (s.bl kb).pg p (some (leftPg ar)), p + 1, false⟩ ∧ s.ops ≤ (progS ar s kb p x).1.ops) := by
 have hu : ∀ (b1 b2 b3 : Bk), upd (upd s.bl kb b1) kb b2 = upd s.bl kb b2 := fun b1 b2 _ => by funext i; simp only [upd]; split <;> rfl
 rcases kind_cases he s with hk | hk | hk
 ·left
  rw [progS_free h hk hb hp.symm]
  refine ⟨rfl, rfl, ?_, rfl⟩
  funext i
  simp only [St.setNx, St.setPg, St.go, upd]
  split
  ·simp [hb]
  ·rfl
 ·right; left
  have e : progS ar s kb p x = ((((s.go false).setPg kb p (leftPg ar)).setNx kb (p + 1)).setBad kb, 70) := by
   rw [progS, if_neg (by rw [h]; decide), if_neg (by rw [hk]; decide), if_neg (by rw [hb]; decide), if_neg (by rw [hp]; exact fun h => h rfl), if_pos hk]
  rw [e]
  refine ⟨rfl, rfl, ?_, ?_, nf_hit hk⟩
  ·funext i
   simp only [St.setBad, St.setNx, St.setPg, St.go, upd]
   split
   ·simp
   ·rfl
  ·simp only [St.setBad, St.setNx, St.setPg, St.go]; omega
 ·right; right
  have e : progS ar s kb p x = (((s.go true).setPg kb p (leftPg ar)).setNx kb (p + 1), 72) := by
   rw [progS, if_neg (by rw [h]; decide), if_pos hk, if_pos ⟨hp.symm, hb⟩]
  rw [e]
  refine ⟨rfl, rfl, ?_, ?_⟩
  ·funext i
   simp only [St.setNx, St.setPg, St.go, upd]
   split
   ·simp [hb]
   ·rfl
  ·simp only [St.setNx, St.setPg, St.go]; omega
theorem read_cases {ar : Ar} {s : St} (h : s.off = false) :
  ((readS ar s).2 = 0 ∧ (readS ar s).1.off = false ∧ (readS ar s).1.bl = s.bl ∧ (readS ar s).1.ops = s.ops + 1) ∨ ((readS ar s).2 = 72 ∧ (readS ar s).1.off = true ∧ (readS ar s).1.bl = s.bl ∧ s.ops ≤ (readS ar s).1.ops) := by
 by_cases hk : s.kind ar = 2
 ·right; rw [readS_crash h hk]; exact ⟨rfl, rfl, rfl, by simp only; omega⟩
 ·left; rw [readS_on h hk]; exact ⟨rfl, rfl, rfl, rfl⟩
theorem step_upd {ar : Ar} {s s' : St} {kb : Nat} {b : Bk} (h : s'.bl = upd s.bl kb b) (hz : NoT0 b ∨ b.pg 0 = (s.bl kb).pg 0) (ho : s.ops ≤ s'.ops) : Step (· = kb) ar s s' := by
 refine ⟨fun k hk => by rw [h, upd_other _ _ _ _ hk], fun k hk => ?_, ho⟩
 subst hk
 rw [h, upd_same]; exact hz
theorem zero_upd {b : Bk} {p n : Nat} {bd : Bool} {x : List Int × List Int} (hx : p = 0 → NoTab x) : NoT0 ⟨upd b.pg p (some x), n, bd⟩ ∨ (⟨upd b.pg p (some x), n, bd⟩ : Bk).pg 0 = b.pg 0 := by
 by_cases h : p = 0
 ·subst h; left; unfold NoT0; simp only [upd_same]; exact hx rfl
 ·right; exact upd_other _ _ _ _ (Ne.symm h)
end Go.Proofs.Ytffalemndjampaa
end
section
set_option linter.unusedVariables false
set_option linter.unusedSimpArgs false
namespace Go.Proofs.Ytffalemndjampaa
open Go.RowKit Go.Proofs.YtffalemndjampaaW.PrintWords
theorem salGo_cases {ar : Ar} (he : EvOk ar.evs) (hL : NoTab (leftPg ar)) {fr kb : Nat} (hne : kb ≠ fr) : ∀ (n i : Nat) (s : St), s.off = false → (s.bl kb).bad = false → (s.bl kb).nx = i → (i = 0 → NoTab (pgD ((s.bl fr).pg 0))) →
  ((salGo ar fr kb n i s).2 = 0 ∧ (salGo ar fr kb n i s).1.off = false ∧ (salGo ar fr kb n i s).1.bl = upd s.bl kb ⟨fun j => if i ≤ j ∧ j < i + n then some (pgD ((s.bl fr).pg j)) else (s.bl kb).pg j, i + n, false⟩ ∧ s.ops ≤ (salGo ar fr kb n i s).1.ops) ∨
  ((salGo ar fr kb n i s).2 = 70 ∧ (salGo ar fr kb n i s).1.off = false ∧ Step (· = kb) ar s (salGo ar fr kb n i s).1 ∧ nf ar (salGo ar fr kb n i s).1.ops + 1 ≤ nf ar s.ops) ∨
  ((salGo ar fr kb n i s).2 = 72 ∧ (salGo ar fr kb n i s).1.off = true ∧ Step (· = kb) ar s (salGo ar fr kb n i s).1) := by
 intro n
 induction n with
 | zero =>
  intro i s h1 h2 h3 h4
  left
  refine ⟨rfl, h1, ?_, Int.le_refl _⟩
  rw [salGo]
  funext k
  simp only [upd]
  split
  ·rename_i e
   subst e
   have : (s.bl k) = ⟨(s.bl k).pg, (s.bl k).nx, (s.bl k).bad⟩ := rfl
   rw [this, h2, h3]
   congr 1
   funext j
   rw [if_neg (by omega)]
  ·rfl
 | succ n ih =>
  intro i s h1 h2 h3 h4
  rw [salGo]
  rcases read_cases (ar := ar) h1 with ⟨r1, r2, r3, r4⟩ | ⟨r1, r2, r3, r4⟩
  ·rw [if_pos r1]
   obtain ⟨s1, hs1⟩ : ∃ s1, (readS ar s).1 = s1 := ⟨_, rfl⟩
   rw [hs1] at r2 r3 r4 ⊢
   have hx : i = 0 → NoTab (pgD ((s.bl fr).pg i)) := fun e => by rw [e]; exact h4 e
   rcases prog_cases (p := i) (x := pgD ((s.bl fr).pg i)) he r2 (kb := kb) (by rw [r3]; exact h2) (by rw [r3]; exact h3) with ⟨p1, p2, p3, p4⟩ | ⟨p1, p2, p3, p4, p5⟩ | ⟨p1, p2, p3, p4⟩
   ·rw [if_pos p1]
    obtain ⟨s2, hs2⟩ : ∃ s2, (progS ar s1 kb i (pgD ((s.bl fr).pg i))).1 = s2 := ⟨_, rfl⟩
    rw [hs2] at p2 p3 p4 ⊢
    rw [r3] at p3
    have hfr : s2.bl fr = s.bl fr := by rw [p3, upd_other _ _ _ _ (Ne.symm hne)]
    have hkb : s2.bl kb = ⟨upd (s.bl kb).pg i (some (pgD ((s.bl fr).pg i))), i + 1, false⟩ := by rw [p3, upd_same]
    have hz : Step (· = kb) ar s s2 := step_upd p3 (zero_upd hx) (by omega)
    rcases ih (i + 1) s2 p2 (by rw [hkb]) (by rw [hkb]) (fun e => absurd e (by omega)) with ⟨q1, q2, q3, q4⟩ | ⟨q1, q2, q3, q4⟩ | ⟨q1, q2, q3⟩
    ·left
     refine ⟨q1, q2, ?_, by omega⟩
     rw [q3, hfr, hkb, p3]
     funext k
     simp only [upd]
     split
     ·congr 1
      ·funext j
       by_cases e1 : i + 1 ≤ j ∧ j < i + 1 + n
       ·rw [if_pos e1, if_pos (by omega)]
       ·rw [if_neg e1]
        by_cases e2 : j = i
        ·subst e2; rw [if_pos rfl, if_pos (by omega)]
        ·rw [if_neg e2, if_neg (by omega)]
      ·omega
     ·rfl
    ·exact .inr (.inl ⟨q1, q2, hz.trans q3, Nat.le_trans q4 hz.nf⟩)
    ·exact .inr (.inr ⟨q1, q2, hz.trans q3⟩)
   ·rw [if_neg (by rw [p1]; decide)]
    rw [r3] at p3
    exact .inr (.inl ⟨p1, p2, step_upd p3 (zero_upd (fun _ => hL)) (by omega), Nat.le_trans p5 (nf_le ar (by omega))⟩)
   ·rw [if_neg (by rw [p1]; decide)]
    rw [r3] at p3
    exact .inr (.inr ⟨p1, p2, step_upd p3 (zero_upd (fun _ => hL)) (by omega)⟩)
  ·rw [if_neg (by rw [r1]; decide)]
   exact .inr (.inr ⟨r1, r2, ⟨fun k _ => by rw [r3], fun k _ => .inr (by rw [r3]), r4⟩⟩)
theorem noT_blank : NoTab (pgD none) → NoT0 blankB := fun h => h
theorem sal_cases {ar : Ar} (he : EvOk ar.evs) (hL : NoTab (leftPg ar)) (hB : NoTab (pgD none)) {fr kb p : Nat} {x : List Int × List Int} {s : St} (hne : kb ≠ fr) (h1 : s.off = false) (h2 : (s.bl kb).bad = false) (h4 : NoTab (pgD ((s.bl fr).pg 0))) (hx : NoTab x) :
  ((salS ar s fr kb p x).2 = 0 ∧ (salS ar s fr kb p x).1.off = false ∧ (salS ar s fr kb p x).1.bl = upd s.bl kb ⟨fun j => if j < p then some (pgD ((s.bl fr).pg j)) else if j = p then some x else none, p + 1, false⟩ ∧ s.ops ≤ (salS ar s fr kb p x).1.ops) ∨
  ((salS ar s fr kb p x).2 = 70 ∧ (salS ar s fr kb p x).1.off = false ∧ Step (· = kb) ar s (salS ar s fr kb p x).1 ∧ nf ar (salS ar s fr kb p x).1.ops + 1 ≤ nf ar s.ops) ∨
  ((salS ar s fr kb p x).2 = 72 ∧ (salS ar s fr kb p x).1.off = true ∧ Step (· = kb) ar s (salS ar s fr kb p x).1) := by
 unfold salS
 rcases erase_cases he hL h1 h2 with ⟨e1, e2, e3, e4⟩ | ⟨e1, e2, e3, e4⟩ | ⟨e1, e2, e3⟩
 ·rw [if_pos e1]
  obtain ⟨s1, hs1⟩ : ∃ s1, (eraseS ar s kb).1 = s1 := ⟨_, rfl⟩
  rw [hs1] at e2 e3 e4 ⊢
  have hfr : s1.bl fr = s.bl fr := by rw [e3, upd_other _ _ _ _ (Ne.symm hne)]
  have hkb : s1.bl kb = blankB := by rw [e3, upd_same]
  have hz : Step (· = kb) ar s s1 := step_upd e3 (.inl (noT_blank hB)) (by omega)
  rcases salGo_cases he hL hne p 0 s1 e2 (by rw [hkb]; rfl) (by rw [hkb]; rfl) (fun _ => by rw [hfr]; exact h4) with ⟨g1, g2, g3, g4⟩ | ⟨g1, g2, g3, g4⟩ | ⟨g1, g2, g3⟩
  ·rw [if_pos g1]
   obtain ⟨s2, hs2⟩ : ∃ s2, (salGo ar fr kb p 0 s1).1 = s2 := ⟨_, rfl⟩
   rw [hs2] at g2 g3 g4 ⊢
   rw [hfr, hkb, e3] at g3
   have hg3 : s2.bl = upd s.bl kb ⟨fun j => if j < p then some (pgD ((s.bl fr).pg j)) else none, p, false⟩ := by
    rw [g3]
    funext k
    simp only [upd]
    split
    ·congr 1
     ·funext j
      by_cases e : j < p
      ·rw [if_pos (by omega), if_pos e]
      ·rw [if_neg (by omega), if_neg e]; rfl
     ·omega
    ·rfl
   have hkb2 : s2.bl kb = ⟨fun j => if j < p then some (pgD ((s.bl fr).pg j)) else none, p, false⟩ := by rw [hg3, upd_same]
   have hz2 : Step (· = kb) ar s s2 := by
    refine step_upd hg3 ?_ (by omega)
    left
    unfold NoT0
    by_cases e : 0 < p
    ·simp only [if_pos e]; exact h4
    ·simp only [if_neg e]; exact hB
   rcases prog_cases (p := p) (x := x) he g2 (kb := kb) (by rw [hkb2]) (by rw [hkb2]) with ⟨p1, p2, p3, p4⟩ | ⟨p1, p2, p3, p4, p5⟩ | ⟨p1, p2, p3, p4⟩
   ·left
    refine ⟨p1, p2, ?_, by omega⟩
    rw [p3, hkb2, hg3]
    funext k
    simp only [upd]
    split
    ·congr 1
     funext j
     by_cases e : j = p
     ·subst e; rw [upd_same, if_neg (by omega), if_pos rfl]
     ·rw [upd_other _ _ _ _ e]
      by_cases e2 : j < p
      ·simp only [if_pos e2]
      ·simp only [if_neg e2, if_neg e]
    ·rfl
   ·exact .inr (.inl ⟨p1, p2, hz2.trans (step_upd p3 (zero_upd (fun _ => hL)) (by omega)), Nat.le_trans p5 hz2.nf⟩)
   ·exact .inr (.inr ⟨p1, p2, hz2.trans (step_upd p3 (zero_upd (fun _ => hL)) (by omega))⟩)
  ·rw [if_neg (by rw [g1]; decide)]
   exact .inr (.inl ⟨g1, g2, hz.trans g3, Nat.le_trans g4 hz.nf⟩)
  ·rw [if_neg (by rw [g1]; decide)]
   exact .inr (.inr ⟨g1, g2, hz.trans g3⟩)
 ·rw [if_neg (by rw [e1]; decide)]
  exact .inr (.inl ⟨e1, e2, e3, e4⟩)
 ·rw [if_neg (by rw [e1]; decide)]
  exact .inr (.inr ⟨e1, e2, e3⟩)
def tabB (T : Tb) : Bk := ⟨upd (fun _ => none) 0 (some (tbD T, tbO T)), 1, false⟩
theorem lay_cases {ar : Ar} (he : EvOk ar.evs) (hL : NoTab (leftPg ar)) (hB : NoTab (pgD none)) {kb : Nat} {T : Tb} {s : St} (h1 : s.off = false) (h2 : (s.bl kb).bad = false) :
  ((layS ar s kb T).2 = 0 ∧ (layS ar s kb T).1.off = false ∧ (layS ar s kb T).1.bl = upd s.bl kb (tabB T) ∧ s.ops ≤ (layS ar s kb T).1.ops) ∨
  ((layS ar s kb T).2 = 70 ∧ (layS ar s kb T).1.off = false ∧ Step (· = kb) ar s (layS ar s kb T).1 ∧ nf ar (layS ar s kb T).1.ops + 1 ≤ nf ar s.ops) ∨
  ((layS ar s kb T).2 = 72 ∧ (layS ar s kb T).1.off = true ∧ Step (· = kb) ar s (layS ar s kb T).1) := by
 unfold layS
 rcases erase_cases he hL h1 h2 with ⟨e1, e2, e3, e4⟩ | ⟨e1, e2, e3, e4⟩ | ⟨e1, e2, e3⟩
 ·rw [if_pos e1]
  obtain ⟨s1, hs1⟩ : ∃ s1, (eraseS ar s kb).1 = s1 := ⟨_, rfl⟩
  rw [hs1] at e2 e3 e4 ⊢
  have hkb : s1.bl kb = blankB := by rw [e3, upd_same]
  have hz : Step (· = kb) ar s s1 := step_upd e3 (.inl (noT_blank hB)) (by omega)
  have hu : ∀ b, upd s1.bl kb b = upd s.bl kb b := fun b => by rw [e3]; funext k; simp only [upd]; split <;> rfl
  rcases prog_cases (p := 0) (x := (tbD T, tbO T)) he e2 (kb := kb) (by rw [hkb]; rfl) (by rw [hkb]; rfl) with ⟨p1, p2, p3, p4⟩ | ⟨p1, p2, p3, p4, p5⟩ | ⟨p1, p2, p3, p4⟩
  ·left
   refine ⟨p1, p2, ?_, by omega⟩
   rw [p3, hu, hkb]; rfl
  ·exact .inr (.inl ⟨p1, p2, hz.trans (step_upd p3 (zero_upd (fun _ => hL)) (by omega)), Nat.le_trans p5 hz.nf⟩)
  ·exact .inr (.inr ⟨p1, p2, hz.trans (step_upd p3 (zero_upd (fun _ => hL)) (by omega))⟩)
 ·rw [if_neg (by rw [e1]; decide)]
  exact .inr (.inl ⟨e1, e2, e3, e4⟩)
 ·rw [if_neg (by rw [e1]; decide)]
  exact .inr (.inr ⟨e1, e2, e3⟩)
end Go.Proofs.Ytffalemndjampaa
end
section
set_option linter.unusedVariables false
set_option linter.unusedSimpArgs false
namespace Go.Proofs.Ytffalemndjampaa
open Go.RowKit Go.Proofs.YtffalemndjampaaW.PrintWords
def Tb.oth (T : Tb) : Nat := (if T.seq % 2 = 0 then T.t1 else T.t0).toNat
structure Apt (T : Tb) : Prop where
 pp : T.place.Nodup
 ps : ∀ a ∈ T.place, ∀ b ∈ T.spare, a ≠ b
 pt : ∀ a ∈ T.place, a ≠ T.t0 ∧ a ≠ T.t1
 st : ∀ a ∈ T.spare, a ≠ T.t0 ∧ a ≠ T.t1
 tt : T.t0 ≠ T.t1
 ss : T.spare.Nodup
theorem TbOk.apt {T : Tb} (h : TbOk T) : Apt T := by
 have hn := h.nodup
 simp only [Tb.all] at hn
 rw [List.nodup_append] at hn
 obtain ⟨h1, h2, h3⟩ := hn
 rw [List.nodup_append] at h2
 obtain ⟨h4, h5, h6⟩ := h2
 refine ⟨h1, fun a ha b hb => h3 a ha b (List.mem_append_left _ hb), fun a ha => ⟨h3 a ha _ (by simp), h3 a ha _ (by simp)⟩, fun a ha => ⟨h6 a ha _ (by simp), h6 a ha _ (by simp)⟩, ?_, h4⟩
 intro e
 rw [e] at h5
 simp at h5
theorem TbOk.pos {T : Tb} (h : TbOk T) {x : Int} (hx : x ∈ T.all) : 0 ≤ x ∧ x < 16 := h.rng x hx
theorem mem_all_place {T : Tb} {x : Int} (h : x ∈ T.place) : x ∈ T.all := List.mem_append_left _ h
theorem mem_all_spare {T : Tb} {x : Int} (h : x ∈ T.spare) : x ∈ T.all := List.mem_append_right _ (List.mem_append_left _ h)
theorem mem_all_t0 (T : Tb) : T.t0 ∈ T.all := List.mem_append_right _ (List.mem_append_right _ (by simp))
theorem mem_all_t1 (T : Tb) : T.t1 ∈ T.all := List.mem_append_right _ (List.mem_append_right _ (by simp))
def KT (T : Tb) (k : Nat) : Prop := k = T.tab ∨ (k : Int) ∈ T.spare
theorem TbOk.sp_tab {T : Tb} (h : TbOk T) {x : Int} (hx : x ∈ T.spare) : x.toNat ≠ T.tab ∧ x.toNat ≠ T.oth := by
 have h0 := h.pos (mem_all_spare hx)
 have h1 := h.pos (mem_all_t0 T)
 have h2 := h.pos (mem_all_t1 T)
 have h3 := h.apt.st x hx
 unfold Tb.tab Tb.oth
 split <;> omega
theorem TbOk.tab_oth {T : Tb} (h : TbOk T) : T.tab ≠ T.oth ∧ T.tab < 16 ∧ T.oth < 16 := by
 have h1 := h.pos (mem_all_t0 T)
 have h2 := h.pos (mem_all_t1 T)
 have h3 := h.apt.tt
 unfold Tb.tab Tb.oth
 split <;> omega
theorem TbOk.pl_tab {T : Tb} (h : TbOk T) {x : Int} (hx : x ∈ T.place) : x.toNat ≠ T.tab ∧ x.toNat ≠ T.oth := by
 have h0 := h.pos (mem_all_place hx)
 have h1 := h.pos (mem_all_t0 T)
 have h2 := h.pos (mem_all_t1 T)
 have h3 := h.apt.pt x hx
 unfold Tb.tab Tb.oth
 split <;> omega
structure SavedQ (ar : Ar) (s s' : St) (T T' : Tb) : Prop where
 seq : T'.seq = T.seq
 place : T'.place = T.place
 oth : T'.oth = T.oth
 ok : TbOk T'
 len : T'.spare.length ≤ T.spare.length
 sub : ∀ x ∈ T'.spare, x ∈ T.spare
 kt : KT T T'.tab
 tab : s'.bl T'.tab = tabB T'
 keep : ∀ k, ¬ KT T k → s'.bl k = s.bl k
 zero : ∀ k, KT T k → k ≠ T'.tab → NoT0 (s'.bl k) ∨ (s'.bl k).pg 0 = (s.bl k).pg 0
 sp : ∀ x ∈ T'.spare, s'.bl x.toNat = s.bl x.toNat
 nf : nf ar s'.ops ≤ T'.spare.length
 ops : s.ops ≤ s'.ops
theorem takeT_tab {T : Tb} {x : Int} {r : List Int} (h : T.spare = x :: r) : T.takeT.tab = x.toNat ∧ T.takeT.oth = T.oth ∧ T.takeT.spare = r := by
 unfold Tb.takeT
 split
 ·rename_i e
  refine ⟨?_, ?_, ?_⟩ <;> simp [Tb.take0, Tb.rest, Tb.tab, Tb.oth, h, e]
 ·rename_i e
  refine ⟨?_, ?_, ?_⟩ <;> simp [Tb.take1, Tb.rest, Tb.tab, Tb.oth, h, e]
theorem saveGo_cases {ar : Ar} (he : EvOk ar.evs) (hL : NoTab (leftPg ar)) (hB : NoTab (pgD none)) : ∀ (n : Nat) (s : St) (T : Tb), T.spare.length = n → TbOk T → nf ar s.ops ≤ n → s.off = false → (s.bl T.tab).bad = false → (∀ x ∈ T.spare, (s.bl x.toNat).bad = false) →
  ((saveGo ar n s T).2.2 = 0 ∧ (saveGo ar n s T).1.off = false ∧ SavedQ ar s (saveGo ar n s T).1 T (saveGo ar n s T).2.1) ∨ ((saveGo ar n s T).2.2 = 72 ∧ (saveGo ar n s T).1.off = true ∧ Step (KT T) ar s (saveGo ar n s T).1) := by
 have done : ∀ (s s' : St) (T : Tb), TbOk T → nf ar s.ops ≤ T.spare.length → s'.bl = upd s.bl T.tab (tabB T) → s.ops ≤ s'.ops → SavedQ ar s s' T T := fun s s' T hT hn hb ho =>
  ⟨rfl, rfl, rfl, hT, Nat.le_refl _, fun _ h => h, .inl rfl, by rw [hb, upd_same], fun k hk => by rw [hb, upd_other _ _ _ _ (fun e => hk (.inl e))], fun k _ hk => .inr (by rw [hb, upd_other _ _ _ _ hk]), fun x hx => by rw [hb, upd_other _ _ _ _ (hT.sp_tab hx).1], Nat.le_trans (nf_le ar ho) hn, ho⟩
 intro n
 induction n with
 | zero =>
  intro s T hl hT hn h1 h2 h3
  rw [saveGo]
  rcases lay_cases he hL hB (T := T) h1 h2 with ⟨e1, e2, e3, e4⟩ | ⟨e1, e2, e3, e4⟩ | ⟨e1, e2, e3⟩
  ·exact .inl ⟨e1, e2, done _ _ _ hT (by omega) e3 e4⟩
  ·omega
  ·exact .inr ⟨e1, e2, e3.mono (fun k hk => .inl hk)⟩
 | succ n ih =>
  intro s T hl hT hn h1 h2 h3
  rw [saveGo]
  rcases lay_cases he hL hB (T := T) h1 h2 with ⟨e1, e2, e3, e4⟩ | ⟨e1, e2, e3, e4⟩ | ⟨e1, e2, e3⟩
  ·rw [if_neg (by rw [e1]; decide)]
   exact .inl ⟨e1, e2, done _ _ _ hT (by omega) e3 e4⟩
  ·rw [if_pos e1]
   obtain ⟨s1, hs1⟩ : ∃ s1, (layS ar s T.tab T).1 = s1 := ⟨_, rfl⟩
   rw [hs1] at e2 e3 e4 ⊢
   cases hsp : T.spare with
   | nil => rw [hsp] at hl; cases hl
   | cons x r =>
    obtain ⟨t1, t2, t3⟩ := takeT_tab hsp
    have hxm : x ∈ T.spare := by rw [hsp]; simp
    have hx0 := hT.pos (mem_all_spare hxm)
    have hxt := hT.sp_tab hxm
    have hrs : ∀ y ∈ r, y ∈ T.spare := fun y hy => by rw [hsp]; exact List.mem_cons_of_mem _ hy
    have hKK : ∀ k, KT T.takeT k → KT T k := fun k hk => by
     rcases hk with hk | hk
     ·right; rw [hk, t1, Int.toNat_of_nonneg hx0.1]; exact hxm
     ·right; rw [t3] at hk; exact hrs _ hk
    have hnt : ∀ k, KT T.takeT k → k ≠ T.tab := fun k hk e => by
     rcases hk with hk | hk
     ·rw [t1] at hk; exact hxt.1 (hk.symm.trans e)
     ·rw [t3] at hk
      have h_ := (hT.sp_tab (hrs _ hk)).1
      rw [Int.toNat_natCast] at h_
      exact h_ e
    rcases ih s1 T.takeT (by rw [t3]; rw [hsp] at hl; simpa using hl) (hT.takeT (by rw [hsp]; simp)) (by omega) e2 (by rw [t1, e3.keep _ hxt.1]; exact h3 x hxm) (fun y hy => by rw [t3] at hy; rw [e3.keep _ (hT.sp_tab (hrs y hy)).1]; exact h3 y (hrs y hy)) with ⟨q1, q2, q3⟩ | ⟨q1, q2, q3⟩
    ·left
     refine ⟨q1, q2, ?_⟩
     have hkt := hKK _ q3.kt
     refine ⟨by rw [q3.seq, T.takeT_seq], by rw [q3.place, T.takeT_place], by rw [q3.oth, t2], q3.ok, by rw [hsp]; have h_ := q3.len; rw [t3] at h_; simp; omega, fun y hy => by have h_ := q3.sub y hy; rw [t3] at h_; exact hrs y h_, hkt, q3.tab, fun k hk => ?_, fun k hk hk2 => ?_, fun y hy => ?_, q3.nf, Int.le_trans e3.ops q3.ops⟩
     ·rw [q3.keep k (fun h_ => hk (hKK k h_)), e3.keep k (fun e => hk (.inl e))]
     ·by_cases hk3 : KT T.takeT k
      ·rcases q3.zero k hk3 hk2 with z | z
       ·exact .inl z
       ·right; rw [z, e3.keep k (hnt k hk3)]
      ·rw [q3.keep k hk3]
       by_cases hk4 : k = T.tab
       ·exact e3.zero k hk4
       ·rw [e3.keep k hk4]; exact .inr rfl
     ·have h_ := q3.sub y hy
      rw [t3] at h_
      rw [q3.sp y hy, e3.keep _ (hT.sp_tab (hrs y h_)).1]
    ·exact .inr ⟨q1, q2, (e3.mono (fun k hk => .inl hk)).trans (q3.mono hKK)⟩
  ·rw [if_neg (by rw [e1]; decide)]
   exact .inr ⟨e1, e2, e3.mono (fun k hk => .inl hk)⟩
end Go.Proofs.Ytffalemndjampaa
end
section
set_option linter.unusedVariables false
set_option linter.unusedSimpArgs false
namespace Go.Proofs.Ytffalemndjampaa
open Go.RowKit Go.Proofs.YtffalemndjampaaW.PrintWords
theorem blank_open : openB (pgD none).1 (pgD none).2 = false := by
 have h : at_ (pgD none).2 2 1 = 255 := by decide
 rw [openB, h]; simp
theorem noT_none : NoTab (pgD none) := fun h => by have := h.1; rw [blank_open] at this; cases this
def PgH (x : Option (List Int × List Int)) (h : Hd) : Prop := ∃ y, x = some y ∧ openB y.1 y.2 = true ∧ openR y.1 y.2 = h ∧ h.k = 4
theorem PgH.no {x : Option (List Int × List Int)} {h : Hd} (hp : PgH x h) : NoTab (pgD x) := by
 obtain ⟨y, rfl, h1, h2, h3⟩ := hp
 intro h4
 rw [openR_yes h1] at h2
 have := h4.2
 simp only [pgD, Option.getD_some] at this
 rw [h2, h3] at this
 exact absurd this (by decide)
def Hl (bl : Nat → Bk) (k : Nat) (l : List Hd) : Prop := l.length ≤ 6 ∧ (bl k).nx = l.length ∧ (∀ p h, l[p]? = some h → PgH ((bl k).pg p) h) ∧ ∀ p, l.length ≤ p → p < 6 → (bl k).pg p = none
theorem Hl.keep {bl bl' : Nat → Bk} {k : Nat} {l : List Hd} (h : Hl bl k l) (e : bl' k = bl k) : Hl bl' k l := by unfold Hl; rw [e]; exact h
theorem Hl.zero {bl : Nat → Bk} {k : Nat} {l : List Hd} (h : Hl bl k l) : NoTab (pgD ((bl k).pg 0)) := by
 cases l with
 | nil => rw [h.2.2.2 0 (Nat.zero_le _) (by decide)]; exact noT_none
 | cons x r => exact (h.2.2.1 0 x rfl).no
structure PreV (ar : Ar) (s : St) (T0 T : Tb) (held : Nat → List Hd) (v : Nat) : Prop where
 off : s.off = false
 ok : TbOk T
 ok0 : TbOk T0
 len : T.place.length = 11
 len0 : T0.place.length = 11
 sp : T.spare.length ≤ 3
 sp0 : T0.spare.length ≤ 3
 seq : T.seq = T0.seq
 t0 : T.t0 = T0.t0
 t1 : T.t1 = T0.t1
 sub : ∀ x ∈ T.spare, x ∈ T0.spare
 sv : (s.bl T0.tab).pg 0 = some (tbD T0, tbO T0)
 cov : ∀ k, k < 16 → k ≠ T0.tab → NoT0 (s.bl k) ∨ ∃ T', IsTab (pgD ((s.bl k).pg 0)) T' ∧ T'.seq < T0.seq
 good : ∀ x ∈ T.all, x.toNat ≠ T.at v → (s.bl x.toNat).bad = false
 hl : ∀ b, b < 6 → b ≠ v → Hl s.bl (T.at b) (held b)
structure Pre (ar : Ar) (s : St) (T0 T : Tb) (held : Nat → List Hd) : Prop extends PreV ar s T0 T held 20 where
 nf : nf ar s.ops ≤ T.spare.length
 all : ∀ x ∈ T.all, (s.bl x.toNat).bad = false
def Inv (ar : Ar) (s : St) (T : Tb) (held : Nat → List Hd) : Prop := Pre ar s T T held
theorem PreV.tab {ar : Ar} {s : St} {T0 T : Tb} {held : Nat → List Hd} {v : Nat} (h : PreV ar s T0 T held v) : T.tab = T0.tab ∧ T.oth = T0.oth := by
 unfold Tb.tab Tb.oth
 rw [h.seq, h.t0, h.t1]; exact ⟨rfl, rfl⟩
theorem up_tab (T : Tb) : T.up.tab = T.oth ∧ T.up.oth = T.tab := by
 unfold Tb.tab Tb.oth Tb.up
 simp only
 by_cases e : T.seq % 2 = 0
 ·have : ¬ (T.seq + 1) % 2 = 0 := by omega
  rw [if_neg this, if_neg this, if_pos e, if_pos e]; exact ⟨rfl, rfl⟩
 ·have : (T.seq + 1) % 2 = 0 := by omega
  rw [if_pos this, if_pos this, if_neg e, if_neg e]; exact ⟨rfl, rfl⟩
theorem at_mem {T : Tb} (hl : T.place.length = 11) {b : Nat} (hb : b < 11) : T.place.getD b 0 ∈ T.place := by
 rw [List.getD_eq_getElem?_getD, List.getElem?_eq_getElem (by omega)]; exact List.getElem_mem _
theorem at_ne {T : Tb} (h : TbOk T) (hl : T.place.length = 11) {b c : Nat} (hb : b < 11) (hc : c < 11) (hne : b ≠ c) : T.at b ≠ T.at c := by
 have h1 := h.pos (mem_all_place (at_mem hl hb))
 have h2 := h.pos (mem_all_place (at_mem hl hc))
 intro e
 have e2 : T.place.getD b 0 = T.place.getD c 0 := by unfold Tb.at at e; omega
 rw [List.getD_eq_getElem?_getD, List.getElem?_eq_getElem (by omega), List.getD_eq_getElem?_getD, List.getElem?_eq_getElem (by omega)] at e2
 simp only [Option.getD_some] at e2
 rcases Nat.lt_or_gt_of_ne hne with hlt | hlt
 ·exact List.pairwise_iff_getElem.1 h.apt.pp b c (by omega) (by omega) hlt e2
 ·exact List.pairwise_iff_getElem.1 h.apt.pp c b (by omega) (by omega) hlt e2.symm
theorem kt_out {T : Tb} (h : TbOk T) (hl : T.place.length = 11) {k : Nat} (hk : k = T.oth ∨ (k : Int) ∈ T.spare) : k ≠ T.tab ∧ k < 16 ∧ ∀ b, b < 11 → k ≠ T.at b := by
 have h0 := h.tab_oth
 rcases hk with rfl | hk
 ·exact ⟨Ne.symm h0.1, h0.2.2, fun b hb => Ne.symm (h.pl_tab (at_mem hl hb)).2⟩
 ·have h1 := h.sp_tab hk
  rw [Int.toNat_natCast] at h1
  have h2 := h.pos (mem_all_spare hk)
  refine ⟨h1.1, by omega, fun b hb e => ?_⟩
  have h3 := h.apt.ps _ (at_mem hl hb) _ hk
  have h4 := h.pos (mem_all_place (at_mem hl hb))
  rw [e] at h3
  unfold Tb.at at h3
  omega
theorem inv_save {ar : Ar} (he : EvOk ar.evs) (hL : NoTab (leftPg ar)) {s : St} {T0 T : Tb} {held : Nat → List Hd} (h : Pre ar s T0 T held) (hq : T.seq + 1 < 4294967296) :
  ((saveS ar s T).2.2 = 0 ∧ (saveS ar s T).2.1.seq = T0.seq + 1 ∧ Inv ar (saveS ar s T).1 (saveS ar s T).2.1 held) ∨ ((saveS ar s T).2.2 = 72 ∧ (saveS ar s T).1.off = true ∧ Step (fun k => k = T.oth ∨ (k : Int) ∈ T.spare) ar s (saveS ar s T).1) := by
 have hup := up_tab T
 have hK : ∀ k, KT T.up k → k = T.oth ∨ (k : Int) ∈ T.spare := fun k hk => by
  rcases hk with hk | hk
  ·exact .inl (hk.trans hup.1)
  ·exact .inr hk
 have hto := h.ok.tab_oth
 have hTt := h.tab
 have hno : T.oth ∈ [T.t0.toNat, T.t1.toNat] := by unfold Tb.oth; split <;> simp
 have hgo : (s.bl T.up.tab).bad = false := by
  rw [hup.1]
  unfold Tb.oth
  split
  ·exact h.all _ (mem_all_t1 T)
  ·exact h.all _ (mem_all_t0 T)
 unfold saveS
 rcases saveGo_cases he hL noT_none T.spare.length s T.up rfl (h.ok.up hq) h.nf h.off hgo (fun x hx => h.all x (mem_all_spare hx)) with ⟨q1, q2, q⟩ | ⟨q1, q2, q⟩
 ·left
  obtain ⟨r, hr⟩ : ∃ r, saveGo ar T.spare.length s T.up = r := ⟨_, rfl⟩
  rw [hr] at q1 q2 q ⊢
  have hat : ∀ b, r.2.1.at b = T.at b := fun b => by unfold Tb.at; rw [q.place]; rfl
  have hsq : r.2.1.seq = T0.seq + 1 := by rw [q.seq, ← h.seq]; rfl
  have hkk := fun k hk => kt_out h.ok h.len (hK k hk)
  have hgood : ∀ x ∈ r.2.1.all, (r.1.bl x.toNat).bad = false := fun x hx => by
   simp only [Tb.all, List.mem_append, List.mem_cons, List.not_mem_nil, or_false] at hx
   have htt : x.toNat = r.2.1.tab ∨ x.toNat = r.2.1.oth → (r.1.bl x.toNat).bad = false := fun e => by
    rcases e with e | e
    ·rw [e, q.tab]; rfl
    ·have e2 : x.toNat = T.tab := by rw [e, q.oth]; exact hup.2
     rw [e2, q.keep _ (fun hk => (hkk _ hk).1 rfl)]
     unfold Tb.tab
     split
     ·exact h.all _ (mem_all_t0 T)
     ·exact h.all _ (mem_all_t1 T)
   rcases hx with hx | hx | hx | hx
   ·have hx' : x ∈ T.place := by rw [q.place] at hx; exact hx
    rw [q.keep]
    ·exact h.all x (mem_all_place hx')
    ·intro hk
     have hx0 := h.ok.pos (mem_all_place hx')
     rcases hK _ hk with e | e
     ·exact (h.ok.pl_tab hx').2 e
     ·rw [Int.toNat_of_nonneg hx0.1] at e
      exact h.ok.apt.ps x hx' x e rfl
   ·rw [q.sp x hx]
    exact h.all x (mem_all_spare (q.sub x hx))
   ·apply htt; rw [hx]; unfold Tb.tab Tb.oth; split <;> simp
   ·apply htt; rw [hx]; unfold Tb.tab Tb.oth; split <;> simp
  have hsv : (r.1.bl r.2.1.tab).pg 0 = some (tbD r.2.1, tbO r.2.1) := by rw [q.tab]; rfl
  refine ⟨q1, hsq, ⟨⟨q2, q.ok, q.ok, by rw [q.place]; exact h.len, by rw [q.place]; exact h.len, Nat.le_trans q.len h.sp, Nat.le_trans q.len h.sp, rfl, rfl, rfl, fun _ h => h, hsv, fun k hk hk2 => ?_, fun x hx _ => hgood x hx, fun b hb _ => ?_⟩, q.nf, hgood⟩⟩
  ·have old : (r.1.bl k).pg 0 = (s.bl k).pg 0 → NoT0 (r.1.bl k) ∨ ∃ T', IsTab (pgD ((r.1.bl k).pg 0)) T' ∧ T'.seq < r.2.1.seq := fun e => by
    unfold NoT0
    rw [e]
    by_cases e2 : k = T0.tab
    ·right
     rw [e2, h.sv]
     exact ⟨T0, ⟨rfl, h.ok0, h.len0, h.sp0⟩, by omega⟩
    ·rcases h.cov k hk e2 with z | ⟨T', z1, z2⟩
     ·exact .inl z
     ·exact .inr ⟨T', z1, by omega⟩
   by_cases hk3 : KT T.up k
   ·rcases q.zero k hk3 hk2 with z | z
    ·exact .inl z
    ·exact old z
   ·exact old (by rw [q.keep k hk3])
  ·rw [hat b]
   exact (h.hl b hb (by omega)).keep (q.keep _ (fun hk => (hkk _ hk).2.2 b (by omega) rfl))
 ·exact .inr ⟨q1, q2, q.mono hK⟩
end Go.Proofs.Ytffalemndjampaa
end
section
set_option linter.unusedVariables false
set_option linter.unusedSimpArgs false
namespace Go.Proofs.Ytffalemndjampaa
open Go.RowKit Go.Proofs.YtffalemndjampaaW.PrintWords
def KO (T : Tb) (k : Nat) : Prop := k = T.oth ∨ (k : Int) ∈ T.spare
theorem at_toNat {T : Tb} (h : TbOk T) (hl : T.place.length = 11) {y : Int} (hy : y ∈ T.all) {b : Nat} (hb : b < 11) (e : y.toNat = T.at b) : y = T.place.getD b 0 := by
 have h1 := h.pos hy
 have h2 := h.pos (mem_all_place (at_mem hl hb))
 unfold Tb.at at e; omega
theorem mem_all {T : Tb} {y : Int} : y ∈ T.all ↔ y ∈ T.place ∨ y ∈ T.spare ∨ y = T.t0 ∨ y = T.t1 := by
 simp [Tb.all]
theorem sp_at {T : Tb} (h : TbOk T) (hl : T.place.length = 11) {x : Int} (hx : x ∈ T.spare) {b : Nat} (hb : b < 11) : x.toNat ≠ T.at b := fun e =>
 h.apt.ps _ (at_mem hl hb) x hx (at_toNat h hl (mem_all_spare hx) hb e).symm
theorem takeV_facts {T : Tb} {x : Int} {r : List Int} {v : Nat} (h : TbOk T) (hl : T.place.length = 11) (hv : v < 11) (hsp : T.spare = x :: r) :
  TbOk (T.takeV v) ∧ (T.takeV v).place.length = 11 ∧ (T.takeV v).spare = r ∧ (T.takeV v).at v = x.toNat ∧ (∀ b, b < 11 → b ≠ v → (T.takeV v).at b = T.at b) ∧
  (∀ y ∈ (T.takeV v).all, y.toNat ≠ x.toNat → y ∈ T.all ∧ y.toNat ≠ T.at v) := by
 have hx : x ∈ T.spare := by rw [hsp]; simp
 have hp : (T.takeV v).place = T.place.set v x := by unfold Tb.takeV; rw [hsp]; rfl
 have hs : (T.takeV v).spare = r := by unfold Tb.takeV Tb.rest; rw [hsp]; rfl
 refine ⟨h.takeV (by rw [hsp]; simp) v (by omega), by rw [hp, List.length_set]; exact hl, hs, ?_, fun b hb hne => ?_, fun y hy hne => ?_⟩
 ·unfold Tb.at; rw [hp, List.getD_eq_getElem?_getD, List.getElem?_set_self (by omega)]; rfl
 ·unfold Tb.at; rw [hp, List.getD_eq_getElem?_getD, List.getElem?_set_ne (Ne.symm hne), ← List.getD_eq_getElem?_getD]
 ·have ht0 : (T.takeV v).t0 = T.t0 := rfl
  have ht1 : (T.takeV v).t1 = T.t1 := rfl
  rw [mem_all, hp, hs, ht0, ht1] at hy
  have hat : ∀ z ∈ T.all, z ≠ T.place.getD v 0 → z.toNat ≠ T.at v := fun z hz hzn e => hzn (at_toNat h hl hz hv e)
  have hpt := h.apt.pt _ (at_mem hl hv)
  rcases hy with hy | hy | rfl | rfl
  ·rcases List.mem_or_eq_of_mem_set hy with hy2 | hy2
   ·refine ⟨mem_all_place hy2, hat y (mem_all_place hy2) ?_⟩
    intro e
    obtain ⟨i, hi, e2⟩ := List.mem_iff_getElem.1 hy
    rw [List.getElem_set] at e2
    split at e2
    ·rw [← e2] at hne; exact hne rfl
    ·rename_i hiv
     rw [List.length_set] at hi
     have e3 : T.place[i] = T.place[v]'(by omega) := by
      rw [e2, e, List.getD_eq_getElem?_getD, List.getElem?_eq_getElem (by omega)]; rfl
     rcases Nat.lt_or_gt_of_ne hiv with hlt | hlt
     ·exact List.pairwise_iff_getElem.1 h.apt.pp v i (by omega) (by omega) hlt e3.symm
     ·exact List.pairwise_iff_getElem.1 h.apt.pp i v (by omega) (by omega) hlt e3
   ·rw [hy2] at hne; exact absurd rfl hne
  ·have hy2 : y ∈ T.spare := by rw [hsp]; exact List.mem_cons_of_mem _ hy
   exact ⟨mem_all_spare hy2, sp_at h hl hy2 hv⟩
  ·exact ⟨mem_all_t0 T, hat _ (mem_all_t0 T) (fun e => hpt.1 e.symm)⟩
  ·exact ⟨mem_all_t1 T, hat _ (mem_all_t1 T) (fun e => hpt.2 e.symm)⟩
theorem cov_step {ar : Ar} {s s2 : St} {T0 : Tb} {K : Nat → Prop} (st : Step K ar s s2) (cov : ∀ k, k < 16 → k ≠ T0.tab → NoT0 (s.bl k) ∨ ∃ T', IsTab (pgD ((s.bl k).pg 0)) T' ∧ T'.seq < T0.seq) : ∀ k, k < 16 → k ≠ T0.tab → NoT0 (s2.bl k) ∨ ∃ T', IsTab (pgD ((s2.bl k).pg 0)) T' ∧ T'.seq < T0.seq := fun k hk hne => by
 by_cases e : K k
 ·rcases st.zero k e with z | z
  ·exact .inl z
  ·unfold NoT0; rw [z]; exact cov k hk hne
 ·rw [st.keep k e]; exact cov k hk hne
theorem PreV.next {ar : Ar} {s s2 : St} {T0 T T1 : Tb} {held : Nat → List Hd} {v : Nat} {x : Int} {r : List Int} (h : PreV ar s T0 T held v) (hsp : T.spare = x :: r) (ok1 : TbOk T1) (len1 : T1.place.length = 11) (sp1 : T1.spare = r) (sq : T1.seq = T.seq) (t0 : T1.t0 = T.t0) (t1 : T1.t1 = T.t1) (hat : ∀ b, b < 11 → b ≠ v → T1.at b = T.at b)
  (mem : ∀ y ∈ T1.all, y.toNat ≠ T1.at v → y ∈ T.all ∧ y.toNat ≠ T.at v ∧ y.toNat ≠ x.toNat) (off : s2.off = false) (st : Step (· = x.toNat) ar s s2) : PreV ar s2 T0 T1 held v := by
 have hx : x ∈ T.spare := by rw [hsp]; simp
 have hxt := h.ok.sp_tab hx
 rw [h.tab.1] at hxt
 have hlen := h.sp
 have hlen2 := congrArg List.length hsp
 simp only [List.length_cons] at hlen2
 exact ⟨off, ok1, h.ok0, len1, h.len0, by rw [sp1]; omega, h.sp0, sq.trans h.seq, t0.trans h.t0, t1.trans h.t1, fun y hy => h.sub y (by rw [sp1] at hy; rw [hsp]; exact List.mem_cons_of_mem _ hy), by rw [st.keep _ (Ne.symm hxt.1)]; exact h.sv, cov_step st h.cov, fun y hy hne => by
  obtain ⟨m1, m2, m3⟩ := mem y hy hne
  rw [st.keep _ m3]; exact h.good y m1 m2, fun b hb hne => by
  rw [hat b (by omega) hne]
  exact (h.hl b hb hne).keep (st.keep _ (fun e => sp_at h.ok h.len hx (by omega) e.symm))⟩
theorem PreV.done {ar : Ar} {s s2 : St} {T0 T : Tb} {held : Nat → List Hd} {v : Nat} {x : Int} {r : List Int} {b0 : Bk} {l : List Hd} (h : PreV ar s T0 T held v) (hv : v < 6) (hsp : T.spare = x :: r) (hnf : nf ar s.ops ≤ r.length) (off : s2.off = false) (hbl : s2.bl = upd s.bl x.toNat b0) (hbad : b0.bad = false) (hz : NoT0 b0) (ho : s.ops ≤ s2.ops) (hl : ∀ bl : Nat → Bk, bl x.toNat = b0 → Hl bl x.toNat l) : Pre ar s2 T0 (T.takeV v) (upd held v l) := by
 obtain ⟨f1, f2, f3, f4, f5, f6⟩ := takeV_facts h.ok h.len (show v < 11 by omega) hsp
 have hx : x ∈ T.spare := by rw [hsp]; simp
 have st : Step (· = x.toNat) ar s s2 := step_upd hbl (.inl hz) ho
 have hn := h.next (T1 := T.takeV v) hsp f1 f2 f3 rfl rfl rfl f5 (fun y hy hne => by
  rw [f4] at hne
  exact ⟨(f6 y hy hne).1, (f6 y hy hne).2, hne⟩) off st
 have hgood : ∀ y ∈ (T.takeV v).all, (s2.bl y.toNat).bad = false := fun y hy => by
  by_cases e : y.toNat = x.toNat
  ·rw [e, hbl, upd_same]; exact hbad
  ·exact hn.good y hy (by rw [f4]; exact e)
 refine ⟨⟨hn.off, hn.ok, hn.ok0, hn.len, hn.len0, hn.sp, hn.sp0, hn.seq, hn.t0, hn.t1, hn.sub, hn.sv, hn.cov, fun y hy _ => hgood y hy, fun b hb _ => ?_⟩, by rw [f3]; exact Nat.le_trans (nf_le ar ho) hnf, hgood⟩
 by_cases e : b = v
 ·subst e
  rw [upd_same, f4]
  exact hl _ (by rw [hbl, upd_same])
 ·rw [upd_other _ _ _ _ e]
  exact hn.hl b hb e
theorem verGo_no {ar : Ar} {v n : Nat} {s : St} {T : Tb} {e : Int} (h : e ≠ 70) : verGo ar v n s T e = (s, T, e) := by
 cases n with
 | zero => rfl
 | succ n => rw [verGo, if_neg h]
theorem hl_blank {bl : Nat → Bk} {k : Nat} (h : bl k = blankB) : Hl bl k [] := by
 refine ⟨by decide, by rw [h]; rfl, fun p h_ hp => by simp at hp, fun p _ _ => by rw [h]; rfl⟩
theorem verGo_cases {ar : Ar} (he : EvOk ar.evs) (hL : NoTab (leftPg ar)) {T0 : Tb} {held : Nat → List Hd} {v : Nat} (hv : v < 6) (hq : T0.seq + 1 < 4294967296) : ∀ (n : Nat) (s : St) (T : Tb), T.spare.length = n → PreV ar s T0 T held v → nf ar s.ops + 1 ≤ n →
  ((verGo ar v n s T 70).2.2 = 0 ∧ (verGo ar v n s T 70).2.1.seq = T0.seq + 1 ∧ Inv ar (verGo ar v n s T 70).1 (verGo ar v n s T 70).2.1 (upd held v [])) ∨ ((verGo ar v n s T 70).2.2 = 72 ∧ (verGo ar v n s T 70).1.off = true ∧ Step (KO T) ar s (verGo ar v n s T 70).1) := by
 intro n
 induction n with
 | zero => intro s T _ _ h; omega
 | succ n ih =>
  intro s T hl h hn
  cases hsp : T.spare with
  | nil => rw [hsp] at hl; cases hl
  | cons x r =>
   have hx : x ∈ T.spare := by rw [hsp]; simp
   have hx0 := h.ok.pos (mem_all_spare hx)
   have hlr : r.length = n := by rw [hsp] at hl; simpa using hl
   obtain ⟨f1, f2, f3, f4, f5, f6⟩ := takeV_facts h.ok h.len (show v < 11 by omega) hsp
   have hKx : ∀ k, k = x.toNat → KO T k := fun k e => .inr (by rw [e, Int.toNat_of_nonneg hx0.1]; exact hx)
   have hKt : ∀ k, KO (T.takeV v) k → KO T k := fun k hk => by
    rcases hk with hk | hk
    ·exact .inl hk
    ·right; rw [f3] at hk; rw [hsp]; exact List.mem_cons_of_mem _ hk
   rw [verGo, if_pos rfl, f4]
   rcases erase_cases he hL h.off (h.good x (mem_all_spare hx) (sp_at h.ok h.len hx (by omega))) with ⟨e1, e2, e3, e4⟩ | ⟨e1, e2, e3, e4⟩ | ⟨e1, e2, e3⟩
   ·rw [if_pos e1]
    have hz : NoT0 blankB := noT_none
    have hp := h.done (l := []) hv hsp (by omega) e2 e3 rfl hz (by omega) (fun bl hb => hl_blank hb)
    rcases inv_save he hL hp (by show T.seq + 1 < _; rw [h.seq]; exact hq) with ⟨q1, q2, q3⟩ | ⟨q1, q2, q3⟩
    ·exact .inl ⟨q1, q2, q3⟩
    ·exact .inr ⟨q1, q2, ((step_upd e3 (.inl hz) (by omega)).mono hKx).trans (q3.mono hKt)⟩
   ·rw [if_neg (by rw [e1]; decide), e1]
    have hp := h.next (T1 := T.takeV v) hsp f1 f2 f3 rfl rfl rfl f5 (fun y hy hne => by rw [f4] at hne; exact ⟨(f6 y hy hne).1, (f6 y hy hne).2, hne⟩) e2 e3
    rcases ih _ (T.takeV v) (by rw [f3]; exact hlr) hp (by omega) with ⟨q1, q2, q3⟩ | ⟨q1, q2, q3⟩
    ·exact .inl ⟨q1, q2, q3⟩
    ·exact .inr ⟨q1, q2, (e3.mono hKx).trans (q3.mono hKt)⟩
   ·rw [if_neg (by rw [e1]; decide), verGo_no (by rw [e1]; decide)]
    exact .inr ⟨e1, e2, e3.mono hKx⟩
theorem inv_erase {ar : Ar} (he : EvOk ar.evs) (hL : NoTab (leftPg ar)) {s : St} {T : Tb} {held : Nat → List Hd} {v : Nat} (h : Inv ar s T held) (hv : v < 6) (hq : T.seq + 1 < 4294967296) :
  ((verS ar s T v).2.2 = 0 ∧ (verS ar s T v).2.1.seq ≤ T.seq + 1 ∧ Inv ar (verS ar s T v).1 (verS ar s T v).2.1 (upd held v [])) ∨ ((verS ar s T v).2.2 = 72 ∧ (verS ar s T v).1.off = true ∧ Step (fun k => k = T.at v ∨ KO T k) ar s (verS ar s T v).1) := by
 have hpl := at_mem h.len (show v < 11 by omega)
 have hga : (s.bl (T.at v)).bad = false := h.all _ (mem_all_place hpl)
 unfold verS
 rcases erase_cases he hL h.off hga with ⟨e1, e2, e3, e4⟩ | ⟨e1, e2, e3, e4⟩ | ⟨e1, e2, e3⟩
 ·left
  rw [verGo_no (by rw [e1]; decide)]
  have st : Step (· = T.at v) ar s (eraseS ar s (T.at v)).1 := step_upd e3 (.inl noT_none) (by omega)
  have htb : T.tab ≠ T.at v := fun e => (h.ok.pl_tab hpl).1 e.symm
  have hgood : ∀ y ∈ T.all, ((eraseS ar s (T.at v)).1.bl y.toNat).bad = false := fun y hy => by
   rw [e3]
   by_cases e : y.toNat = T.at v
   ·rw [e, upd_same]; rfl
   ·rw [upd_other _ _ _ _ e]; exact h.all y hy
  refine ⟨e1, by simp only; omega, ⟨⟨e2, h.ok, h.ok, h.len, h.len, h.sp, h.sp, rfl, rfl, rfl, fun _ h => h, ?_, cov_step st h.cov, fun y hy _ => hgood y hy, fun b hb _ => ?_⟩, Nat.le_trans (nf_le ar (show s.ops ≤ (eraseS ar s (T.at v)).1.ops by omega)) h.nf, hgood⟩⟩
  ·simp only; rw [e3, upd_other _ _ _ _ htb]; exact h.sv
  ·by_cases e : b = v
   ·subst e; rw [upd_same]; exact hl_blank (by simp only; rw [e3, upd_same])
   ·rw [upd_other _ _ _ _ e]
    exact (h.hl b hb (by omega)).keep (by simp only; rw [e3, upd_other _ _ _ _ (at_ne h.ok h.len (by omega) (by omega) e)])
 ·rw [e1]
  have htb : T.tab ≠ T.at v := fun e => (h.ok.pl_tab hpl).1 e.symm
  have hp : PreV ar (eraseS ar s (T.at v)).1 T T held v := ⟨e2, h.ok, h.ok, h.len, h.len, h.sp, h.sp, rfl, rfl, rfl, fun _ h => h, by rw [e3.keep _ htb]; exact h.sv, cov_step e3 h.cov, fun y hy hne => by rw [e3.keep _ hne]; exact h.all y hy, fun b hb hne => (h.hl b hb (by omega)).keep (e3.keep _ (at_ne h.ok h.len (by omega) (by omega) hne))⟩
  have hnf := h.nf
  rcases verGo_cases he hL hv hq T.spare.length _ T rfl hp (by omega) with ⟨q1, q2, q3⟩ | ⟨q1, q2, q3⟩
  ·exact .inl ⟨q1, by omega, q3⟩
  ·exact .inr ⟨q1, q2, (e3.mono (fun k hk => .inl hk)).trans (q3.mono (fun k hk => .inr hk))⟩
 ·rw [verGo_no (by rw [e1]; decide)]
  exact .inr ⟨e1, e2, e3.mono (fun k hk => .inl hk)⟩
end Go.Proofs.Ytffalemndjampaa
end
section
set_option linter.unusedVariables false
set_option linter.unusedSimpArgs false
namespace Go.Proofs.Ytffalemndjampaa
open Go.RowKit Go.Proofs.YtffalemndjampaaW.PrintWords
theorem hl_sal {bl : Nat → Bk} {k : Nat} {l : List Hd} {hd : Hd} {p : Nat} {x : List Int × List Int} {src : Nat → Option (List Int × List Int)} (hp : p = l.length) (hp6 : p < 6) (hx : PgH (some x) hd) (hs : ∀ q h, l[q]? = some h → PgH (src q) h) (hb : bl k = ⟨fun j => if j < p then some (pgD (src j)) else if j = p then some x else none, p + 1, false⟩) : Hl bl k (l ++ [hd]) := by
 subst hp
 refine ⟨by rw [List.length_append]; simp; omega, by rw [hb]; simp, fun q h hq => ?_, fun q hq hq6 => ?_⟩
 ·rw [hb]
  by_cases e : q < l.length
  ·rw [List.getElem?_append_left e] at hq
   obtain ⟨y, hy, h1⟩ := hs q h hq
   simp only [if_pos e, hy]
   exact ⟨y, rfl, h1⟩
  ·rw [List.getElem?_append_right (by omega)] at hq
   have e2 : q = l.length := by
    have := (List.getElem?_eq_some_iff.1 hq).1
    simp at this; omega
   subst e2
   simp only [Nat.sub_self, List.getElem?_cons_zero, Option.some.injEq] at hq
   subst hq
   simp only [Nat.lt_irrefl, if_false, if_true]
   exact hx
 ·rw [List.length_append] at hq
  simp only [List.length_cons, List.length_nil] at hq
  rw [hb]
  simp only [if_neg (show ¬ q < l.length by omega), if_neg (show ¬ q = l.length by omega)]
theorem vprGo_cases {ar : Ar} (he : EvOk ar.evs) (hL : NoTab (leftPg ar)) {T0 : Tb} {held : Nat → List Hd} {v p : Nat} {x : List Int × List Int} {hd : Hd} (hv : v < 6) (hq : T0.seq + 1 < 4294967296) (hp : p = (held v).length) (hp6 : p < 6) (hx : PgH (some x) hd) : ∀ (n : Nat) (s : St) (T : Tb), T.spare.length = n → PreV ar s T0 T held v → nf ar s.ops + 1 ≤ n → (∀ q h, (held v)[q]? = some h → PgH ((s.bl (T.at v)).pg q) h) → NoTab (pgD ((s.bl (T.at v)).pg 0)) →
  ((vprGo ar v p x n s T).2.2 = 0 ∧ (vprGo ar v p x n s T).2.1.seq = T0.seq + 1 ∧ Inv ar (vprGo ar v p x n s T).1 (vprGo ar v p x n s T).2.1 (upd held v (held v ++ [hd]))) ∨ ((vprGo ar v p x n s T).2.2 = 72 ∧ (vprGo ar v p x n s T).1.off = true ∧ Step (KO T) ar s (vprGo ar v p x n s T).1) := by
 intro n
 induction n with
 | zero => intro s T _ _ h; omega
 | succ n ih =>
  intro s T hl h hn hs hs0
  cases hsp : T.spare with
  | nil => rw [hsp] at hl; cases hl
  | cons y r =>
   have hy : y ∈ T.spare := by rw [hsp]; simp
   have hy0 := h.ok.pos (mem_all_spare hy)
   have hlr : r.length = n := by rw [hsp] at hl; simpa using hl
   obtain ⟨f1, f2, f3, f4, f5, f6⟩ := takeV_facts h.ok h.len (show v < 11 by omega) hsp
   have hya := sp_at h.ok h.len hy (show v < 11 by omega)
   have hKy : ∀ k, k = y.toNat → KO T k := fun k e => .inr (by rw [e, Int.toNat_of_nonneg hy0.1]; exact hy)
   have hKt : ∀ k, KO (T.takeV v) k → KO T k := fun k hk => by
    rcases hk with hk | hk
    ·exact .inl hk
    ·right; rw [f3] at hk; rw [hsp]; exact List.mem_cons_of_mem _ hk
   have hxn : NoTab x := hx.no
   rw [vprGo, f4]
   rcases sal_cases he hL noT_none (p := p) (x := x) hya h.off (h.good y (mem_all_spare hy) hya) hs0 hxn with ⟨e1, e2, e3, e4⟩ | ⟨e1, e2, e3, e4⟩ | ⟨e1, e2, e3⟩
   ·rw [if_pos e1]
    have hz : NoT0 ⟨fun j => if j < p then some (pgD ((s.bl (T.at v)).pg j)) else if j = p then some x else none, p + 1, false⟩ := by
     unfold NoT0
     by_cases e : 0 < p
     ·simp only [if_pos e]; exact hs0
     ·simp only [if_neg e, if_pos (show 0 = p by omega)]; exact hxn
    have hpr := h.done (l := held v ++ [hd]) hv hsp (by omega) e2 e3 rfl hz (by omega) (fun bl hb => hl_sal hp hp6 hx hs hb)
    rcases inv_save he hL hpr (by show T.seq + 1 < _; rw [h.seq]; exact hq) with ⟨q1, q2, q3⟩ | ⟨q1, q2, q3⟩
    ·exact .inl ⟨q1, q2, q3⟩
    ·exact .inr ⟨q1, q2, ((step_upd e3 (.inl hz) (by omega)).mono hKy).trans (q3.mono hKt)⟩
   ·rw [if_neg (by rw [e1]; decide), if_pos e1, Tb.back_eq h.ok h.len (by omega)]
    have r1 : T.rest.spare = r := by unfold Tb.rest; rw [hsp]; rfl
    have r2 : ∀ b, T.rest.at b = T.at b := fun b => rfl
    have hpr := h.next (T1 := T.rest) hsp h.ok.rest h.len r1 rfl rfl rfl (fun b _ _ => rfl) (fun z hz hne => by
     have hz2 : z ∈ T.place ∨ z ∈ r ∨ z = T.t0 ∨ z = T.t1 := by
      have h_ := mem_all.1 hz
      rw [r1] at h_
      exact h_
     have hza : z ∈ T.all := mem_all.2 (by
      rcases hz2 with z1 | z1 | z1 | z1
      ·exact .inl z1
      ·exact .inr (.inl (by rw [hsp]; exact List.mem_cons_of_mem _ z1))
      ·exact .inr (.inr (.inl z1))
      ·exact .inr (.inr (.inr z1)))
     refine ⟨hza, hne, fun e => ?_⟩
     have e2 : z = y := by have h1 := h.ok.pos hza; omega
     rw [e2] at hz2
     have hst := h.ok.apt.st y hy
     rcases hz2 with z1 | z1 | z1 | z1
     ·exact h.ok.apt.ps y z1 y hy rfl
     ·have hss := h.ok.apt.ss
      rw [hsp] at hss
      exact (List.nodup_cons.1 hss).1 z1
     ·exact hst.1 z1
     ·exact hst.2 z1) e2 e3
    have hkeep : ∀ q, ((salS ar s (T.at v) y.toNat p x).1.bl (T.at v)).pg q = ((s.bl (T.at v)).pg q) := fun q => by rw [e3.keep _ (Ne.symm hya)]
    rcases ih _ T.rest (by rw [r1]; exact hlr) hpr (by omega) (fun q h_ hq_ => by rw [r2, hkeep]; exact hs q h_ hq_) (by rw [r2, hkeep]; exact hs0) with ⟨q1, q2, q3⟩ | ⟨q1, q2, q3⟩
    ·exact .inl ⟨q1, q2, q3⟩
    ·exact .inr ⟨q1, q2, (e3.mono hKy).trans (q3.mono (fun k hk => by
      rcases hk with hk | hk
      ·exact .inl hk
      ·right; rw [r1] at hk; rw [hsp]; exact List.mem_cons_of_mem _ hk))⟩
   ·rw [if_neg (by rw [e1]; decide), if_neg (by rw [e1]; decide)]
    exact .inr ⟨e1, e2, e3.mono hKy⟩
theorem inv_prog {ar : Ar} (he : EvOk ar.evs) (hL : NoTab (leftPg ar)) {s : St} {T : Tb} {held : Nat → List Hd} {v p : Nat} {x : List Int × List Int} {hd : Hd} (h : Inv ar s T held) (hv : v < 6) (hq : T.seq + 1 < 4294967296) (hp : p = (held v).length) (hp6 : p < 6) (hx : PgH (some x) hd) :
  ((vprS ar s T v p x).2.2 = 0 ∧ (vprS ar s T v p x).2.1.seq ≤ T.seq + 1 ∧ Inv ar (vprS ar s T v p x).1 (vprS ar s T v p x).2.1 (upd held v (held v ++ [hd]))) ∨
  ((vprS ar s T v p x).2.2 = 72 ∧ (vprS ar s T v p x).1.off = true ∧ ∃ s1 bd, s1.bl = upd s.bl (T.at v) ⟨upd (s.bl (T.at v)).pg p (some (leftPg ar)), p + 1, bd⟩ ∧ s.ops ≤ s1.ops ∧ Step (KO T) ar s1 (vprS ar s T v p x).1) := by
 have hpl := at_mem h.len (show v < 11 by omega)
 have hga : (s.bl (T.at v)).bad = false := h.all _ (mem_all_place hpl)
 have hh := h.hl v hv (by omega)
 have htb : T.tab ≠ T.at v := fun e => (h.ok.pl_tab hpl).1 e.symm
 unfold vprS
 rcases prog_cases (p := p) (x := x) he h.off hga (by rw [hh.2.1, hp]) with ⟨e1, e2, e3, e4⟩ | ⟨e1, e2, e3, e4, e5⟩ | ⟨e1, e2, e3, e4⟩
 ·left
  rw [if_neg (by rw [e1]; decide)]
  have st : Step (· = T.at v) ar s (progS ar s (T.at v) p x).1 := step_upd e3 (zero_upd (fun _ => hx.no)) (by omega)
  have hgood : ∀ y ∈ T.all, ((progS ar s (T.at v) p x).1.bl y.toNat).bad = false := fun y hy => by
   rw [e3]
   by_cases e : y.toNat = T.at v
   ·rw [e, upd_same]
   ·rw [upd_other _ _ _ _ e]; exact h.all y hy
  refine ⟨e1, by simp only; omega, ⟨⟨e2, h.ok, h.ok, h.len, h.len, h.sp, h.sp, rfl, rfl, rfl, fun _ h => h, ?_, cov_step st h.cov, fun y hy _ => hgood y hy, fun b hb _ => ?_⟩, Nat.le_trans (nf_le ar (show s.ops ≤ (progS ar s (T.at v) p x).1.ops by omega)) h.nf, hgood⟩⟩
  ·simp only; rw [e3, upd_other _ _ _ _ htb]; exact h.sv
  ·by_cases e : b = v
   ·subst e
    rw [upd_same]
    have hb : (progS ar s (T.at b) p x).1.bl (T.at b) = ⟨upd (s.bl (T.at b)).pg p (some x), p + 1, false⟩ := by rw [e3, upd_same]
    refine ⟨by rw [List.length_append]; simp; omega, by simp only; rw [hb]; simp [hp], fun q h_ hq_ => ?_, fun q hq1 hq2 => ?_⟩
    ·simp only
     rw [hb]
     by_cases e : q < (held b).length
     ·rw [List.getElem?_append_left e] at hq_
      rw [show (⟨upd (s.bl (T.at b)).pg p (some x), p + 1, false⟩ : Bk).pg q = (s.bl (T.at b)).pg q from upd_other _ _ _ _ (by omega)]
      exact hh.2.2.1 q h_ hq_
     ·rw [List.getElem?_append_right (by omega)] at hq_
      have e2 : q = (held b).length := by
       have := (List.getElem?_eq_some_iff.1 hq_).1
       simp at this; omega
      rw [e2] at hq_ ⊢
      simp only [Nat.sub_self, List.getElem?_cons_zero, Option.some.injEq] at hq_
      subst hq_
      rw [← hp, show (⟨upd (s.bl (T.at b)).pg p (some x), p + 1, false⟩ : Bk).pg p = some x from upd_same _ _ _]
      exact hx
    ·rw [List.length_append] at hq1
     simp only [List.length_cons, List.length_nil] at hq1 ⊢
     rw [hb, show (⟨upd (s.bl (T.at b)).pg p (some x), p + 1, false⟩ : Bk).pg q = (s.bl (T.at b)).pg q from upd_other _ _ _ _ (by omega)]
     exact hh.2.2.2 q (by omega) hq2
   ·rw [upd_other _ _ _ _ e]
    exact (h.hl b hb (by omega)).keep (by simp only; rw [e3, upd_other _ _ _ _ (at_ne h.ok h.len (by omega) (by omega) e)])
 ·rw [if_pos e1]
  have st : Step (· = T.at v) ar s (progS ar s (T.at v) p x).1 := step_upd e3 (zero_upd (fun _ => hL)) e4
  have hpv : PreV ar (progS ar s (T.at v) p x).1 T T held v := ⟨e2, h.ok, h.ok, h.len, h.len, h.sp, h.sp, rfl, rfl, rfl, fun _ h => h, by rw [st.keep _ htb]; exact h.sv, cov_step st h.cov, fun y hy hne => by rw [st.keep _ hne]; exact h.all y hy, fun b hb hne => (h.hl b hb (by omega)).keep (st.keep _ (at_ne h.ok h.len (by omega) (by omega) hne))⟩
  have hnf := h.nf
  have hb : (progS ar s (T.at v) p x).1.bl (T.at v) = ⟨upd (s.bl (T.at v)).pg p (some (leftPg ar)), p + 1, true⟩ := by rw [e3, upd_same]
  have hs : ∀ q h_, (held v)[q]? = some h_ → PgH (((progS ar s (T.at v) p x).1.bl (T.at v)).pg q) h_ := fun q h_ hq_ => by
   have hlt := (List.getElem?_eq_some_iff.1 hq_).1
   rw [hb, show (⟨upd (s.bl (T.at v)).pg p (some (leftPg ar)), p + 1, true⟩ : Bk).pg q = (s.bl (T.at v)).pg q from upd_other _ _ _ _ (by omega)]
   exact hh.2.2.1 q h_ hq_
  have hs0 : NoTab (pgD (((progS ar s (T.at v) p x).1.bl (T.at v)).pg 0)) := by
   rcases st.zero _ rfl with z | z
   ·exact z
   ·rw [z]; exact hh.zero
  rcases vprGo_cases he hL hv hq hp hp6 hx T.spare.length _ T rfl hpv (by omega) hs hs0 with ⟨q1, q2, q3⟩ | ⟨q1, q2, q3⟩
  ·exact .inl ⟨q1, by omega, q3⟩
  ·exact .inr ⟨q1, q2, _, _, e3, e4, q3⟩
 ·rw [if_neg (by rw [e1]; decide)]
  exact .inr ⟨e1, e2, _, _, e3, e4, Step.refl _ _ _⟩
structure Fin (s : St) (T : Tb) (held : Nat → List Hd) (op : Nat) : Prop where
 ok : TbOk T
 len : T.place.length = 11
 sp : T.spare.length ≤ 3
 sv : (s.bl T.tab).pg 0 = some (tbD T, tbO T)
 cov : ∀ k, k < 16 → k ≠ T.tab → NoT0 (s.bl k) ∨ ∃ T', IsTab (pgD ((s.bl k).pg 0)) T' ∧ T'.seq < T.seq
 yes : ∀ b, b < 6 → ∀ q h, (held b)[q]? = some h → PgH ((s.bl (T.at b)).pg q) h
 no : ∀ b, b < 6 → ∀ q, (held b).length ≤ q → q < 6 → openB (pgD ((s.bl (T.at b)).pg q)).1 (pgD ((s.bl (T.at b)).pg q)).2 = false ∨ (b = op ∧ held b = [])
theorem Fin.of_inv {ar : Ar} {s : St} {T : Tb} {held : Nat → List Hd} (h : Inv ar s T held) (op : Nat) : Fin s T held op :=
 ⟨h.ok, h.len, h.sp, h.sv, h.cov, fun b hb q h_ hq => (h.hl b hb (by omega)).2.2.1 q h_ hq, fun b hb q hq hq6 => .inl (by rw [(h.hl b hb (by omega)).2.2.2 q hq hq6]; exact blank_open)⟩
theorem Fin.of_erase {ar : Ar} {s s' : St} {T : Tb} {held : Nat → List Hd} {v : Nat} (h : Inv ar s T held) (hv : v < 6) (st : Step (fun k => k = T.at v ∨ KO T k) ar s s') : Fin s' T (upd held v []) v := by
 have hout : ∀ k, (k = T.at v ∨ KO T k) → k ≠ T.tab ∧ ∀ b, b < 6 → b ≠ v → k ≠ T.at b := fun k hk => by
  rcases hk with rfl | hk
  ·exact ⟨(h.ok.pl_tab (at_mem h.len (show v < 11 by omega))).1, fun b hb hne => at_ne h.ok h.len (by omega) (by omega) (Ne.symm hne)⟩
  ·have h_ := kt_out h.ok h.len hk
   exact ⟨h_.1, fun b hb _ => h_.2.2 b (by omega)⟩
 refine ⟨h.ok, h.len, h.sp, by rw [st.keep _ (fun hk => (hout _ hk).1 rfl)]; exact h.sv, cov_step st h.cov, fun b hb q h_ hq => ?_, fun b hb q hq hq6 => ?_⟩
 ·by_cases e : b = v
  ·subst e; rw [upd_same] at hq; simp at hq
  ·rw [upd_other _ _ _ _ e] at hq
   rw [st.keep _ (fun hk => (hout _ hk).2 b hb e rfl)]
   exact (h.hl b hb (by omega)).2.2.1 q h_ hq
 ·by_cases e : b = v
  ·subst e; rw [upd_same]; exact .inr ⟨rfl, rfl⟩
  ·rw [upd_other _ _ _ _ e] at hq ⊢
   left
   rw [st.keep _ (fun hk => (hout _ hk).2 b hb e rfl), (h.hl b hb (by omega)).2.2.2 q hq hq6]
   exact blank_open
theorem Fin.of_prog {ar : Ar} (hL : openB (leftD ar.lf) (leftO ar.lf) = false) {s s1 s' : St} {T : Tb} {held : Nat → List Hd} {v p : Nat} {bd : Bool} (h : Inv ar s T held) (hv : v < 6) (hp : p = (held v).length) (hp6 : p < 6) (hb : s1.bl = upd s.bl (T.at v) ⟨upd (s.bl (T.at v)).pg p (some (leftPg ar)), p + 1, bd⟩) (ho : s.ops ≤ s1.ops) (st : Step (KO T) ar s1 s') : Fin s' T held v := by
 have st1 : Step (· = T.at v) ar s s1 := step_upd hb (zero_upd (fun _ => noT_left hL)) ho
 have hpl := at_mem h.len (show v < 11 by omega)
 have htb : T.tab ≠ T.at v := fun e => (h.ok.pl_tab hpl).1 e.symm
 have hout := fun k hk => kt_out h.ok h.len (k := k) hk
 have hsame : ∀ b, b < 6 → s'.bl (T.at b) = s1.bl (T.at b) := fun b hb_ => st.keep _ (fun hk => (hout _ hk).2.2 b (by omega) rfl)
 refine ⟨h.ok, h.len, h.sp, by rw [st.keep _ (fun hk => (hout _ hk).1 rfl), st1.keep _ htb]; exact h.sv, cov_step st (cov_step st1 h.cov), fun b hb_ q h_ hq => ?_, fun b hb_ q hq hq6 => ?_⟩
 ·rw [hsame b hb_]
  by_cases e : b = v
  ·subst e
   have hlt := (List.getElem?_eq_some_iff.1 hq).1
   rw [hb, upd_same, show (⟨upd (s.bl (T.at b)).pg p (some (leftPg ar)), p + 1, bd⟩ : Bk).pg q = (s.bl (T.at b)).pg q from upd_other _ _ _ _ (by omega)]
   exact (h.hl b hb_ (by omega)).2.2.1 q h_ hq
  ·rw [st1.keep _ (at_ne h.ok h.len (by omega) (by omega) e)]
   exact (h.hl b hb_ (by omega)).2.2.1 q h_ hq
 ·left
  rw [hsame b hb_]
  by_cases e : b = v
  ·subst e
   rw [hb, upd_same]
   by_cases e2 : q = p
   ·rw [e2, show (⟨upd (s.bl (T.at b)).pg p (some (leftPg ar)), p + 1, bd⟩ : Bk).pg p = some (leftPg ar) from upd_same _ _ _]
    exact hL
   ·rw [show (⟨upd (s.bl (T.at b)).pg p (some (leftPg ar)), p + 1, bd⟩ : Bk).pg q = (s.bl (T.at b)).pg q from upd_other _ _ _ _ e2, (h.hl b hb_ (by omega)).2.2.2 q hq hq6]
    exact blank_open
  ·rw [st1.keep _ (at_ne h.ok h.len (by omega) (by omega) e), (h.hl b hb_ (by omega)).2.2.2 q hq hq6]
   exact blank_open
end Go.Proofs.Ytffalemndjampaa
end
section
set_option linter.unusedVariables false
set_option linter.unusedSimpArgs false
namespace Go.Proofs.Ytffalemndjampaa
open Go.RowKit Go.Proofs.YtffalemndjampaaW.PrintWords
theorem IsTab.inj {x : List Int × List Int} {T T' : Tb} (h : IsTab x T) (h' : IsTab x T') : T = T' := by
 have e1 : tbD T = tbD T' := congrArg Prod.fst (h.1.symm.trans h'.1)
 have hq := h.seq h'
 obtain ⟨-, a1, a2, a3, a4, a5, -⟩ := tbD_at T h.2.2.1
 obtain ⟨-, b1, b2, b3, b4, b5, -⟩ := tbD_at T' h'.2.2.1
 rw [← e1] at b1 b2 b3 b4 b5
 have hl : T.spare.length = T'.spare.length := by
  have := Option.some.inj (a2.symm.trans b2); omega
 have hp : T.place = T'.place := by
  apply List.ext_getElem
  ·rw [h.2.2.1, h'.2.2.1]
  ·intro i h1 h2
   exact Option.some.inj ((a1 i _ (List.getElem?_eq_getElem h1)).symm.trans (b1 i _ (List.getElem?_eq_getElem h2)))
 have hs : T.spare = T'.spare := by
  apply List.ext_getElem hl
  intro i h1 h2
  exact Option.some.inj ((a3 i _ (List.getElem?_eq_getElem h1)).symm.trans (b3 i _ (List.getElem?_eq_getElem h2)))
 rw [← hl] at b4 b5
 have h0 := Option.some.inj (a4.symm.trans b4)
 have h1 := Option.some.inj (a5.symm.trans b5)
 cases T; cases T'
 simp only at hq hp hs h0 h1
 subst hq hp hs h0 h1
 rfl
theorem fin_find {s : St} {T : Tb} (ok : TbOk T) (len : T.place.length = 11) (sp : T.spare.length ≤ 3) (sv : (s.bl T.tab).pg 0 = some (tbD T, tbO T)) (cov : ∀ k, k < 16 → k ≠ T.tab → NoT0 (s.bl k) ∨ ∃ T', IsTab (pgD ((s.bl k).pg 0)) T' ∧ T'.seq < T.seq) :
  (∀ k, k < 16 → (∃ T', IsTab (pgD ((s.bl k).pg 0)) T') ∨ NoTab (pgD ((s.bl k).pg 0))) ∧ (∃ k T', k < 16 ∧ IsTab (pgD ((s.bl k).pg 0)) T') ∧ ∀ T', MaxTab s 16 T' → T' = T := by
 have hT : IsTab (pgD ((s.bl T.tab).pg 0)) T := by rw [sv]; exact ⟨rfl, ok, len, sp⟩
 have hk := ok.tab_oth.2.1
 refine ⟨fun k hk16 => ?_, ⟨T.tab, T, hk, hT⟩, fun T' hm => ?_⟩
 ·by_cases e : k = T.tab
  ·rw [e]; exact .inl ⟨T, hT⟩
  ·rcases cov k hk16 e with z | ⟨T', z, -⟩
   ·exact .inr z
   ·exact .inl ⟨T', z⟩
 ·obtain ⟨⟨k, hk1, hk2⟩, hk3⟩ := hm
  have h1 := hk3 T.tab T hk hT
  by_cases e : k = T.tab
  ·rw [e] at hk2; exact hk2.inj hT
  ·rcases cov k hk1 e with z | ⟨T'', z1, z2⟩
   ·exact absurd z hk2.no
   ·have := hk2.seq z1; omega
theorem fmt_inv {ar : Ar} (hn : nf ar 0 ≤ 3) (m : Nat) : Inv ar ((⟨fmtS.bl, 0, false⟩ : St).tick m) T0.up (fun _ => []) := by
 have hbl : ∀ k, k ≠ 1 → fmtS.bl k = blankB := fun k hk => by
  simp [fmtS, St.setNx, St.setPg, blankS, upd, hk, blankB]
 have hb1 : fmtS.bl 1 = tabB T0.up := by
  simp only [fmtS, St.setNx, St.setPg, blankS, upd, if_true, tabB]
 have hbad : ∀ k, (fmtS.bl k).bad = false := fun k => by
  by_cases e : k = 1
  ·rw [e, hb1]; rfl
  ·rw [hbl k e]; rfl
 refine ⟨⟨rfl, T0_ok, T0_ok, rfl, rfl, by decide, by decide, rfl, rfl, rfl, fun _ h => h, ?_, fun k hk hne => .inl ?_, fun x _ _ => hbad _, fun b hb _ => ?_⟩, Nat.le_trans (nf_le ar (by show (0 : Int) ≤ 0 + (m : Int); omega)) hn, fun x _ => hbad _⟩
 ·show (fmtS.bl T0.up.tab).pg 0 = _
  rw [show T0.up.tab = 1 from by decide, hb1]; rfl
 ·show NoT0 (fmtS.bl k)
  rw [hbl k (by rw [show T0.up.tab = 1 from by decide] at hne; exact hne)]; exact noT_none
 ·show Hl fmtS.bl (T0.up.at b) []
  have e : T0.up.at b ≠ 1 := by
   match b, hb with
   | 0, _ => decide
   | 1, _ => decide
   | 2, _ => decide
   | 3, _ => decide
   | 4, _ => decide
   | 5, _ => decide
  exact hl_blank (hbl _ e)
end Go.Proofs.Ytffalemndjampaa
end
section
set_option linter.unusedVariables false
set_option linter.unusedSimpArgs false
namespace Go.Proofs.Ytffalemndjampaa
open Go.RowKit Go.Proofs.YtffalemndjampaaW.PrintWords Go.Proofs.YtffalemndjampaaW.PrintLast
def Lay.ar (L : Lay) (EA : Option Addr) (n ec : Nat) (LA : Option Addr) (ln lc : Nat) (evs : List Ev0) (lf : List Int) : Ar :=
 { p := L.p, q := L.q, qc := L.qc, dq := L.dq, dc := L.dc, r := L.r 0, rc := L.rc 0, n := n, ec := ec, ln := ln, lc := lc, pr := L.pr 0, pc := L.pc 0, EA := EA, LA := LA, evs := evs, lf := lf }
def PgV (w : World) (ok : Nat → Prop) (a b : Value) : Option (List Int × List Int) → Prop
 | none => a = .slice none 0 0 ∧ b = .slice none 0 0
 | some x => ∃ A c B c', a = .slice (some A) 256 c ∧ b = .slice (some B) 64 c' ∧ 256 ≤ c ∧ 64 ≤ c' ∧ ReadsInt w .u8 (some A) 256 x.1 ∧ ReadsInt w .u8 (some B) 64 x.2 ∧ ok A.block ∧ ok B.block ∧ Byt x.1 ∧ Byt x.2
def ChipS (w : World) (ok : Nat → Prop) (f : Nat → Int × Int × Bool) (g : Nat → Nat → Value) (bl : Nat → Bk) : Prop :=
 ∀ i, i < 16 → (f i).1 = ((bl i).nx : Int) ∧ (f i).2.2 = (bl i).bad ∧ ∀ p, p < 6 → PgV w ok (g i (p * 2)) (g i (p * 2 + 1)) ((bl i).pg p)
theorem PgAt.v {w : World} {ok : Nat → Prop} {D : Array Value} {p : Nat} {x : Option (List Int × List Int)} (h : PgAt w ok D p x) : ∃ a b, D[p * 2]? = some a ∧ D[p * 2 + 1]? = some b ∧ a.oneCell' = true ∧ b.oneCell' = true ∧ PgV w ok a b x := by
 cases x with
 | none => exact ⟨_, _, h.1, h.2, rfl, rfl, rfl, rfl⟩
 | some x =>
  obtain ⟨A, c, B, c', h1, h2, h3⟩ := h
  exact ⟨_, _, h1, h2, rfl, rfl, A, c, B, c', rfl, rfl, h3⟩
theorem PgV.at_ {w w' : World} {ok ok' : Nat → Prop} {D : Array Value} {p : Nat} {a b : Value} {x : Option (List Int × List Int)} (h : PgV w ok a b x) (hb : Below w.heap.size w w') (hok : ∀ k, ok k → ok' k) (h1 : D[p * 2]? = some a) (h2 : D[p * 2 + 1]? = some b) : PgAt w' ok' D p x := by
 cases x with
 | none => exact ⟨by rw [h1, h.1], by rw [h2, h.2]⟩
 | some x =>
  obtain ⟨A, c, B, c', rfl, rfl, e1, e2, e3, e4, e5, e6, e7⟩ := h
  exact ⟨A, c, B, c', h1, h2, e1, e2, e3.below hb, e4.below hb, hok _ e5, hok _ e6, e7⟩
theorem Arr.chip {w : World} {ar : Ar} {ok : Nat → Prop} {s : St} (h : Arr w ar ok s) : ∃ C f g, ChipR w ar.r C ar.pr ar.pc 16 f g ∧ (∀ i j, i < 16 → j < 12 → (g i j).oneCell' = true) ∧ ChipS w ok f g s.bl := by
 obtain ⟨C, hC, hB⟩ := h.2.2.2.2.2.1
 have hP := h.2.2.2.2.2.2
 have he : ∀ i, ∃ er : Int, i < 16 → C[i * 4 + 2]? = some (.int .i64 er) := fun i => by
  by_cases hi : i < 16
  ·obtain ⟨-, -, ⟨er, h3⟩, -⟩ := hB i hi; exact ⟨er, fun _ => h3⟩
  ·exact ⟨0, fun h_ => absurd h_ hi⟩
 have hd : ∀ i, ∃ D : Array Value, i < 16 → w.heap[ar.pr i]? = some (.cells D 127 (0, 0)) ∧ 12 ≤ D.size ∧ ∀ p, p < 6 → PgAt w ok D p ((s.bl i).pg p) := fun i => by
  by_cases hi : i < 16
  ·obtain ⟨D, h3⟩ := hP i hi; exact ⟨D, fun _ => h3⟩
  ·exact ⟨#[], fun h_ => absurd h_ hi⟩
 obtain ⟨er, her⟩ := Classical.axiomOfChoice he
 obtain ⟨D, hD⟩ := Classical.axiomOfChoice hd
 refine ⟨C, fun i => ((s.bl i).nx, er i, (s.bl i).bad), fun i j => ((D i)[j]?).getD (.bool false), ⟨hC, fun i hi => ?_, fun i hi => ?_⟩, fun i j hi hj => ?_, fun i hi => ⟨rfl, rfl, fun p hp => ?_⟩⟩
 ·obtain ⟨b1, b2, -, b4⟩ := hB i hi
  exact ⟨b1, b2, her i hi, b4⟩
 ·obtain ⟨d1, d2, d3⟩ := hD i hi
  refine ⟨D i, d1, d2, fun j hj => ?_⟩
  have hl : j < (D i).size := by omega
  simp only [Array.getElem?_eq_getElem hl, Option.getD_some]
 ·obtain ⟨d1, d2, d3⟩ := hD i hi
  obtain ⟨a, b, e1, e2, e3, e4, -⟩ := (d3 (j / 2) (by omega)).v
  by_cases e : j % 2 = 0
  ·rw [show j / 2 * 2 = j by omega] at e1
   simp only [e1, Option.getD_some]; exact e3
  ·rw [show j / 2 * 2 + 1 = j by omega] at e2
   simp only [e2, Option.getD_some]; exact e4
 ·obtain ⟨d1, d2, d3⟩ := hD i hi
  obtain ⟨a, b, e1, e2, e3, e4, e5⟩ := (d3 p hp).v
  simp only [e1, e2, Option.getD_some]; exact e5
theorem WArr.arr {w w' : World} {L : Lay} {EA LA : Option Addr} {n ec ln lc : Nat} {evs : List Ev0} {lf : List Int} {ops : Int} {off : Bool} {F : Nat → Nat → Int × Int × Bool} {G : Nat → Nat → Nat → Value} {ok ok' : Nat → Prop} {bl : Nat → Bk} (h : WArr w' L (.slice EA n ec) ops off F G) (hS : ChipS w ok (F 0) (G 0) bl) (hb : Below w.heap.size w w') (hok : ∀ k, ok k → ok' k) (he : EvR w' EA n (.slice LA ln lc) evs) (hl : ReadsInt w' .u8 LA ln lf) :
  Arr w' (L.ar EA n ec LA ln lc evs lf) ok' ⟨bl, ops, off⟩ := by
 obtain ⟨h1, ⟨Q, q1, q2⟩, ⟨D, d1, d2⟩, h4, h5, h6⟩ := h
 obtain ⟨C, c1, c2, c3⟩ := h4 0 (by decide)
 refine ⟨h1, (blk_cell q1 0).trans (q2 0 (by decide)), (blk_cell d1 0).trans (d2 0 (by decide)), he, hl, ⟨C, c1, fun i hi => ?_⟩, fun i hi => ?_⟩
 ·obtain ⟨e1, e2, e3, e4⟩ := c2 i hi
  obtain ⟨s1, s2, -⟩ := hS i hi
  exact ⟨e1, by rw [e2, s1], ⟨_, e3⟩, by rw [e4, s2]⟩
 ·obtain ⟨P, p1, p2, p3⟩ := c3 i hi
  obtain ⟨-, -, s3⟩ := hS i hi
  exact ⟨P, p1, p2, fun p hp => (s3 p hp).at_ hb hok (p3 _ (by omega)) (p3 _ (by omega))⟩
theorem WArr.typed {w : World} {L : Lay} {EV : Value} {ops : Int} {off : Bool} {F : Nat → Nat → Int × Int × Bool} {G : Nat → Nat → Nat → Value} (h : WArr w L EV ops off F G) : (∃ D, w.heap[L.p]? = some (.cells D 92 (0, 0))) ∧ (∀ c, c < 4 → ∃ D, w.heap[L.r c]? = some (.cells D 96 (0, 0))) ∧ ∀ c i, c < 4 → i < 16 → ∃ D, w.heap[L.pr c i]? = some (.cells D 127 (0, 0)) :=
 ⟨⟨_, h.1⟩, fun c hc => by obtain ⟨C, c1, -⟩ := h.2.2.2.1 c hc; exact ⟨C, c1⟩, fun c i hc hi => by obtain ⟨C, -, -, c3⟩ := h.2.2.2.1 c hc; obtain ⟨D, d1, -⟩ := c3 i hi; exact ⟨D, d1⟩⟩
theorem WArr.out {w : World} {L : Lay} {EV : Value} {ops : Int} {off : Bool} {F : Nat → Nat → Int × Int × Bool} {G : Nat → Nat → Nat → Value} {EA LA : Option Addr} {n ec ln lc : Nat} {evs : List Ev0} {lf : List Int} (h : WArr w L EV ops off F G) {x : Nat} {D : Array Value} {t : TypeId} (hx : w.heap[x]? = some (.cells D t (0, 0))) (h1 : t ≠ 92) (h2 : t ≠ 96) (h3 : t ≠ 127) : ¬ (L.ar EA n ec LA ln lc evs lf).M x := by
 obtain ⟨⟨D1, t1⟩, t2, t3⟩ := h.typed
 rintro (e | e | ⟨i, hi, e⟩)
 ·exact blk_ne hx t1 h1 e
 ·obtain ⟨D2, t2⟩ := t2 0 (by decide); exact blk_ne hx t2 h2 e
 ·obtain ⟨D3, t3⟩ := t3 0 i (by decide) hi; exact blk_ne hx t3 h3 e
theorem WArr.fix {w : World} {L : Lay} {EV : Value} {ops : Int} {off : Bool} {F : Nat → Nat → Int × Int × Bool} {G : Nat → Nat → Nat → Value} {EA LA : Option Addr} {n ec ln lc : Nat} {evs : List Ev0} {lf : List Int} (h : WArr w L EV ops off F G) (hev : EvOk evs) (hn : n ≤ 1000) (hln : ln ≤ 1000) (hb : Byt lf) (hE : ∀ x, EA = some x → ∃ D, w.heap[x.block]? = some (.cells D 59 (0, 0))) (hL : ∀ x, LA = some x → 0 < ln → ¬ (L.ar EA n ec LA ln lc evs lf).M x.block) : (L.ar EA n ec LA ln lc evs lf).Fix := by
 obtain ⟨⟨D1, t1⟩, t2, t3⟩ := h.typed
 obtain ⟨D2, t2⟩ := t2 0 (by decide)
 refine ⟨fun i hi => ?_, fun i hi => ?_, fun i j hi hj hne => h.2.2.2.2.2 0 i 0 j (by decide) hi (by decide) hj (.inr hne), blk_ne t2 t1 (by decide), ?_, ?_, fun x hx => ?_, hL, hev, hn, hln, hb⟩
 ·obtain ⟨D3, t3⟩ := t3 0 i (by decide) hi; exact blk_ne t3 t1 (by decide)
 ·obtain ⟨D3, t3⟩ := t3 0 i (by decide) hi; exact blk_ne t3 t2 (by decide)
 ·obtain ⟨Q, q1, -⟩ := h.2.1; exact h.out q1 (by decide) (by decide) (by decide)
 ·obtain ⟨Q, q1, -⟩ := h.2.2.1; exact h.out q1 (by decide) (by decide) (by decide)
 ·obtain ⟨D, hD⟩ := hE x hx; exact h.out hD (by decide) (by decide) (by decide)
theorem WArr.src {w1 w2 : World} {L : Lay} {EV : Value} {ops : Int} {off : Bool} {F : Nat → Nat → Int × Int × Bool} {G : Nat → Nat → Nat → Value} {EA LA : Option Addr} {n ec ln lc : Nat} {evs : List Ev0} {lf : List Int} {ok : Nat → Prop} {s : St} (h : WArr w1 L EV ops off F G) (hG : ∀ c i j, c < 4 → i < 16 → j < 12 → (G c i j).oneCell' = true) (hA : Arr w2 (L.ar EA n ec LA ln lc evs lf) ok s) (hm : Mods (L.ar EA n ec LA ln lc evs lf).M w1 w2) :
  ∃ (F' : Nat → Nat → Int × Int × Bool) (G' : Nat → Nat → Nat → Value), (∀ c, c < 4 → w2.cell? ⟨L.q, c, none⟩ = some (.slice (some ⟨L.r c, 0, none⟩) 16 (L.rc c))) ∧ (∀ c, c < 4 → w2.cell? ⟨L.dq, c, none⟩ = some (.bool false)) ∧ (∀ c, c < 4 → ∃ C, ChipR w2 (L.r c) C (L.pr c) (L.pc c) 16 (F' c) (G' c)) ∧ (∀ c i j, c < 4 → i < 16 → j < 12 → (G' c i j).oneCell' = true) ∧ ChipS w2 ok (F' 0) (G' 0) s.bl := by
 obtain ⟨C, f, g, a1, a2, a3⟩ := hA.chip
 obtain ⟨⟨D1, t1⟩, t2, t3⟩ := h.typed
 refine ⟨fun c => if c = 0 then f else F c, fun c => if c = 0 then g else G c, fun c hc => ?_, fun c hc => ?_, fun c hc => ?_, fun c i j hc hi hj => ?_, by simp only [if_true]; exact a3⟩
 ·obtain ⟨Q, q1, q2⟩ := h.2.1
  exact (blk_cell (hm.blk q1 (h.out q1 (by decide) (by decide) (by decide))) _).trans (q2 c hc)
 ·obtain ⟨Q, q1, q2⟩ := h.2.2.1
  exact (blk_cell (hm.blk q1 (h.out q1 (by decide) (by decide) (by decide))) _).trans (q2 c hc)
 ·by_cases e : c = 0
  ·subst e; simp only [if_true]; exact ⟨C, a1⟩
  ·simp only [if_neg e]
   obtain ⟨C', c1⟩ := h.2.2.2.1 c hc
   obtain ⟨Dc, tc⟩ := t2 c hc
   obtain ⟨D0, t0⟩ := t2 0 (by decide)
   have hr : ¬ (L.ar EA n ec LA ln lc evs lf).M (L.r c) := by
    rintro (e1 | e1 | ⟨i, hi, e1⟩)
    ·exact blk_ne tc t1 (by decide) e1
    ·exact h.2.2.2.2.1 c 0 hc (by decide) e e1
    ·obtain ⟨D3, t3⟩ := t3 0 i (by decide) hi; exact blk_ne tc t3 (by decide) e1
   refine ⟨C', hm.blk c1.1 hr, c1.2.1, fun i hi => ?_⟩
   obtain ⟨D, d1, d2⟩ := c1.2.2 i hi
   refine ⟨D, hm.blk d1 ?_, d2⟩
   rintro (e1 | e1 | ⟨j, hj, e1⟩)
   ·exact blk_ne d1 t1 (by decide) e1
   ·exact blk_ne d1 t0 (by decide) e1
   ·exact h.2.2.2.2.2 c i 0 j hc hi (by decide) hj (.inl e) e1
 ·by_cases e : c = 0
  ·simp only [if_pos e]; exact a2 i j hi hj
  ·simp only [if_neg e]; exact hG c i j hc hi hj
end Go.Proofs.Ytffalemndjampaa
end
section
set_option linter.unusedVariables false
set_option linter.unusedSimpArgs false
namespace Go.Proofs.Ytffalemndjampaa
open Go.RowKit Go.Proofs.YtffalemndjampaaW.PrintWords Go.Proofs.YtffalemndjampaaW.PrintLast
def hdrC : List Hd → List Value
 | [] => []
 | h :: r => (hdC h).toList ++ hdrC r
theorem hdrC_len (l : List Hd) : (hdrC l).length = l.length * 7 := by
 induction l with
 | nil => rfl
 | cons h r ih => simp only [hdrC, List.length_append, ih, List.length_cons]; simp [hdC]; omega
theorem hdrC_app (a b : List Hd) : hdrC (a ++ b) = hdrC a ++ hdrC b := by
 induction a with
 | nil => rfl
 | cons h r ih => simp only [List.cons_append, hdrC, ih, List.append_assoc]
theorem hdrC_at : ∀ (l : List Hd) (p : Nat) (h : Hd), l[p]? = some h → ∀ j, j < 7 → (hdrC l)[p * 7 + j]? = (hdC h)[j]? := by
 intro l
 induction l with
 | nil => intro p h hp; simp at hp
 | cons y r ih =>
  intro p h hp j hj
  have hl : (hdC y).toList.length = 7 := rfl
  cases p with
  | zero =>
   simp only [List.getElem?_cons_zero, Option.some.injEq] at hp
   subst hp
   simp only [hdrC, Nat.zero_mul, Nat.zero_add]
   rw [List.getElem?_append_left (by rw [hl]; exact hj), Array.getElem?_toList]
  | succ p =>
   simp only [hdrC]
   rw [List.getElem?_append_right (by rw [hl]; omega), hl, show (p + 1) * 7 + j - 7 = p * 7 + j by omega]
   exact ih p h (by simpa using hp) j hj
def okL (ar : Ar) (vp : Nat) (H : Nat → Prop) (k : Nat) : Prop := ¬ ar.M k ∧ k ≠ vp ∧ ¬ H k
theorem VolR.nx {w : World} {vp p x : Nat} {N : Nat → Prop} {T : Tb} (h : VolR w vp p N T) (hx : w.heap.size ≤ x) : VolR w vp p (fun k => N k ∧ k ≠ x) T := by
 obtain ⟨PA, pc, SA, sc, h1, PA', pc', SA', sc', e, a1, a2, a3, a4, a5, a6, a7⟩ := h
 refine ⟨PA, pc, SA, sc, h1, PA', pc', SA', sc', e, a1, a2, a3, a4, a5, ⟨a6, ?_⟩, fun y hy hp => ⟨a7 y hy hp, ?_⟩⟩
 ·have := reads_lt a4 (by decide) PA' rfl; omega
 ·have := reads_lt a5 hp y hy; omega
theorem VolR.nmono {w : World} {vp p : Nat} {N N' : Nat → Prop} {T : Tb} (h : VolR w vp p N T) (hN : ∀ k, N k → N' k) : VolR w vp p N' T := by
 obtain ⟨PA, pc, SA, sc, h1, h2⟩ := h
 exact ⟨PA, pc, SA, sc, h1, h2.mono hN⟩
structure RowSt (w : World) (ar : Ar) (vp gh gl : Nat) (B : Nat) (H : Nat → Prop) (s : St) (T : Tb) (held : Nat → List Hd) (hv : Nat → Value) (last : Hd) : Prop where
 fix : ar.Fix
 arr : Arr w ar (okL ar vp H) s
 vol : VolR w vp ar.p (okL ar vp H) T
 vout : ar.Out (okL ar vp H) vp
 vlt : vp < w.heap.size
 hlt : ∀ k, H k → k < w.heap.size
 hout : ∀ k, H k → ar.Out (okL ar vp H) k ∧ k ≠ vp
 e_lt : ∀ x, ar.EA = some x → x.block < w.heap.size
 hg : H gh ∧ H gl ∧ gh ≠ gl
 cgh : w.heap[gh]? = some (.cells #[hv 0, hv 1, hv 2, hv 3, hv 4, hv 5] 63 (0, 0))
 cgl : w.heap[gl]? = some (.cells (hdC last) 65 (0, 0))
 rows : ∀ b, b < 6 → w.ownsRow B 65 7 (hv b) (held b).length (hdrC (held b)) ∧ (∀ k, (hv b).ownBlock = some k → H k ∧ k ≠ gl)
 apart : ∀ b c, b < 6 → c < 6 → b ≠ c → ∀ k, (hv b).ownBlock = some k → (hv c).ownBlock ≠ some k
theorem RowSt.env {w : World} {ar : Ar} {vp gh gl B : Nat} {H : Nat → Prop} {s : St} {T : Tb} {held : Nat → List Hd} {hv : Nat → Value} {last : Hd} (h : RowSt w ar vp gh gl B H s T held hv last) : Env w ar (okL ar vp H) (okL ar vp H) vp := by
 have hn : ∀ k, w.heap.size ≤ k → okL ar vp H k := fun k hk => ⟨fun hM => by have := h.arr.M_lt hM; omega, by have := h.vlt; omega, fun hH => by have := h.hlt k hH; omega⟩
 exact ⟨h.fix, fun k hk => hk.1, hn, fun k hk => hk.1, fun k hk => hk.2.1, hn, h.vout, h.e_lt, fun x hx hp => reads_lt h.arr.2.2.2.2.1 hp x hx⟩
theorem h_noM {w : World} {ar : Ar} {vp gh gl B : Nat} {H : Nat → Prop} {s : St} {T : Tb} {held : Nat → List Hd} {hv : Nat → Value} {last : Hd} (h : RowSt w ar vp gh gl B H s T held hv last) {k : Nat} (hk : H k) : ¬ (ar.M k ∨ k = vp) := fun e => by
 rcases e with e | e
 ·exact (h.hout k hk).1.1 e
 ·exact (h.hout k hk).2 e
theorem RowSt.step {w w' : World} {ar : Ar} {vp gh gl B : Nat} {H : Nat → Prop} {s s' : St} {T T' : Tb} {held : Nat → List Hd} {hv : Nat → Value} {last : Hd} (h : RowSt w ar vp gh gl B H s T held hv last) (hA : Arr w' ar (okL ar vp H) s') (hV : VolR w' vp ar.p (okL ar vp H) T') (hm : Mods (fun k => ar.M k ∨ k = vp) w w') : RowSt w' ar vp gh gl B H s' T' held hv last :=
 ⟨h.fix, hA, hV, h.vout, Nat.lt_of_lt_of_le h.vlt hm.size, fun k hk => Nat.lt_of_lt_of_le (h.hlt k hk) hm.size, h.hout, fun x hx => Nat.lt_of_lt_of_le (h.e_lt x hx) hm.size, h.hg, hm.blk h.cgh (h_noM h h.hg.1), hm.blk h.cgl (h_noM h h.hg.2.1), fun b hb => ⟨own_mods (h.rows b hb).1 hm (fun k hk => h_noM h ((h.rows b hb).2 k hk).1), (h.rows b hb).2⟩, h.apart⟩
theorem RowSt.below {w w' : World} {ar : Ar} {vp gh gl B : Nat} {H : Nat → Prop} {s : St} {T : Tb} {held : Nat → List Hd} {hv : Nat → Value} {last : Hd} (h : RowSt w ar vp gh gl B H s T held hv last) (hb : Below w.heap.size w w') : RowSt w' ar vp gh gl B H s T held hv last :=
 h.step (h.arr.below hb) (h.vol.below hb) (Mods.of_below hb)
theorem RowSt.own {w w' : World} {ar : Ar} {vp gh gl B : Nat} {H : Nat → Prop} {s : St} {T : Tb} {held held' : Nat → List Hd} {hv hv' : Nat → Value} {last last' : Hd} (h : RowSt w ar vp gh gl B H s T held hv last) (hm : Mods H w w') (hgh : w'.heap[gh]? = some (.cells #[hv' 0, hv' 1, hv' 2, hv' 3, hv' 4, hv' 5] 63 (0, 0))) (hgl : w'.heap[gl]? = some (.cells (hdC last') 65 (0, 0)))
  (hr : ∀ b, b < 6 → w'.ownsRow B 65 7 (hv' b) (held' b).length (hdrC (held' b)) ∧ (∀ k, (hv' b).ownBlock = some k → H k ∧ k ≠ gl)) (ha : ∀ b c, b < 6 → c < 6 → b ≠ c → ∀ k, (hv' b).ownBlock = some k → (hv' c).ownBlock ≠ some k) : RowSt w' ar vp gh gl B H s T held' hv' last' :=
 ⟨h.fix, h.arr.mods hm (fun k hk => (h.hout k hk).1), h.vol.mods hm (fun hk => (h.hout vp hk).2 rfl) (fun k hk hH => hk.2.2 hH), h.vout, Nat.lt_of_lt_of_le h.vlt hm.size, fun k hk => Nat.lt_of_lt_of_le (h.hlt k hk) hm.size, h.hout, fun x hx => Nat.lt_of_lt_of_le (h.e_lt x hx) hm.size, h.hg, hgh, hgl, hr, ha⟩
theorem RowSt.ownx {w w' : World} {ar : Ar} {vp gh gl B x : Nat} {H : Nat → Prop} {s : St} {T : Tb} {held held' : Nat → List Hd} {hv hv' : Nat → Value} {last last' : Hd} (h : RowSt w ar vp gh gl B H s T held hv last) (hm : Mods H w w') (hx : w.heap.size ≤ x) (hx2 : x < w'.heap.size) (hgh : w'.heap[gh]? = some (.cells #[hv' 0, hv' 1, hv' 2, hv' 3, hv' 4, hv' 5] 63 (0, 0))) (hgl : w'.heap[gl]? = some (.cells (hdC last') 65 (0, 0)))
  (hr : ∀ b, b < 6 → w'.ownsRow B 65 7 (hv' b) (held' b).length (hdrC (held' b)) ∧ (∀ k, (hv' b).ownBlock = some k → (H k ∨ k = x) ∧ k ≠ gl)) (ha : ∀ b c, b < 6 → c < 6 → b ≠ c → ∀ k, (hv' b).ownBlock = some k → (hv' c).ownBlock ≠ some k) : RowSt w' ar vp gh gl B (fun k => H k ∨ k = x) s T held' hv' last' := by
 have hi : ∀ k, okL ar vp H k ∧ k ≠ x → okL ar vp (fun k => H k ∨ k = x) k := fun k hk => ⟨hk.1.1, hk.1.2.1, fun e => by
  rcases e with e | e
  ·exact hk.1.2.2 e
  ·exact hk.2 e⟩
 have hj : ∀ k, okL ar vp (fun k => H k ∨ k = x) k → okL ar vp H k := fun k hk => ⟨hk.1, hk.2.1, fun e => hk.2.2 (.inl e)⟩
 have ho : ∀ k, ar.Out (okL ar vp H) k → ar.Out (okL ar vp (fun k => H k ∨ k = x)) k := fun k hk => ⟨hk.1, hk.2.1, hk.2.2.1, hk.2.2.2.1, hk.2.2.2.2.1, fun e => hk.2.2.2.2.2 (hj k e)⟩
 have ho2 : ∀ k, ar.Out (okL ar vp H) k → ar.Out (fun k => okL ar vp H k ∧ k ≠ x) k := fun k hk => ⟨hk.1, hk.2.1, hk.2.2.1, hk.2.2.2.1, hk.2.2.2.2.1, fun e => hk.2.2.2.2.2 e.1⟩
 have hxo := h.arr.outx h.env hx
 refine ⟨h.fix, ((h.arr.okx hx).mods hm (fun k hk => ho2 k (h.hout k hk).1)).okmono hi, ((h.vol.nx hx).mods hm (fun hk => (h.hout vp hk).2 rfl) (fun k hk hH => hk.1.2.2 hH)).nmono hi, ho _ h.vout, Nat.lt_of_lt_of_le h.vlt hm.size, fun k hk => ?_, fun k hk => ?_, fun x hx => Nat.lt_of_lt_of_le (h.e_lt x hx) hm.size, ⟨.inl h.hg.1, .inl h.hg.2.1, h.hg.2.2⟩, hgh, hgl, hr, ha⟩
 ·rcases hk with hk | rfl
  ·exact Nat.lt_of_lt_of_le (h.hlt k hk) hm.size
  ·exact hx2
 ·rcases hk with hk | rfl
  ·exact ⟨ho _ (h.hout k hk).1, (h.hout k hk).2⟩
  ·exact ⟨⟨hxo.1, hxo.2.1, hxo.2.2.1, hxo.2.2.2.1, hxo.2.2.2.2.1, fun e => e.2.2 (.inr rfl)⟩, by have := h.vlt; omega⟩
theorem hv_upd {hv : Nat → Value} {b : Nat} (hb : b < 6) (v : Value) : (#[hv 0, hv 1, hv 2, hv 3, hv 4, hv 5] : Array Value).setIfInBounds b v = #[upd hv b v 0, upd hv b v 1, upd hv b v 2, upd hv b v 3, upd hv b v 4, upd hv b v 5] := by
 match b, hb with
 | 0, _ => simp [upd]
 | 1, _ => simp [upd]
 | 2, _ => simp [upd]
 | 3, _ => simp [upd]
 | 4, _ => simp [upd]
 | 5, _ => simp [upd]
theorem RowSt.cell {w : World} {ar : Ar} {vp gh gl B : Nat} {H : Nat → Prop} {s : St} {T : Tb} {held : Nat → List Hd} {hv : Nat → Value} {last : Hd} (h : RowSt w ar vp gh gl B H s T held hv last) {b : Nat} (hb : b < 6) : ∃ A c, hv b = .slice A (held b).length c ∧ w.cell? ⟨gh, b, none⟩ = some (.slice A (held b).length c) := by
 obtain ⟨A, c, e⟩ := own_sln (h.rows b hb).1
 refine ⟨A, c, e, (blk_cell h.cgh b).trans ?_⟩
 rw [← e]
 match b, hb with
 | 0, _ => rfl
 | 1, _ => rfl
 | 2, _ => rfl
 | 3, _ => rfl
 | 4, _ => rfl
 | 5, _ => rfl
theorem RowSt.setLast {w w' : World} {ar : Ar} {vp gh gl B : Nat} {H : Nat → Prop} {s : St} {T : Tb} {held : Nat → List Hd} {hv : Nat → Value} {last : Hd} (h : RowSt w ar vp gh gl B H s T held hv last) (last' : Hd) (hm : Mods (· = gl) w w') (hgl : w'.heap[gl]? = some (.cells (hdC last') 65 (0, 0))) : RowSt w' ar vp gh gl B H s T held hv last' :=
 h.own (hm.mono (fun k hk => by rw [hk]; exact h.hg.2.1)) (hm.blk h.cgh h.hg.2.2) hgl (fun b hb => ⟨own_mods (h.rows b hb).1 hm (fun k hk e => ((h.rows b hb).2 k hk).2 e), (h.rows b hb).2⟩) h.apart
theorem RowSt.setNil {w : World} {ar : Ar} {vp gh gl B : Nat} {H : Nat → Prop} {s : St} {T : Tb} {held : Nat → List Hd} {hv : Nat → Value} {last : Hd} (h : RowSt w ar vp gh gl B H s T held hv last) {b : Nat} (hb : b < 6) : RowSt (w.setCell ⟨gh, b, none⟩ (.slice none 0 0)) ar vp gh gl B H s T (upd held b []) (upd hv b (.slice none 0 0)) last := by
 have hm : Mods (· = gh) w (w.setCell ⟨gh, b, none⟩ (.slice none 0 0)) := (Mods.refl (fun k => k = gh) w).at_ (.inl rfl) b _
 have hne : ∀ c, c < 6 → ∀ k, (hv c).ownBlock = some k → ¬ k = gh := fun c hc k hk e => by
  have := own_ne (h.rows c hc).1 h.cgh (by decide)
  rw [hk, e] at this; exact this rfl
 refine h.own (hm.mono (fun k hk => by rw [hk]; exact h.hg.1)) ?_ (hm.blk h.cgl (Ne.symm h.hg.2.2)) (fun c hc => ?_) (fun c d hc hd hcd k hk => ?_)
 ·rw [← hv_upd hb]; exact blk_set h.cgh b _
 ·by_cases e : c = b
  ·subst e; rw [upd_same, upd_same]; exact ⟨own_nil _ _ _ _, fun k hk => by simp [Value.ownBlock] at hk⟩
  ·rw [upd_other _ _ _ _ e, upd_other _ _ _ _ e]; exact ⟨own_mods (h.rows c hc).1 hm (hne c hc), (h.rows c hc).2⟩
 ·by_cases e : c = b
  ·subst e; rw [upd_same] at hk; simp [Value.ownBlock] at hk
  ·rw [upd_other _ _ _ _ e] at hk
   by_cases e2 : d = b
   ·subst e2; rw [upd_same]; simp [Value.ownBlock]
   ·rw [upd_other _ _ _ _ e2]; exact h.apart c d hc hd hcd k hk
theorem RowSt.app {w w1 : World} {ar : Ar} {vp gh gl B : Nat} {H : Nat → Prop} {s : St} {T : Tb} {held : Nat → List Hd} {hv : Nat → Value} {last : Hd} (h : RowSt w ar vp gh gl B H s T held hv last) {b : Nat} (hb : b < 6) {v : Value} (hd : Hd) (ho : w1.ownsRow B 65 7 v ((held b).length + 1) (hdrC (held b) ++ (hdC hd).toList)) (hg : w.grownBy w1 (hv b).ownBlock) (hat : v.ownBlock = (hv b).ownBlock ∨ ∃ k, v.ownBlock = some k ∧ w.heap.size ≤ k) :
  ∃ H', RowSt (w1.setCell ⟨gh, b, none⟩ v) ar vp gh gl B H' s T (upd held b (held b ++ [hd])) (upd hv b v) last := by
 have hm1 : Mods (fun k => (hv b).ownBlock = some k) w w1 := (Mods.refl _ w).grown_ hg (fun k e => .inl e)
 have hneg : ∀ c, c < 6 → ∀ k, (hv c).ownBlock = some k → ¬ k = gh := fun c hc k hk e => by
  have := own_ne (h.rows c hc).1 h.cgh (by decide)
  rw [hk, e] at this; exact this rfl
 have hgh1 : w1.heap[gh]? = _ := hm1.blk h.cgh (fun e => hneg b hb gh e rfl)
 have hgl1 : w1.heap[gl]? = _ := hm1.blk h.cgl (fun e => ((h.rows b hb).2 gl e).2 rfl)
 have hm2 : Mods (fun k => (hv b).ownBlock = some k ∨ k = gh) w (w1.setCell ⟨gh, b, none⟩ v) := (hm1.mono (fun k hk => .inl hk)).at_ (.inl (.inr rfl)) b _
 have hmH : Mods H w (w1.setCell ⟨gh, b, none⟩ v) := hm2.mono (fun k hk => by
  rcases hk with hk | rfl
  ·exact ((h.rows b hb).2 k hk).1
  ·exact h.hg.1)
 have hgh2 : (w1.setCell ⟨gh, b, none⟩ v).heap[gh]? = some (.cells #[upd hv b v 0, upd hv b v 1, upd hv b v 2, upd hv b v 3, upd hv b v 4, upd hv b v 5] 63 (0, 0)) := by
  rw [← hv_upd hb]; exact blk_set hgh1 b _
 have hgl2 : (w1.setCell ⟨gh, b, none⟩ v).heap[gl]? = some (.cells (hdC last) 65 (0, 0)) := blk_far hgl1 (p := ⟨gh, b, none⟩) (Ne.symm h.hg.2.2) v
 have hov : (w1.setCell ⟨gh, b, none⟩ v).ownsRow B 65 7 v (held b ++ [hd]).length (hdrC (held b ++ [hd])) := by
  rw [hdrC_app, show (held b ++ [hd]).length = (held b).length + 1 by simp, show hdrC [hd] = (hdC hd).toList from List.append_nil _]
  exact own_setCell ho (p := ⟨gh, b, none⟩) (own_ne ho hgh1 (by decide)) v
 have hrow : ∀ c, c < 6 → c ≠ b → (w1.setCell ⟨gh, b, none⟩ v).ownsRow B 65 7 (hv c) (held c).length (hdrC (held c)) := fun c hc hcb => own_mods (h.rows c hc).1 hm2 (fun k hk e => by
  rcases e with e | e
  ·exact h.apart c b hc hb hcb k hk e
  ·exact hneg c hc k hk e)
 rcases hat with hat | ⟨x, hx, hx2⟩
 ·refine ⟨H, h.own hmH hgh2 hgl2 (fun c hc => ?_) (fun c d hc hd' hcd k hk => ?_)⟩
  ·by_cases e : c = b
   ·subst e; rw [upd_same, upd_same]; exact ⟨hov, fun k hk => (h.rows c hc).2 k (hat ▸ hk)⟩
   ·rw [upd_other _ _ _ _ e, upd_other _ _ _ _ e]; exact ⟨hrow c hc e, (h.rows c hc).2⟩
  ·by_cases e : c = b
   ·subst e
    rw [upd_same, hat] at hk
    rw [upd_other _ _ _ _ (Ne.symm hcd)]
    exact h.apart c d hc hd' hcd k hk
   ·rw [upd_other _ _ _ _ e] at hk
    by_cases e2 : d = b
    ·subst e2; rw [upd_same, hat]; exact h.apart c d hc hd' hcd k hk
    ·rw [upd_other _ _ _ _ e2]; exact h.apart c d hc hd' hcd k hk
 ·have hxlt : x < (w1.setCell ⟨gh, b, none⟩ v).heap.size := by
   rcases ho.2 with ⟨-, h0⟩ | ⟨g, cap, cur, e, -, hh, -⟩
   ·omega
   ·rw [e] at hx
    simp only [Value.ownBlock, Option.some.injEq] at hx
    have := blk_lt hh
    simp only [World.setCell, Array.size_modify]; omega
  have hlt' : ∀ c, c < 6 → ∀ k, (hv c).ownBlock = some k → k ≠ x := fun c hc k hk e => by
   have := h.hlt k ((h.rows c hc).2 k hk).1; omega
  refine ⟨fun k => H k ∨ k = x, h.ownx hmH hx2 hxlt hgh2 hgl2 (fun c hc => ?_) (fun c d hc hd' hcd k hk => ?_)⟩
  ·by_cases e : c = b
   ·subst e; rw [upd_same, upd_same]
    refine ⟨hov, fun k hk => ?_⟩
    have e1 : k = x := Option.some.inj (hk.symm.trans hx)
    refine ⟨.inr e1, fun e2 => ?_⟩
    have := h.hlt gl h.hg.2.1; omega
   ·rw [upd_other _ _ _ _ e, upd_other _ _ _ _ e]; exact ⟨hrow c hc e, fun k hk => ⟨.inl ((h.rows c hc).2 k hk).1, ((h.rows c hc).2 k hk).2⟩⟩
  ·by_cases e : c = b
   ·subst e
    rw [upd_same] at hk
    have e1 : k = x := Option.some.inj (hk.symm.trans hx)
    rw [upd_other _ _ _ _ (Ne.symm hcd)]
    intro e2
    exact hlt' d hd' k e2 e1
   ·rw [upd_other _ _ _ _ e] at hk
    by_cases e2 : d = b
    ·subst e2; rw [upd_same, hx]
     intro e3
     exact hlt' c hc k hk (Option.some.inj e3).symm
    ·rw [upd_other _ _ _ _ e2]; exact h.apart c d hc hd' hcd k hk
end Go.Proofs.Ytffalemndjampaa
end
section
set_option linter.unusedVariables false
set_option linter.unusedSimpArgs false
namespace Go.Proofs.Ytffalemndjampaa
open Go.RowKit Go.Proofs.YtffalemndjampaaW.PrintWords Go.Proofs.YtffalemndjampaaW.PrintLast
theorem pick_any (n b : Int) (w : World) (h0 : 0 < b) (h1 : b < 1000) : Calls Try.prog 15 #[.int .i64 n, .int .i64 b] w fun e w' => ∃ r, e = .returned (.int .i64 r) ∧ 0 ≤ r ∧ r < b ∧ w' = w := by
 have hn : 0 ≤ IntKind.u64.wrap n := by rw [IntKind.wrap_u64]; omega
 have hb : IntKind.u64.wrap b = b := by rw [IntKind.wrap_u64]; omega
 obtain ⟨u, hu⟩ : ∃ u, IntKind.u64.wrap n = u := ⟨_, rfl⟩
 rw [hu] at hn
 have h3 : Int.tmod u b = u % b := Int.tmod_eq_emod_of_nonneg hn
 have h4 := Int.emod_nonneg u (show b ≠ 0 by omega)
 have h5 := Int.emod_lt_of_pos u h0
 obtain ⟨r, hr⟩ : ∃ r, u % b = r := ⟨_, rfl⟩
 rw [hr] at h3 h4 h5
 have h6 : ¬ b = 0 := by omega
 clear hr
 go_enter Try.func15, Try.ntmps15
 go_wp2_with fail
 go_ret
 exact ⟨r, rfl, h4, h5, rfl⟩
def RdW (w : World) (A : Option Addr) (l : List (Int × Bool × Int)) : Prop := ∀ i x, l[i]? = some x → ∃ ad, A = some ad ∧ w.cell? (ad.add (i * 3)) = some (.int .i64 x.1) ∧ w.cell? ⟨(ad.add (i * 3)).block, (ad.add (i * 3)).off + 1, none⟩ = some (.bool x.2.1) ∧ w.cell? ⟨(ad.add (i * 3)).block, (ad.add (i * 3)).off + 2, none⟩ = some (.int .u8 x.2.2) ∧ 0 ≤ x.2.2 ∧ x.2.2 < 256
theorem new_arr {w1 : World} {L : Lay} (h : WArr w1 L (.slice none 0 0) 0 false F0 G0) (ok : Nat → Prop) : Arr w1 (L.ar none 0 0 none 0 0 [] []) ok (blankS 0) ∧ (L.ar none 0 0 none 0 0 [] []).Fix := by
 have hS : ChipS w1 (fun _ => False) (F0 0) (G0 0) (blankS 0).bl := fun i hi => ⟨rfl, rfl, fun p hp => ⟨rfl, rfl⟩⟩
 exact ⟨h.arr (ok' := ok) hS (Below.refl _ _) (fun k hk => hk.elim) ⟨rfl, fun hn => absurd hn (by decide)⟩ ⟨rfl, by decide, fun hn => absurd hn (by decide)⟩, h.fix (fun x hx => by simp at hx) (by decide) (by decide) (fun x hx => by simp at hx) (fun x hx => by cases hx) (fun x hx => by cases hx)⟩
def CopyL (w : World) (s : St) (n : Nat) (LA : Option Addr) (ln lc : Nat) (evs : List Ev0) (lf : List Int) (e : Ending) (w' : World) : Prop :=
 ∃ (L : Lay) (E2 : Option Addr) (cE : Nat) (F : Nat → Nat → Int × Int × Bool) (G : Nat → Nat → Nat → Value), e = .returned (.pointer (some ⟨L.p, 0, none⟩)) ∧ Below w.heap.size w w' ∧ WArr w' L (.slice E2 n cE) 0 s.off F G ∧ (∀ c i j, c < 4 → i < 16 → j < 12 → (G c i j).oneCell' = true) ∧
  Arr w' (L.ar E2 n cE LA ln lc evs lf) (fun k => k < w.heap.size) ⟨s.bl, 0, s.off⟩ ∧ (L.ar E2 n cE LA ln lc evs lf).Fix ∧ (∀ k, (L.ar E2 n cE LA ln lc evs lf).M k → w.heap.size ≤ k) ∧ ∀ x, E2 = some x → x.block < w'.heap.size
theorem copy_law {w1 w2 : World} {L : Lay} {EA0 LA0 EA LA : Option Addr} {n0 ec0 ln0 lc0 n ec ln lc : Nat} {evs0 evs : List Ev0} {lf0 lf : List Int} {ops : Int} {off : Bool} {F : Nat → Nat → Int × Int × Bool} {G : Nat → Nat → Nat → Value} {ok : Nat → Prop} {s : St} (h : WArr w1 L (.slice EA0 n0 ec0) ops off F G) (hG : ∀ c i j, c < 4 → i < 16 → j < 12 → (G c i j).oneCell' = true) (hA : Arr w2 (L.ar EA0 n0 ec0 LA0 ln0 lc0 evs0 lf0) ok s) (hm : Mods (L.ar EA0 n0 ec0 LA0 ln0 lc0 evs0 lf0).M w1 w2)
  (he : EvR w2 EA n (.slice LA ln lc) evs) (h0 : n = 0 → EA = none ∧ ec = 0) (hn : n ≤ 1000) (hl : ReadsInt w2 .u8 LA ln lf) (hln : ln ≤ 1000) (hb : Byt lf) (hev : EvOk evs) :
  Calls Try.prog 20 #[.pointer (some ⟨L.p, 0, none⟩), .slice EA n ec] w2 (CopyL w2 s n LA ln lc evs lf) := by
 obtain ⟨F', G', s1, s2, s3, s4, s5⟩ := h.src hG hA.oklt hm
 refine (copy_any L.p L.q L.qc L.dq L.dc n ec (.slice EA0 n0 ec0) s.ops s.off L.r L.rc L.pr L.pc F' G' EA LA ln lc evs w2 hA.1 s1 s2 s3 s4 he h0 hn).mono ?_
 rintro e w3 ⟨L', E2, cE, rfl, hB, hW, hN, hE, hE0, hE2⟩
 have hl3 := hl.below hB
 have hMN : ∀ k, (L'.ar E2 n cE LA ln lc evs lf).M k → w2.heap.size ≤ k := fun k hk => by
  rcases hk with rfl | rfl | ⟨i, hi, rfl⟩
  ·exact hN.1
  ·exact (hN.2.2.2 0 (by decide)).1
  ·exact (hN.2.2.2 0 (by decide)).2 i hi
 refine ⟨L', E2, cE, F', G', rfl, hB, hW, s4, hW.arr s5 hB (fun k hk => hk.2) hE hl3, hW.fix hev hn hln hb (fun x hx => (hE2 x hx).2) (fun x hx hp hM => ?_), hMN, fun x hx => ?_⟩
 ·have h1 := reads_lt hl hp x hx
  have h2 := hMN _ hM
  omega
 ·obtain ⟨D, hD⟩ := (hE2 x hx).2
  exact blk_lt hD
theorem early {ar : Ar} {bl : Nat → Bk} (h : ∀ x ∈ ar.evs, 90 ≤ x.1) {j : Nat} (hj : j < 64) : ((⟨bl, 0, false⟩ : St).tick j).kind ar ≠ 2 := by
 have hn : evFind ar.evs (((⟨bl, 0, false⟩ : St).tick j).ops + 1) = none := by
  rw [evFind, List.find?_eq_none]
  intro x hx hp
  simp only [St.tick, Bool.and_eq_true, beq_iff_eq, decide_eq_true_eq] at hp
  have := h x hx
  omega
 rw [kind_none hn]; decide
theorem saveGo_ops (ar : Ar) : ∀ (n : Nat) (s : St) (T : Tb), s.ops ≤ (saveGo ar n s T).1.ops ∧ (saveGo ar n s T).1.ops ≤ s.ops + 2 * (n : Int) + 2 := by
 intro n
 induction n with
 | zero => intro s T; have h := layS_ops ar s T.tab T; rw [saveGo]; simp only; omega
 | succ n ih =>
  intro s T
  have h := layS_ops ar s T.tab T
  rw [saveGo]
  split
  ·have h2 := ih (layS ar s T.tab T).1 T.takeT; omega
  ·simp only; omega
theorem saveS_ops (ar : Ar) (s : St) (T : Tb) : s.ops ≤ (saveS ar s T).1.ops ∧ (saveS ar s T).1.ops ≤ s.ops + 2 * (T.spare.length : Int) + 2 := saveGo_ops ar T.spare.length s T.up
theorem takeV_len (T : Tb) (v : Nat) : (T.takeV v).spare.length ≤ T.spare.length := by unfold Tb.takeV Tb.rest; simp
theorem verGo_ops (ar : Ar) (v : Nat) : ∀ (n : Nat) (s : St) (T : Tb) (e : Int), s.ops ≤ (verGo ar v n s T e).1.ops ∧ (verGo ar v n s T e).1.ops ≤ s.ops + (n : Int) + 2 * (T.spare.length : Int) + 2 := by
 intro n
 induction n with
 | zero => intro s T e; rw [verGo]; simp only; omega
 | succ n ih =>
  intro s T e
  have h := eraseS_ops ar s ((T.takeV v).at v)
  have h2 := saveS_ops ar (eraseS ar s ((T.takeV v).at v)).1 (T.takeV v)
  have h3 := takeV_len T v
  have h4 := ih (eraseS ar s ((T.takeV v).at v)).1 (T.takeV v) (eraseS ar s ((T.takeV v).at v)).2
  rw [verGo]
  split
  ·split <;> omega
  ·simp only; omega
theorem verS_ops (ar : Ar) (s : St) (T : Tb) (v : Nat) : s.ops ≤ (verS ar s T v).1.ops ∧ (verS ar s T v).1.ops ≤ s.ops + 3 * (T.spare.length : Int) + 3 := by
 have h := eraseS_ops ar s (T.at v)
 have h2 := verGo_ops ar v T.spare.length (eraseS ar s (T.at v)).1 T (eraseS ar s (T.at v)).2
 unfold verS; omega
theorem vprGo_ops (ar : Ar) (v p : Nat) (x : List Int × List Int) (hp : p < 6) : ∀ (n : Nat) (s : St) (T : Tb), s.ops ≤ (vprGo ar v p x n s T).1.ops ∧ (vprGo ar v p x n s T).1.ops ≤ s.ops + 12 * (n : Int) + 2 * (T.spare.length : Int) + 2 := by
 intro n
 induction n with
 | zero => intro s T; rw [vprGo]; simp only; omega
 | succ n ih =>
  intro s T
  have h := salS_ops ar s (T.at v) ((T.takeV v).at v) p x
  have h2 := saveS_ops ar (salS ar s (T.at v) ((T.takeV v).at v) p x).1 (T.takeV v)
  have h3 := takeV_len T v
  have h4 := ih (salS ar s (T.at v) ((T.takeV v).at v) p x).1 (T.back v)
  have h5 : (T.back v).spare.length = (T.takeV v).spare.length := rfl
  rw [vprGo]
  split
  ·omega
  ·split
   ·omega
   ·simp only; omega
theorem vprS_ops (ar : Ar) (s : St) (T : Tb) (v p : Nat) (x : List Int × List Int) (hp : p < 6) : s.ops ≤ (vprS ar s T v p x).1.ops ∧ (vprS ar s T v p x).1.ops ≤ s.ops + 14 * (T.spare.length : Int) + 3 := by
 have h := progS_ops ar s (T.at v) p x
 have h2 := vprGo_ops ar v p x hp T.spare.length (progS ar s (T.at v) p x).1 T
 unfold vprS
 split
 ·omega
 ·simp only; omega
theorem rowst_init {w8 w9 : World} {ar : Ar} {vp B7 : Nat} {s8 s : St} {T : Tb} (hf : ar.Fix) (hA8 : Arr w8 ar (fun k => k < B7) s8) (hM : ∀ k, ar.M k → B7 ≤ k) (hB : B7 ≤ w8.heap.size) (hE : ∀ x, ar.EA = some x → x.block < w8.heap.size) (hA9 : Arr w9 ar (fun k => k < B7) s) (hv1 : w8.heap.size ≤ vp) (hv2 : vp < w9.heap.size) (hV : VolR w9 vp ar.p (fun k => w8.heap.size ≤ k ∧ k ≠ vp) T) (h89 : w8.heap.size ≤ w9.heap.size) (C1 : Array Value) (hC1 : C1 = #[.slice none 0 0, .slice none 0 0, .slice none 0 0, .slice none 0 0, .slice none 0 0, .slice none 0 0]) :
  RowSt ((w9.alloc (.cells C1 63)).alloc (.cells (hdC ⟨0, 0, 0, 0, 0, 0, 0⟩) 65)) ar vp w9.heap.size (w9.heap.size + 1) (w9.heap.size + 2) (fun k => k = w9.heap.size ∨ k = w9.heap.size + 1) s T (fun _ => []) (fun _ => .slice none 0 0) ⟨0, 0, 0, 0, 0, 0, 0⟩ := by
 subst hC1
 have hb : Below w9.heap.size w9 ((w9.alloc (.cells #[.slice none 0 0, .slice none 0 0, .slice none 0 0, .slice none 0 0, .slice none 0 0, .slice none 0 0] 63)).alloc (.cells (hdC ⟨0, 0, 0, 0, 0, 0, 0⟩) 65)) := bl_alloc (bl_alloc (Below.refl _ _) _) _
 have hm := fun k hk => hA8.M_lt (k := k) hk
 have hl9 : ∀ x, ar.LA = some x → 0 < ar.ln → x.block < w8.heap.size := fun x hx hp => reads_lt hA8.2.2.2.2.1 hp x hx
 have ho : ∀ x, w8.heap.size ≤ x → ar.Out (fun k => k < B7) x := fun x hx => hA8.outB hE hl9 (fun k hk => Nat.lt_of_lt_of_le hk hB) hx
 have ho2 : ∀ x, w8.heap.size ≤ x → ¬ okL ar vp (fun k => k = w9.heap.size ∨ k = w9.heap.size + 1) x → ar.Out (okL ar vp (fun k => k = w9.heap.size ∨ k = w9.heap.size + 1)) x := fun x hx hn => by
  have h_ := ho x hx
  exact ⟨h_.1, h_.2.1, h_.2.2.1, h_.2.2.2.1, h_.2.2.2.2.1, hn⟩
 refine ⟨hf, (hA9.below hb).okmono (fun k hk => ⟨fun hM' => by have := hM k hM'; omega, by omega, fun e => by rcases e with e | e <;> omega⟩), (((hV.nx (Nat.le_refl _)).nx (x := w9.heap.size + 1) (by omega)).below hb).nmono (fun k hk => ⟨fun hM' => by have := hm k hM'; omega, hk.1.1.2, fun e => by
  rcases e with e | e
  ·exact hk.1.2 e
  ·exact hk.2 e⟩), ho2 vp hv1 (fun h => h.2.1 rfl), by simp; omega, fun k hk => by
  simp only [World.size_alloc]
  rcases hk with rfl | rfl <;> omega, fun k hk => ⟨ho2 k (by rcases hk with rfl | rfl <;> omega) (fun h => h.2.2 hk), by rcases hk with rfl | rfl <;> omega⟩, fun x hx => by have := hE x hx; simp; omega, ⟨.inl rfl, .inr rfl, by omega⟩, ?_, ?_, fun b hb => ⟨own_nil _ _ _ _, fun k hk => by simp [Value.ownBlock] at hk⟩, fun b c _ _ _ k hk => by simp [Value.ownBlock] at hk⟩
 ·exact blk_alloc (heap_alloc_new w9 _) _
 ·have h2 := heap_alloc_new (w9.alloc (.cells #[.slice none 0 0, .slice none 0 0, .slice none 0 0, .slice none 0 0, .slice none 0 0, .slice none 0 0] 63)) (.cells (hdC ⟨0, 0, 0, 0, 0, 0, 0⟩) 65)
  rw [World.size_alloc] at h2
  exact h2
def datH (k b n : Nat) : Hd := ⟨4, k, 0, n, 0, b, 0⟩
theorem datH_ok {k b n : Nat} (hk : k ≤ 60) (hb : b < 6) (hn : n ≤ 6) : (datH k b n).ok := by
 constructor <;> simp only [datH] <;> omega
def filB (c : Int) (j : Nat) : Int := (c + j) % 256
def fillL (c : Int) (j : Nat) : List Int := (List.range j).map (filB c) ++ List.replicate (256 - j) 0
theorem fillL_set (c : Int) (j : Nat) (hj : j < 256) : (fillL c j).set j (filB c j) = fillL c (j + 1) := by
 have h1 : 256 - j = (256 - (j + 1)) + 1 := by omega
 rw [fillL, fillL, h1, List.replicate_succ, List.range_succ, List.map_append, List.append_assoc]
 rw [List.set_append]
 simp
theorem fillL_byt (c : Int) (j : Nat) : Byt (fillL c j) := fun x hx => by
 rcases List.mem_append.1 hx with h | h
 ·obtain ⟨i, -, rfl⟩ := List.mem_map.1 h
  unfold filB; omega
 ·have := List.eq_of_mem_replicate h; omega
theorem dat_pg {k b n : Nat} (d : List Int) (hk : k ≤ 60) (hb : b < 6) (hn : n ≤ 6) : PgH (some (d, sealL (datH k b n) d [])) (datH k b n) := by
 have ho := datH_ok hk hb hn
 have h1 : openB d (sealL (datH k b n) d []) = true := by rw [seal_open _ _ ho]; rfl
 exact ⟨_, rfl, h1, by rw [openR_yes h1]; exact seal_head _ _ ho, rfl⟩
theorem infoHdr : (Try.prog.info? 65).map (fun i => (i.zero, i.size, decide (i.bytes ≤ 1000))) = some (some (.agg #[.int .u8 0, .int .u32 0, .int .u32 0, .int .u16 0, .int .u16 0, .int .u32 0, .int .u32 0]), 7, true) := by kernel_rfl
theorem appH {w : World} {base n gx : Nat} {v : Value} {xs : List Value} {h : Hd} (hown : w.ownsRow base 65 7 v n xs) (hx : w.heap[gx]? = some (.cells (hdC h) 65 (0, 0))) (hn : n ≤ 100) (hbase : base ≤ w.heap.size) :
  ∃ A c w', (Builtin.append_ #[62, 62] 62 #[v, .slice (some ⟨gx, 0, none⟩) 1 1]).run Try.prog w = .ok (.slice A (n + 1) c) w' ∧ w'.ownsRow base 65 7 (.slice A (n + 1) c) (n + 1) (xs ++ (hdC h).toList) ∧ w.grownBy w' v.ownBlock ∧ ((Value.slice A (n + 1) c).ownBlock = v.ownBlock ∨ (Value.slice A (n + 1) c).ownBlock = some w.heap.size) := by
 obtain ⟨i0, hi, hzz⟩ := Option.map_eq_some_iff.1 infoHdr
 simp only [Prod.mk.injEq] at hzz
 obtain ⟨hz0, hz1, hz2⟩ := hzz
 have hz2 : i0.bytes ≤ 1000 := of_decide_eq_true hz2
 have hm : (n + 1) * i0.bytes ≤ 101 * 1000 := Nat.mul_le_mul (by omega) hz2
 obtain ⟨v', w', hr, ho, hg, -, hat⟩ := run_append_own_at (P := Try.prog) w base 62 62 65 i0 _ 7 i0.bytes Try.underlying62 hi hz0 hz1 rfl rfl (by decide) v n xs hown ⟨gx, 0, none⟩ 1 1 (hdC h).toList rfl
  (fun j u hu => by rw [add_zero_, blk_cell hx, ← Array.getElem?_toList]; exact hu) (fun u hu => by simp only [hdC, List.mem_cons, List.not_mem_nil, or_false] at hu; rcases hu with rfl | rfl | rfl | rfl | rfl | rfl | rfl <;> rfl) (by simp only [maxLen]; omega) (by omega) hbase
 obtain ⟨A, c, rfl⟩ := own_sln ho
 exact ⟨A, c, w', hr, ho, hg, hat⟩
theorem set7_mods {S : Nat → Prop} {w w1 : World} (h : Mods S w w1) {g : Nat} (hg : S g ∨ w.heap.size ≤ g) (a b c d e f k : Value) : Mods S w (((((((w1.setCell ⟨g, 0, none⟩ a).setCell ⟨g, 1, none⟩ b).setCell ⟨g, 2, none⟩ c).setCell ⟨g, 3, none⟩ d).setCell ⟨g, 4, none⟩ e).setCell ⟨g, 5, none⟩ f).setCell ⟨g, 6, none⟩ k) :=
 ((((((h.at_ hg 0 _).at_ hg 1 _).at_ hg 2 _).at_ hg 3 _).at_ hg 4 _).at_ hg 5 _).at_ hg 6 _
def WK (w w8 : World) (ar : Ar) (w' : World) : Prop := Below w.heap.size w w' ∧ Mods ar.M w8 w'
theorem WK.set {w w8 w' : World} {ar : Ar} (h : WK w w8 ar w') {g : Nat} (h1 : w.heap.size ≤ g) (h2 : w8.heap.size ≤ g) (i : Nat) (v : Value) : WK w w8 ar (w'.setCell ⟨g, i, none⟩ v) := ⟨bl_set h.1 (p := ⟨g, i, none⟩) h1 v, h.2.at_ (.inr h2) i v⟩
theorem WK.vol {w w8 w' w2 : World} {ar : Ar} {vp : Nat} (h : WK w w8 ar w') (hm : Mods (fun k => ar.M k ∨ k = vp) w' w2) (hM : ∀ k, ar.M k → w.heap.size ≤ k) (hv : w8.heap.size ≤ vp) (h8 : w.heap.size ≤ w8.heap.size) : WK w w8 ar w2 :=
 ⟨h.1.trans (hm.below h.1.size (fun i hi => by rcases hi with hi | hi; exact hM i hi; omega)), mods_old h.2 hm (fun k hk hlt => hk.resolve_right (fun e => by omega))⟩
theorem WK.below {w w8 w' w2 : World} {ar : Ar} (h : WK w w8 ar w') (hb : Below w'.heap.size w' w2) : WK w w8 ar w2 := ⟨bl_seq h.1 hb, h.2.trans (Mods.of_below hb)⟩
theorem WK.mods {S : Nat → Prop} {w w8 w' w2 : World} {ar : Ar} (h : WK w w8 ar w') (hm : Mods S w' w2) (h1 : ∀ k, S k → w.heap.size ≤ k) (h2 : ∀ k, S k → w8.heap.size ≤ k) : WK w w8 ar w2 := ⟨h.1.trans (hm.below h.1.size h1), mods_old h.2 hm (fun k hk hlt => absurd hlt (Nat.not_lt.2 (h2 k hk)))⟩
end Go.Proofs.Ytffalemndjampaa
end
