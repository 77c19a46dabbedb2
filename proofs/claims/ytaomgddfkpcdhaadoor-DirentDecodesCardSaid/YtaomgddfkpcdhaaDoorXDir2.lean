-- Printed by a program of this session (xprint.py) over the kit's print, with contracts of its own. Not trusted: Lean checks it.
import Derived.Test.YtaomgddfkpcdhaaDoorXDir0
import Derived.Test.YtaomgddfkpcdhaaDoorXDir1
namespace Go.Proofs.YtaomgddfkpcdhaaDoor.XDir
open Go.RowKit Go.Proofs.YtaomgddfkpcdhaaDoorW.PrintWords Go.Proofs.YtaomgddfkpcdhaaDoorW.PrintLast Go.Proofs.YtaomgddfkpcdhaaDoorW.PrintMore
attribute [local go_sem] max2_int min2_int max_two min_two max_three min_three max_four min_four   -- for this text's walks alone
set_option linter.unusedVariables false
set_option linter.unusedSimpArgs false

/-! ### dirent_Names: function 7 (of this session's own) -/
/-- The names of the entries that hold one, in order. -/
def namesL (l : List S26) : List ByteArray := l.foldl (fun out x => if x.f0 = 0 then out else insS x.f1 out) []
theorem namesL_succ (l : List S26) (j : Nat) (h : j < l.length) : namesL (l.take (j + 1)) = if (rd_T26 l (j : Int)).f0 = 0 then namesL (l.take j) else insS (rd_T26 l (j : Int)).f1 (namesL (l.take j)) := by
  have e : rd_T26 l (j : Int) = l[j] := by simp [rd_T26, List.getD_eq_getElem?_getD, h]
  rw [e, List.take_succ_eq_append_getElem h, namesL, List.foldl_append]
  rfl
theorem namesL_inv {P : List ByteArray → Prop} (h0 : P []) (h1 : ∀ l (x : S26), P l → P (insS x.f1 l)) : ∀ l : List S26, P (namesL l) := by
  intro l
  have h2 : ∀ (l : List S26) out, P out → P (l.foldl (fun out x => if x.f0 = 0 then out else insS x.f1 out) out) := by
    intro l
    induction l with
    | nil => intro out h; exact h
    | cons x l ih =>
      intro out h
      rw [List.foldl_cons]
      apply ih
      split
      · exact h
      · exact h1 _ _ h
  exact h2 l [] h0
theorem namesL_sorted (l : List S26) : SortedS (namesL l) := namesL_inv (P := SortedS) List.Pairwise.nil (fun l x h => insS_sorted x.f1 l h) l
theorem namesL_length (l : List S26) : (namesL l).length ≤ l.length := by
  have h : ∀ (l : List S26) out, (l.foldl (fun out x => if x.f0 = 0 then out else insS x.f1 out) out).length ≤ l.length + out.length := by
    intro l
    induction l with
    | nil => intro out; simp
    | cons x l ih =>
      intro out
      rw [List.foldl_cons, List.length_cons]
      split
      · have h_ := ih out; omega
      · have h_ := ih (insS x.f1 out); rw [insS_length] at h_; omega
  have h_ := h l []
  simpa [namesL] using h_
theorem namesL_mem {Q : ByteArray → Prop} (l : List S26) (h : ∀ x ∈ l, Q x.f1) : ∀ y ∈ namesL l, Q y := by
  have h2 : ∀ (l : List S26) out, (∀ x ∈ l, Q x.f1) → (∀ y ∈ out, Q y) → ∀ y ∈ l.foldl (fun out x => if x.f0 = 0 then out else insS x.f1 out) out, Q y := by
    intro l
    induction l with
    | nil => intro out _ h; exact h
    | cons x l ih =>
      intro out hl h
      rw [List.foldl_cons]
      apply ih _ (fun z hz => hl z (List.mem_cons_of_mem _ hz))
      split
      · exact h
      · intro y hy
        rcases (insS_mem x.f1 y out).1 hy with rfl | hy
        · exact hl x List.mem_cons_self
        · exact h y hy
  exact h2 l [] h (fun y hy => by cases hy)
theorem app_one {w : World} {b d m : Nat} {B : Option Addr} {x : ByteArray} {ys : List ByteArray} (hr : RdS w (some ⟨b, 0, none⟩) 1 [x]) (hy : RdS w B m ys) (hl : m ≤ 1000000) :
    ∃ q c1 w1, (Builtin.append_ #[35, 35] 35 #[.slice (some ⟨b, 0, none⟩) 1 1, .slice B m d]).run Tryd.prog w = .ok (.slice (some ⟨q, 0, none⟩) (1 + m) c1) w1 ∧ Below w.heap.size w w1 ∧ RdS w1 (some ⟨q, 0, none⟩) (1 + m) ([x] ++ ys) := by
  rcases Nat.eq_zero_or_pos m with h0 | h0
  · subst h0
    have hx : ys = [] := List.eq_nil_of_length_eq_zero hy.1
    subst hx
    exact ⟨b, 1, w, app_none (xs := []) (Nat.le_refl _) (.inr (Nat.zero_le _)) (by simp), Below.refl _ _, by simpa using hr⟩
  · obtain ⟨c1, w1, h1, h2, h3, _⟩ := app_grow (c := 1) (d := d) hr hy (by omega) (by omega)
    exact ⟨_, c1, w1, h1, h2, (own_RdS h3).1⟩
/-- What stands in the variable. -/
def OutV (w : World) (base : Nat) (v : Value) (xs : List ByteArray) : Prop := ∃ A n c, v = .slice A n c ∧ w.ownsRow base 9 1 v n (pw_strs xs) ∧ n = xs.length
def dirent_Names.f (l0 : List (S26)) : Option (List ByteArray) := if l0.length ≤ 1000 then (if l0.all (fun x => decide (x.f1.size ≤ 70368744177664)) = true then some (namesL l0) else none) else none
def NamR.T7 : Bool × List (List Nat × List Nat) := (true, [([], []), ([0], [0]), ([1], [1]), ([2], [2]), ([3, 2], [2, 3]), ([2], [2]), ([2], [2]), ([6, 2], [2, 6]), ([5, 7, 2], [2, 5, 7]), ([8, 2], [2, 8]), ([4, 9, 2, 2], [2, 4, 9]), ([2, 10], [2, 10])])
def NamR.B7 : List Nat := [0, 1, 3, 7, 15, 7, 7, 71, 231, 487, 1023, 2047]
theorem NamR.tab7 : rtab .any (opsOf Tryd.f7 7) = NamR.T7 := by kernel_rfl
theorem NamR.bits7 : waitsOk NamR.T7.2 NamR.B7 = true := by kernel_rfl
def NamR.T9 : Bool × List (List Nat × List Nat) := (true, [([], []), ([], []), ([], []), ([0, 1, 2], [0, 1, 2]), ([], []), ([4], [4]), ([5], [5]), ([], []), ([], []), ([7, 8], [7, 8]), ([6, 9], [6, 9]), ([3, 10, 10], [3, 10]), ([11, 11, 0, 1, 2, 3, 4, 5, 6, 7, 8, 9, 10, 11], [0, 7, 11])])
def NamR.B9 : List Nat := [0, 0, 0, 7, 0, 16, 48, 0, 0, 384, 1008, 2047, 4095]
theorem NamR.tab9 : rtab .any (opsOf Tryd.f7 9) = NamR.T9 := by kernel_rfl
theorem NamR.bits9 : waitsOk NamR.T9.2 NamR.B9 = true := by kernel_rfl
set_option maxHeartbeats 8000000 in
set_option maxRecDepth 100000 in
theorem dirent_Names.calls (A0 : Option Addr) (c0 : Nat) (l0 : List (S26)) (r : List ByteArray) (w : World) (hr0 : Kd.C k26 w A0 l0.length l0) (hc0 : l0.length ≤ c0) (h : dirent_Names.f l0 = some r) :
    Calls Tryd.prog 7 #[.slice A0 l0.length c0] w fun e w' => ∃ v0_ : Value, e = .returned (v0_) ∧ Kd.R Kd.string 9 w' w.heap.size (fun _ => True) v0_ r ∧ Below w.heap.size w w' := by
  have hl : l0.length ≤ 1000 := by
    by_cases c : l0.length ≤ 1000
    · exact c
    · simp [dirent_Names.f, c] at h
  have hz : ∀ x ∈ l0, x.f1.size ≤ 70368744177664 := by
    by_cases c : l0.all (fun x => decide (x.f1.size ≤ 70368744177664)) = true
    · intro x hx; simpa using List.all_eq_true.1 c x hx
    · simp only [dirent_Names.f, hl, if_true, c] at h; cases h
  have hr : namesL l0 = r := by
    have c : l0.all (fun x => decide (x.f1.size ≤ 70368744177664)) = true := List.all_eq_true.2 (fun x hx => by simpa using hz x hx)
    simpa only [dirent_Names.f, hl, if_true, c, Option.some.injEq] using h
  have HZ := Lib.hid hz
  have HR := Lib.hid hr
  have HR0 := Lib.hid hr0
  clear h hz hr hr0
  obtain ⟨B0, hB0⟩ : ∃ B0, w.heap.size = B0 := ⟨_, rfl⟩
  go_enter Tryd.func7, Tryd.ntmps7
  go_wp2
  go_loopw [3, 9] (fun v i wr => ∃ j : Nat, j ≤ l0.length ∧ i = .int .i64 (j : Int) ∧ Hid (OutV wr B0 v (namesL (l0.take j))) ∧ Hid (Below w.heap.size w wr)) (fun _ i _ => l0.length - (intOf i).toNat)
  case atStart => exact ⟨0, Nat.zero_le _, rfl, Lib.hid ⟨none, 0, 0, rfl, own_nil _ _ _ _, rfl⟩, Lib.hid (Below.refl _ _)⟩
  case round =>
    obtain ⟨j, hj, rfl, HOV, HBW⟩ := hrel
    obtain ⟨wo, hwo⟩ : ∃ wo, wo = wr := ⟨_, rfl⟩
    subst hwo
    by_cases hlt : j < l0.length
    · have HNX := Lib.hid (namesL_succ l0 j hlt)
      have hx0 : rd_T26 l0 (j : Int) ∈ l0 := by
        have e : rd_T26 l0 (j : Int) = l0[j] := by simp [rd_T26, List.getD_eq_getElem?_getD, hlt]
        rw [e]; exact List.getElem_mem hlt
      have HXZ := Lib.hid (HZ.out _ hx0)
      obtain ⟨ad, hA, hc1, hc2⟩ := at_T26 HR0.out (j : Int) (by omega) (by omega)
      cases hA
      rw [Int.toNat_natCast] at hc1 hc2
      replace hc1 := pw_cell_below HBW.out hc1
      replace hc2 := pw_cell_below HBW.out hc2
      obtain ⟨x0, hx1⟩ : ∃ x0, rd_T26 l0 (j : Int) = x0 := ⟨_, rfl⟩
      rw [hx1] at hc1 hc2 HNX HXZ
      obtain ⟨nd, x⟩ := x0
      simp only at hc1 hc2 HNX HXZ
      clear hx0 hx1
      obtain ⟨A, n, c, rfl, hown, hn⟩ := HOV.out
      have hRd := own_RdS hown
      obtain ⟨xs, hxs⟩ : ∃ xs, namesL (l0.take j) = xs := ⟨_, rfl⟩
      rw [hxs] at hRd hn HNX HOV hown
      have HSRT : Hid (SortedS xs) := Lib.hid (by rw [← hxs]; exact namesL_sorted _)
      have HXSZ : Hid (∀ y ∈ xs, y.size ≤ 70368744177664) := Lib.hid (by rw [← hxs]; exact namesL_mem _ (fun z hz => HZ.out z (List.mem_of_mem_take hz)))
      have hn1 : n ≤ 1000 := by
        have h_ := namesL_length (l0.take j)
        rw [hxs, List.length_take] at h_
        omega
      have hnc := hRd.2
      have HRD := Lib.hid hRd.1
      have HOWN := Lib.hid hown
      have HN := Lib.hid hn
      have HB0w : Hid (w.heap.size ≤ wo.heap.size) := Lib.hid HBW.out.size
      clear hown hRd hxs hn HOV
      have HEn := heap_alloc_new wo (.cells #[.int .u32 nd, .string x] 26)
      have HBn : Below wo.heap.size wo (wo.alloc (.cells #[.int .u32 nd, .string x] 26)) := below_alloc (Below.refl _ _) _
      by_cases hnd : nd = 0
      · subst hnd
        rw [if_pos rfl] at HNX
        have HOV1 : Hid (OutV (wo.alloc (.cells #[.int .u32 0, .string x] 26)) B0 (.slice A n c) xs) := Lib.hid ⟨A, n, c, rfl, pw_own_below HOWN.out HBn, HN.out⟩
        have HBW1 := Lib.hid (bl_seq_ HBW.out HBn)
        clear HEn HBn
        go_wp2
        go_roundw
        case rel => exact ⟨j + 1, by omega, by go_num, by rw [HNX.out]; exact HOV1, HBW1⟩
        case measure => simp [intOf]; omega
      · rw [if_neg hnd] at HNX
        have bnd : (nd == 0) = false := by simpa using hnd
        have HE0 := Lib.hid HEn
        have HBE := Lib.hid HBn
        clear HEn HBn hnd
        go_wp2
        obtain ⟨wE, hwE⟩ : ∃ wE, wo.alloc (.cells #[.int .u32 nd, .string x] 26) = wE := ⟨_, rfl⟩
        rw [hwE] at HE0 HBE ⊢
        obtain ⟨eb, heb⟩ : ∃ eb, wo.heap.size = eb := ⟨_, rfl⟩
        rw [heb] at HE0 ⊢
        clear hwE heb hc1 hc2
        go_loopw [6] (fun a wi => ∃ k : Nat, k ≤ n ∧ a = .int .i64 (k : Int) ∧ Hid (∀ q, k ≤ q → q < xs.length → lessS x (xs.getD q ByteArray.empty) = true) ∧ Hid (Below wE.heap.size wE wi)) (fun a _ => (intOf a).toNat)
        case atStart => exact ⟨n, Nat.le_refl _, rfl, Lib.hid (fun q h1 h2 => by have h_ := HN.out; omega), Lib.hid (Below.refl _ _)⟩
        case round =>
          obtain ⟨k, hk, rfl, HLJ, HBI0⟩ := hrel
          obtain ⟨wi, hwi⟩ : ∃ wi, wi = wr := ⟨_, rfl⟩
          subst hwi
          have HEi := Lib.hid (blk_below_ HE0.out HBI0.out)
          have HBI := Lib.hid (bl_seq_ HBE.out HBI0.out)
          have HRi := Lib.hid (HRD.out.below HBI.out)
          have HB0i : Hid (B0 ≤ wi.heap.size) := Lib.hid (by have h1_ := HB0w.out; have h2_ := HBI.out.size; omega)
          have HK := Lib.hid (And.intro hk (And.intro hn1 hnc))
          by_cases hk0 : k = 0
          · have HEX : Hid (k = 0 ∨ lessS x (xs.getD (k - 1) ByteArray.empty) = false) := Lib.hid (.inl hk0)
            have hz0 : decide ((0 : Int) < (k : Int)) = false := by rw [hk0]; rfl
            go_wp2_with fail
            go_quiet (fail)
            have HQ := Lib.hid (pw_below_drewN (Below.refl wi.heap.size wi) nq)
            have HEi1 := Lib.hid (blk_below_ HEi.out HQ.out)
            have HBI1 := Lib.hid (bl_seq_ HBI.out HQ.out)
            have HRi1 := Lib.hid (HRi.out.below HQ.out)
            have HB0i1 : Hid (B0 ≤ (wi.drewN nq).heap.size) := Lib.hid HB0i.out
            obtain ⟨wj, hwj⟩ : ∃ wj, wi.drewN nq = wj := ⟨_, rfl⟩
            rw [hwj] at HEi1 HBI1 HRi1 HB0i1 ⊢
            clear HQ HEi HBI HRi HB0i HBI0 hwj
            obtain ⟨wi, hwi⟩ : ∃ wi, wi = wj := ⟨_, rfl⟩
            rw [← hwi] at HEi1 HBI1 HRi1 HB0i1 ⊢
            clear hwi
            have HEi := HEi1
            have HBI := HBI1
            have HRi := HRi1
            have HB0i := HB0i1
            clear HEi1 HBI1 HRi1 HB0i1
            go_wp2_with fail
            have HINS := Lib.hid (insS_at x xs k HSRT.out (by have h_ := HK.out; have h2_ := HN.out; omega) HLJ.out HEX.out)
            have k35 := cut_hm A n c k HK.out.1 HK.out.2.2
            obtain ⟨A41, hA41⟩ : ∃ A41, (if c = k then A else A.map (·.add (k * 1))) = A41 := ⟨_, rfl⟩
            have k41 := cut_l A n c k HK.out.1 HK.out.2.2
            rw [hA41] at k41
            have R35 := Lib.hid (HRi.out.take k HK.out.1)
            have R41 := Lib.hid (show RdS wi A41 (n - k) (xs.drop k) by rw [← hA41]; exact HRi.out.drop k HK.out.1 HK.out.2.2)
            clear hA41 HLJ HEX
            go_wp2_with fail
            refine start_ (n := 13) (S := fun w' => True) (ds := []) #[false, false, false, false, false, false, false, false, false, false, false, false, false] (by kernel_rfl) rfl rfl trivial (fun hHeld => ?_)
            refine with_tabW NamR.tab9 NamR.bits9 (fun HT_ HW_ => ?_)
            have HEz := Lib.hid (show wi.drew.heap[eb]? = _ from HEi.out)
            have R35z := Lib.hid ((R35.out).below (below_drew (Below.refl _ _)))
            have R41z := Lib.hid ((R41.out).below (below_drew (Below.refl _ _)))
            have HB0 := Lib.hid (show B0 ≤ wi.drew.heap.size from HB0i.out)
            have DZ := Lib.hid (fun W (h_ : Below wi.drew.heap.size wi.drew W) => (⟨h_.os, h_.tape, h_.output, h_.size, h_.block⟩ : Below wi.heap.size wi W))
            generalize wi.drew = wz at HEz R35z R41z HB0 DZ hHeld ⊢
            have BB := Lib.hid (Below.refl wz.heap.size wz)
            refine inv_at [0, 1, 2, 3, 4, 5, 6, 7, 8, 9, 10, 11, 12] (fun a0_ b a w' => ∃ (b38 : Nat) (b42 : Nat) (c42 : Nat) (b43 : Nat) (c43 : Nat) (m6_ : Value) (m10_ : Value) (m11_ : Value) (m12_ : Value), a = putSel a0_ b [(0, 32, .slice A n c), (1, 33, .int .i64 (k : Int)), (2, 34, .int .i64 (k : Int)), (3, 35, .slice A k k), (4, 36, .pointer (some ⟨eb, 1, none⟩)), (5, 37, .string x), (6, 38, m6_), (7, 39, .slice A n c), (8, 40, .int .i64 (k : Int)), (9, 41, .slice A41 (n - k) (c - k)), (10, 42, m10_), (11, 43, m11_), (12, 3, m12_)] ∧ (Below wz.heap.size wz w') ∧ (b 6 = true → RdS w' (some ⟨b38, 0, none⟩) 1 [x]) ∧ (b 10 = true → RdS w' (some ⟨b42, 0, none⟩) (1 + (n - k)) ([x] ++ xs.drop k)) ∧ (b 11 = true → w'.ownsRow B0 9 1 (.slice (some ⟨b43, 0, none⟩) (k + (1 + (n - k))) c43) (k + (1 + (n - k))) (pw_strs (xs.take k ++ ([x] ++ xs.drop k)))) ∧ (b 6 = true → (m6_ : Value) = .slice (some ⟨b38, 0, none⟩) 1 1) ∧ (b 10 = true → (m10_ : Value) = .slice (some ⟨b42, 0, none⟩) (1 + (n - k)) c42) ∧ (b 11 = true → (m11_ : Value) = .slice (some ⟨b43, 0, none⟩) (k + (1 + (n - k))) c43) ∧ (b 12 = true → (m12_ : Value) = .slice (some ⟨b43, 0, none⟩) (k + (1 + (n - k))) c43)) HT_.out HW_.out (by kernel_rfl) (by kernel_rfl) ?_ ?_ ?_
            · exact ⟨0, 0, 0, 0, 0, .bool false, .bool false, .bool false, .bool false, by simp only [putSel, Bool.false_eq_true, if_false], BB.out, fun h_ => absurd h_ (by decide), fun h_ => absurd h_ (by decide), fun h_ => absurd h_ (by decide), fun h_ => absurd h_ (by decide), fun h_ => absurd h_ (by decide), fun h_ => absurd h_ (by decide), fun h_ => absurd h_ (by decide)⟩
            · skip
              clear BB
              refine steps_cons ?_ ?_
              · rintro b a w' ⟨b38, b42, c42, b43, c43, m6_, m10_, m11_, m12_, ha, Q_BB, Q_RX, Q_R42, Q_O43, Q_X6_, Q_X10_, Q_X11_, Q_X12_⟩ hb_ hon hoff
                refine ⟨_, rfl, fun K hK => ?_⟩
                have e3 : a.tmps[3]? = some (.slice A n c) := by rw [ha]; exact (putSel_not (hoff 12 (by kernel_rfl)) rfl).trans rfl
                replace ha := Aside0.mk ha
                have BB := Aside0.mk Q_BB
                refine value_ (w1 := w') (v := .slice A n c) (by rfl) rfl ?_ ?_
                · go_simp
                  (try simp only [i64_w])
                  try rfl
                refine hK.out _ _ ⟨b38, b42, c42, b43, c43, m6_, m10_, m11_, m12_, (by rw [ha.out]; exact putSel_upk 0 hb_ rfl rfl rfl), Q_BB, Q_RX, Q_R42, fun h0_ => absurd ((hoff 11 (by kernel_rfl)).symm.trans h0_) (by decide), Q_X6_, Q_X10_, fun h0_ => absurd ((hoff 11 (by kernel_rfl)).symm.trans h0_) (by decide), fun h0_ => absurd ((hoff 12 (by kernel_rfl)).symm.trans h0_) (by decide)⟩
              refine steps_cons ?_ ?_
              · rintro b a w' ⟨b38, b42, c42, b43, c43, m6_, m10_, m11_, m12_, ha, Q_BB, Q_RX, Q_R42, Q_O43, Q_X6_, Q_X10_, Q_X11_, Q_X12_⟩ hb_ hon hoff
                refine ⟨_, rfl, fun K hK => ?_⟩
                have e6 : a.tmps[6]? = some (.int .i64 (k : Int)) := by rw [ha]; exact (putSel_off rfl).trans rfl
                replace ha := Aside0.mk ha
                have BB := Aside0.mk Q_BB
                refine value_ (w1 := w') (v := .int .i64 (k : Int)) (by rfl) rfl ?_ ?_
                · go_simp
                  (try simp only [i64_w])
                  try rfl
                refine hK.out _ _ ⟨b38, b42, c42, b43, c43, m6_, m10_, m11_, m12_, (by rw [ha.out]; exact putSel_upk 1 hb_ rfl rfl rfl), Q_BB, Q_RX, Q_R42, fun h0_ => absurd ((hoff 11 (by kernel_rfl)).symm.trans h0_) (by decide), Q_X6_, Q_X10_, fun h0_ => absurd ((hoff 11 (by kernel_rfl)).symm.trans h0_) (by decide), fun h0_ => absurd ((hoff 12 (by kernel_rfl)).symm.trans h0_) (by decide)⟩
              refine steps_cons ?_ ?_
              · rintro b a w' ⟨b38, b42, c42, b43, c43, m6_, m10_, m11_, m12_, ha, Q_BB, Q_RX, Q_R42, Q_O43, Q_X6_, Q_X10_, Q_X11_, Q_X12_⟩ hb_ hon hoff
                refine ⟨_, rfl, fun K hK => ?_⟩
                have e6 : a.tmps[6]? = some (.int .i64 (k : Int)) := by rw [ha]; exact (putSel_off rfl).trans rfl
                replace ha := Aside0.mk ha
                have BB := Aside0.mk Q_BB
                refine value_ (w1 := w') (v := .int .i64 (k : Int)) (by rfl) rfl ?_ ?_
                · go_simp
                  (try simp only [i64_w])
                  try rfl
                refine hK.out _ _ ⟨b38, b42, c42, b43, c43, m6_, m10_, m11_, m12_, (by rw [ha.out]; exact putSel_upk 2 hb_ rfl rfl rfl), Q_BB, Q_RX, Q_R42, fun h0_ => absurd ((hoff 11 (by kernel_rfl)).symm.trans h0_) (by decide), Q_X6_, Q_X10_, fun h0_ => absurd ((hoff 11 (by kernel_rfl)).symm.trans h0_) (by decide), fun h0_ => absurd ((hoff 12 (by kernel_rfl)).symm.trans h0_) (by decide)⟩
              refine steps_cons ?_ ?_
              · rintro b a w' ⟨b38, b42, c42, b43, c43, m6_, m10_, m11_, m12_, ha, Q_BB, Q_RX, Q_R42, Q_O43, Q_X6_, Q_X10_, Q_X11_, Q_X12_⟩ hb_ hon hoff
                refine ⟨_, rfl, fun K hK => ?_⟩
                have e32 : a.tmps[32]? = some (.slice A n c) := by rw [ha]; exact putSel_on (e := (0, 32, .slice A n c)) 0 rfl rfl (hon 0 (by kernel_rfl)) rfl
                have e33 : a.tmps[33]? = some (.int .i64 (k : Int)) := by rw [ha]; exact putSel_on (e := (1, 33, .int .i64 (k : Int))) 1 rfl rfl (hon 1 (by kernel_rfl)) rfl
                have e34 : a.tmps[34]? = some (.int .i64 (k : Int)) := by rw [ha]; exact putSel_on (e := (2, 34, .int .i64 (k : Int))) 2 rfl rfl (hon 2 (by kernel_rfl)) rfl
                replace ha := Aside0.mk ha
                have BB := Aside0.mk Q_BB
                refine slice_ (by rfl) rfl rfl elemSS (v := .slice A k k) ?_ ?_
                · simp only [Option.map_some, Option.map_none, eval_of e32, eval_of e33, eval_of e34]
                  exact k35 _
                refine hK.out _ _ ⟨b38, b42, c42, b43, c43, m6_, m10_, m11_, m12_, (by rw [ha.out]; exact putSel_upk 3 hb_ rfl rfl rfl), BB.out, fun h0_ => (Q_RX h0_), fun h0_ => (Q_R42 h0_), fun h0_ => absurd ((hoff 11 (by kernel_rfl)).symm.trans h0_) (by decide), Q_X6_, Q_X10_, fun h0_ => absurd ((hoff 11 (by kernel_rfl)).symm.trans h0_) (by decide), fun h0_ => absurd ((hoff 12 (by kernel_rfl)).symm.trans h0_) (by decide)⟩
              refine steps_cons ?_ ?_
              · rintro b a w' ⟨b38, b42, c42, b43, c43, m6_, m10_, m11_, m12_, ha, Q_BB, Q_RX, Q_R42, Q_O43, Q_X6_, Q_X10_, Q_X11_, Q_X12_⟩ hb_ hon hoff
                refine ⟨_, rfl, fun K hK => ?_⟩
                have e5 : a.tmps[5]? = some (.pointer (some ⟨eb, 0, none⟩)) := by rw [ha]; exact (putSel_off rfl).trans rfl
                replace ha := Aside0.mk ha
                have BB := Aside0.mk Q_BB
                refine value_ (w1 := w') (v := .pointer (some ⟨eb, 1, none⟩)) (by rfl) rfl ?_ ?_
                · go_simp
                  (try simp only [i64_w])
                  try rfl
                refine hK.out _ _ ⟨b38, b42, c42, b43, c43, m6_, m10_, m11_, m12_, (by rw [ha.out]; exact putSel_upk 4 hb_ rfl rfl rfl), Q_BB, fun h0_ => absurd ((hoff 6 (by kernel_rfl)).symm.trans h0_) (by decide), fun h0_ => absurd ((hoff 10 (by kernel_rfl)).symm.trans h0_) (by decide), fun h0_ => absurd ((hoff 11 (by kernel_rfl)).symm.trans h0_) (by decide), fun h0_ => absurd ((hoff 6 (by kernel_rfl)).symm.trans h0_) (by decide), fun h0_ => absurd ((hoff 10 (by kernel_rfl)).symm.trans h0_) (by decide), fun h0_ => absurd ((hoff 11 (by kernel_rfl)).symm.trans h0_) (by decide), fun h0_ => absurd ((hoff 12 (by kernel_rfl)).symm.trans h0_) (by decide)⟩
              refine steps_cons ?_ ?_
              · rintro b a w' ⟨b38, b42, c42, b43, c43, m6_, m10_, m11_, m12_, ha, Q_BB, Q_RX, Q_R42, Q_O43, Q_X6_, Q_X10_, Q_X11_, Q_X12_⟩ hb_ hon hoff
                refine ⟨_, rfl, fun K hK => ?_⟩
                have e36 : a.tmps[36]? = some (.pointer (some ⟨eb, 1, none⟩)) := by rw [ha]; exact putSel_on (e := (4, 36, .pointer (some ⟨eb, 1, none⟩))) 4 rfl rfl (hon 4 (by kernel_rfl)) rfl
                replace ha := Aside0.mk ha
                have BB := Aside0.mk Q_BB
                have hc_x : w'.cell? ⟨eb, 1, none⟩ = some (.string x) := (blk_cell (blk_below_ HEz.out BB.out) 1).trans rfl
                refine value_ (w1 := w') (v := .string x) (by rfl) rfl ?_ ?_
                · go_simp
                  (try simp only [i64_w])
                  try rfl
                refine hK.out _ _ ⟨b38, b42, c42, b43, c43, m6_, m10_, m11_, m12_, (by rw [ha.out]; exact putSel_upk 5 hb_ rfl rfl rfl), Q_BB, fun h0_ => absurd ((hoff 6 (by kernel_rfl)).symm.trans h0_) (by decide), fun h0_ => absurd ((hoff 10 (by kernel_rfl)).symm.trans h0_) (by decide), fun h0_ => absurd ((hoff 11 (by kernel_rfl)).symm.trans h0_) (by decide), fun h0_ => absurd ((hoff 6 (by kernel_rfl)).symm.trans h0_) (by decide), fun h0_ => absurd ((hoff 10 (by kernel_rfl)).symm.trans h0_) (by decide), fun h0_ => absurd ((hoff 11 (by kernel_rfl)).symm.trans h0_) (by decide), fun h0_ => absurd ((hoff 12 (by kernel_rfl)).symm.trans h0_) (by decide)⟩
              refine steps_cons ?_ ?_
              · rintro b a w' ⟨b38, b42, c42, b43, c43, m6_, m10_, m11_, m12_, ha, Q_BB, Q_RX, Q_R42, Q_O43, Q_X6_, Q_X10_, Q_X11_, Q_X12_⟩ hb_ hon hoff
                refine ⟨_, rfl, fun K hK => ?_⟩
                have e37 : a.tmps[37]? = some (.string x) := by rw [ha]; exact putSel_on (e := (5, 37, .string x)) 5 rfl rfl (hon 5 (by kernel_rfl)) rfl
                replace ha := Aside0.mk ha
                have BB := Aside0.mk Q_BB
                refine value_ (w1 := w'.alloc (.cells #[.string x] 9)) (v := .slice (some ⟨w'.heap.size, 0, none⟩) 1 1) (by rfl) rfl ?_ ?_
                · go_simp
                  try rfl
                refine hK.out _ _ ⟨w'.heap.size, b42, c42, b43, c43, (.slice (some ⟨w'.heap.size, 0, none⟩) 1 1), m10_, m11_, m12_, (by rw [ha.out]; exact putSel_upk 6 hb_ rfl rfl rfl), below_alloc BB.out _, fun _ => RdS_lit w' x, fun h0_ => absurd ((hoff 10 (by kernel_rfl)).symm.trans h0_) (by decide), fun h0_ => absurd ((hoff 11 (by kernel_rfl)).symm.trans h0_) (by decide), fun _ => rfl, fun h0_ => absurd ((hoff 10 (by kernel_rfl)).symm.trans h0_) (by decide), fun h0_ => absurd ((hoff 11 (by kernel_rfl)).symm.trans h0_) (by decide), fun h0_ => absurd ((hoff 12 (by kernel_rfl)).symm.trans h0_) (by decide)⟩
              refine steps_cons ?_ ?_
              · rintro b a w' ⟨b38, b42, c42, b43, c43, m6_, m10_, m11_, m12_, ha, Q_BB, Q_RX, Q_R42, Q_O43, Q_X6_, Q_X10_, Q_X11_, Q_X12_⟩ hb_ hon hoff
                refine ⟨_, rfl, fun K hK => ?_⟩
                have e3 : a.tmps[3]? = some (.slice A n c) := by rw [ha]; exact (putSel_not (hoff 12 (by kernel_rfl)) rfl).trans rfl
                replace ha := Aside0.mk ha
                have BB := Aside0.mk Q_BB
                refine value_ (w1 := w') (v := .slice A n c) (by rfl) rfl ?_ ?_
                · go_simp
                  (try simp only [i64_w])
                  try rfl
                refine hK.out _ _ ⟨b38, b42, c42, b43, c43, m6_, m10_, m11_, m12_, (by rw [ha.out]; exact putSel_upk 7 hb_ rfl rfl rfl), Q_BB, Q_RX, fun h0_ => absurd ((hoff 10 (by kernel_rfl)).symm.trans h0_) (by decide), fun h0_ => absurd ((hoff 11 (by kernel_rfl)).symm.trans h0_) (by decide), Q_X6_, fun h0_ => absurd ((hoff 10 (by kernel_rfl)).symm.trans h0_) (by decide), fun h0_ => absurd ((hoff 11 (by kernel_rfl)).symm.trans h0_) (by decide), fun h0_ => absurd ((hoff 12 (by kernel_rfl)).symm.trans h0_) (by decide)⟩
              refine steps_cons ?_ ?_
              · rintro b a w' ⟨b38, b42, c42, b43, c43, m6_, m10_, m11_, m12_, ha, Q_BB, Q_RX, Q_R42, Q_O43, Q_X6_, Q_X10_, Q_X11_, Q_X12_⟩ hb_ hon hoff
                refine ⟨_, rfl, fun K hK => ?_⟩
                have e6 : a.tmps[6]? = some (.int .i64 (k : Int)) := by rw [ha]; exact (putSel_off rfl).trans rfl
                replace ha := Aside0.mk ha
                have BB := Aside0.mk Q_BB
                refine value_ (w1 := w') (v := .int .i64 (k : Int)) (by rfl) rfl ?_ ?_
                · go_simp
                  (try simp only [i64_w])
                  try rfl
                refine hK.out _ _ ⟨b38, b42, c42, b43, c43, m6_, m10_, m11_, m12_, (by rw [ha.out]; exact putSel_upk 8 hb_ rfl rfl rfl), Q_BB, Q_RX, fun h0_ => absurd ((hoff 10 (by kernel_rfl)).symm.trans h0_) (by decide), fun h0_ => absurd ((hoff 11 (by kernel_rfl)).symm.trans h0_) (by decide), Q_X6_, fun h0_ => absurd ((hoff 10 (by kernel_rfl)).symm.trans h0_) (by decide), fun h0_ => absurd ((hoff 11 (by kernel_rfl)).symm.trans h0_) (by decide), fun h0_ => absurd ((hoff 12 (by kernel_rfl)).symm.trans h0_) (by decide)⟩
              refine steps_cons ?_ ?_
              · rintro b a w' ⟨b38, b42, c42, b43, c43, m6_, m10_, m11_, m12_, ha, Q_BB, Q_RX, Q_R42, Q_O43, Q_X6_, Q_X10_, Q_X11_, Q_X12_⟩ hb_ hon hoff
                refine ⟨_, rfl, fun K hK => ?_⟩
                have e39 : a.tmps[39]? = some (.slice A n c) := by rw [ha]; exact putSel_on (e := (7, 39, .slice A n c)) 7 rfl rfl (hon 7 (by kernel_rfl)) rfl
                have e40 : a.tmps[40]? = some (.int .i64 (k : Int)) := by rw [ha]; exact putSel_on (e := (8, 40, .int .i64 (k : Int))) 8 rfl rfl (hon 8 (by kernel_rfl)) rfl
                replace ha := Aside0.mk ha
                have BB := Aside0.mk Q_BB
                refine slice_ (by rfl) rfl rfl elemSS (v := .slice A41 (n - k) (c - k)) ?_ ?_
                · simp only [Option.map_some, Option.map_none, eval_of e39, eval_of e40]
                  exact k41 _
                refine hK.out _ _ ⟨b38, b42, c42, b43, c43, m6_, m10_, m11_, m12_, (by rw [ha.out]; exact putSel_upk 9 hb_ rfl rfl rfl), BB.out, fun h0_ => (Q_RX h0_), fun h0_ => absurd ((hoff 10 (by kernel_rfl)).symm.trans h0_) (by decide), fun h0_ => absurd ((hoff 11 (by kernel_rfl)).symm.trans h0_) (by decide), Q_X6_, fun h0_ => absurd ((hoff 10 (by kernel_rfl)).symm.trans h0_) (by decide), fun h0_ => absurd ((hoff 11 (by kernel_rfl)).symm.trans h0_) (by decide), fun h0_ => absurd ((hoff 12 (by kernel_rfl)).symm.trans h0_) (by decide)⟩
              refine steps_cons ?_ ?_
              · rintro b a w' ⟨b38, b42, c42, b43, c43, m6_, m10_, m11_, m12_, ha, Q_BB, Q_RX, Q_R42, Q_O43, Q_X6_, Q_X10_, Q_X11_, Q_X12_⟩ hb_ hon hoff
                refine ⟨_, rfl, fun K hK => ?_⟩
                have e38 : a.tmps[38]? = some (m6_) := by rw [ha]; exact putSel_on (e := (6, 38, m6_)) 6 rfl rfl (hon 6 (by kernel_rfl)) rfl
                rw [Q_X6_ (hon 6 (by kernel_rfl))] at e38
                have e41 : a.tmps[41]? = some (.slice A41 (n - k) (c - k)) := by rw [ha]; exact putSel_on (e := (9, 41, .slice A41 (n - k) (c - k))) 9 rfl rfl (hon 9 (by kernel_rfl)) rfl
                replace ha := Aside0.mk ha
                have BB := Aside0.mk Q_BB
                have RX := Aside0.mk (Q_RX (hon 6 (by kernel_rfl)))
                obtain ⟨q42, d42, w1, hr42, hb42, hs42⟩ := app_one (d := c - k) RX.out (R41z.out.below BB.out) (by have h_ := HK.out; omega)
                refine app_ (by rfl) rfl rfl rfl (eval_of e38) (eval_of e41) hr42 ?_
                refine hK.out _ _ ⟨b38, q42, d42, b43, c43, m6_, (.slice (some ⟨q42, 0, none⟩) (1 + (n - k)) d42), m11_, m12_, (by rw [ha.out]; exact putSel_upk 10 hb_ rfl rfl rfl), bl_seq_ BB.out hb42, fun _ => RX.out.below hb42, fun _ => hs42, fun h0_ => absurd ((hoff 11 (by kernel_rfl)).symm.trans h0_) (by decide), Q_X6_, fun _ => rfl, fun h0_ => absurd ((hoff 11 (by kernel_rfl)).symm.trans h0_) (by decide), fun h0_ => absurd ((hoff 12 (by kernel_rfl)).symm.trans h0_) (by decide)⟩
              refine steps_cons ?_ ?_
              · rintro b a w' ⟨b38, b42, c42, b43, c43, m6_, m10_, m11_, m12_, ha, Q_BB, Q_RX, Q_R42, Q_O43, Q_X6_, Q_X10_, Q_X11_, Q_X12_⟩ hb_ hon hoff
                refine ⟨_, rfl, fun K hK => ?_⟩
                have e35 : a.tmps[35]? = some (.slice A k k) := by rw [ha]; exact putSel_on (e := (3, 35, .slice A k k)) 3 rfl rfl (hon 3 (by kernel_rfl)) rfl
                have e42 : a.tmps[42]? = some (m10_) := by rw [ha]; exact putSel_on (e := (10, 42, m10_)) 10 rfl rfl (hon 10 (by kernel_rfl)) rfl
                rw [Q_X10_ (hon 10 (by kernel_rfl))] at e42
                replace ha := Aside0.mk ha
                have BB := Aside0.mk Q_BB
                have RX := Aside0.mk (Q_RX (hon 6 (by kernel_rfl)))
                have R42 := Aside0.mk (Q_R42 (hon 10 (by kernel_rfl)))
                obtain ⟨d43, w1, hr43, hb43, ho43, hz43⟩ := app_grow (c := k) (d := c42) (R35z.out.below BB.out) R42.out (by omega) (by have h_ := HK.out; omega)
                have hB0 : B0 ≤ w'.heap.size := Nat.le_trans HB0.out BB.out.size
                refine app_ (by rfl) rfl rfl rfl (eval_of e35) (eval_of e42) hr43 ?_
                refine hK.out _ _ ⟨b38, b42, c42, w'.heap.size, d43, m6_, m10_, (.slice (some ⟨w'.heap.size, 0, none⟩) (k + (1 + (n - k))) d43), m12_, (by rw [ha.out]; exact putSel_upk 11 hb_ rfl rfl rfl), bl_seq_ BB.out hb43, fun _ => RX.out.below hb43, fun _ => R42.out.below hb43, fun _ => own_lower_ ho43 hB0, Q_X6_, Q_X10_, fun _ => rfl, fun h0_ => absurd ((hoff 12 (by kernel_rfl)).symm.trans h0_) (by decide)⟩
              refine steps_cons ?_ ?_
              · rintro b a w' ⟨b38, b42, c42, b43, c43, m6_, m10_, m11_, m12_, ha, Q_BB, Q_RX, Q_R42, Q_O43, Q_X6_, Q_X10_, Q_X11_, Q_X12_⟩ hb_ hon hoff
                refine ⟨_, rfl, fun K hK => ?_⟩
                have e43 : a.tmps[43]? = some (m11_) := by rw [ha]; exact putSel_on (e := (11, 43, m11_)) 11 rfl rfl (hon 11 (by kernel_rfl)) rfl
                rw [Q_X11_ (hon 11 (by kernel_rfl))] at e43
                replace ha := Aside0.mk ha
                have BB := Aside0.mk Q_BB
                have RX := Aside0.mk (Q_RX (hon 6 (by kernel_rfl)))
                have R42 := Aside0.mk (Q_R42 (hon 10 (by kernel_rfl)))
                have O43 := Aside0.mk (Q_O43 (hon 11 (by kernel_rfl)))
                refine value_ (w1 := w') (v := .slice (some ⟨b43, 0, none⟩) (k + (1 + (n - k))) c43) (by rfl) rfl ?_ ?_
                · go_simp
                  (try simp only [i64_w])
                  try rfl
                refine hK.out _ _ ⟨b38, b42, c42, b43, c43, m6_, m10_, m11_, (.slice (some ⟨b43, 0, none⟩) (k + (1 + (n - k))) c43), (by rw [ha.out]; exact putSel_upk 12 hb_ rfl rfl rfl), Q_BB, Q_RX, Q_R42, Q_O43, Q_X6_, Q_X10_, Q_X11_, fun _ => rfl⟩
              exact steps_nil
            · rintro b a w' hall ⟨b38, b42, c42, b43, c43, m6_, m10_, m11_, m12_, ha, Q_BB, Q_RX, Q_R42, Q_O43, Q_X6_, Q_X10_, Q_X11_, Q_X12_⟩
              clear BB
              have hb0_ := hall 0 (by kernel_rfl)
              have hb1_ := hall 1 (by kernel_rfl)
              have hb2_ := hall 2 (by kernel_rfl)
              have hb3_ := hall 3 (by kernel_rfl)
              have hb4_ := hall 4 (by kernel_rfl)
              have hb5_ := hall 5 (by kernel_rfl)
              have hb6_ := hall 6 (by kernel_rfl)
              have hb7_ := hall 7 (by kernel_rfl)
              have hb8_ := hall 8 (by kernel_rfl)
              have hb9_ := hall 9 (by kernel_rfl)
              have hb10_ := hall 10 (by kernel_rfl)
              have hb11_ := hall 11 (by kernel_rfl)
              have hb12_ := hall 12 (by kernel_rfl)
              subst ha
              obtain rfl := Q_X6_ hb6_
              obtain rfl := Q_X10_ hb10_
              obtain rfl := Q_X11_ hb11_
              obtain rfl := Q_X12_ hb12_
              simp only [putSel, hb0_, hb1_, hb2_, hb3_, hb4_, hb5_, hb6_, hb7_, hb8_, hb9_, hb10_, hb11_, hb12_, if_true, Act.put, List.setIfInBounds_toArray, List.set_cons_zero, List.set_cons_succ]
              have BB := Aside0.mk Q_BB
              clear Q_BB
              have RX := Aside0.mk (Q_RX hb6_)
              clear Q_RX
              have R42 := Aside0.mk (Q_R42 hb10_)
              clear Q_R42
              have O43 := Aside0.mk (Q_O43 hb11_)
              clear Q_O43
              clear hall hb0_ hb1_ hb2_ hb3_ hb4_ hb5_ hb6_ hb7_ hb8_ hb9_ hb10_ hb11_ hb12_
              have HNB := Lib.hid (show Below wi.heap.size wi w' from DZ.out _ BB.out)
              have HO := Lib.hid O43.out
              rw [HINS.out] at HO
              clear O43 BB RX R42 R35 R41 R35z R41z HEz HB0 DZ HINS
              go_wp2
              go_roundw
              case rel =>
                refine ⟨j + 1, by omega, by go_num, Lib.hid ⟨_, _, _, rfl, ?_⟩, Lib.hid (bl_seq_ HBW.out (bl_seq_ HBI.out HNB.out))⟩
                rw [HNX.out]
                have hn_ : k + (1 + (n - k)) = (insS x xs).length := by rw [insS_length]; have h_ := HK.out; have h2_ := HN.out; omega
                refine ⟨?_, hn_⟩
                exact HO.out
              case measure => simp [intOf]; omega
          · obtain ⟨p, rfl⟩ : ∃ p, k = p + 1 := ⟨k - 1, by omega⟩
            obtain ⟨ad1, hA1, hy⟩ := HRi.out.at_ p (by omega)
            subst hA1
            obtain ⟨k, hkp⟩ : ∃ k, p + 1 = k := ⟨_, rfl⟩
            rw [hkp] at hk HLJ hk0 HK
            have ek : (((p + 1 : Nat)) : Int) = (k : Int) := by omega
            rw [ek]
            have hkI : (0 : Int) < (k : Int) := by omega
            have hpI : wrap64 ((k : Int) - 1) = (p : Int) := by unfold wrap64; omega
            have hpI2 : IntKind.i64.wrap ((k : Int) - 1) = (p : Int) := by rw [i64_w]; exact hpI
            have hkN : 0 < k := by omega
            have hpn : (p : Int) < (n : Int) := by omega
            have hpx : p < xs.length := by have h_ := HN.out; omega
            have HKP := Lib.hid hkp
            have HYM : Hid (xs.getD p ByteArray.empty ∈ xs) := Lib.hid (by rw [List.getD_eq_getElem?_getD, List.getElem?_eq_getElem hpx]; exact List.getElem_mem hpx)
            obtain ⟨y, hyd⟩ : ∃ y, xs.getD p ByteArray.empty = y := ⟨_, rfl⟩
            have HYD := Lib.hid hyd
            rw [hyd] at hy HYM
            have HYi := Lib.hid hy
            have HF1 : names_Less.f x y = some (lessS x y) := by rw [names_Less.f, if_pos HXZ.out, if_pos (HXSZ.out _ HYM.out)]
            clear hyd hy hkp ek HYM
            cases hb : lessS x y with
            | true =>
              have HLE := Lib.hid (HF1.trans (congrArg some hb))
              have HBT := Lib.hid hb
              clear HF1 hb
              go_wp2_with fail
              refine start_ (n := 12) (S := fun w' => True) (ds := []) #[false, false, false, false, false, false, false, false, false, false, false, false] (by kernel_rfl) rfl rfl trivial (fun hHeld => ?_)
              refine with_tabW NamR.tab7 NamR.bits7 (fun HT_ HW_ => ?_)
              have HEz := Lib.hid (show wi.drew.heap[eb]? = _ from HEi.out)
              have HYz := Lib.hid (show wi.drew.cell? (ad1.add p) = _ from HYi.out)
              have DZ := Lib.hid (fun W (h_ : Below wi.drew.heap.size wi.drew W) => (⟨h_.os, h_.tape, h_.output, h_.size, h_.block⟩ : Below wi.heap.size wi W))
              generalize wi.drew = wz at HEz HYz DZ hHeld ⊢
              have BB := Lib.hid (Below.refl wz.heap.size wz)
              refine inv_at [0, 1, 2, 3, 4, 5, 6, 7, 8, 9, 10, 11] (fun a0_ b a w' => a = putSel a0_ b [(0, 18, .int .i64 (k : Int)), (1, 19, .bool true), (2, 20, .bool true), (3, 21, .pointer (some ⟨eb, 1, none⟩)), (4, 22, .string x), (5, 23, .slice (some ad1) n c), (6, 24, .int .i64 (k : Int)), (7, 25, .int .i64 (p : Int)), (8, 26, .pointer (some (ad1.add p))), (9, 27, .string y), (10, 28, .bool true), (11, 29, .bool true)] ∧ (Below wz.heap.size wz w')) HT_.out HW_.out (by kernel_rfl) (by kernel_rfl) ?_ ?_ ?_
              · exact ⟨by simp only [putSel, Bool.false_eq_true, if_false], BB.out⟩
              · skip
                clear BB
                refine steps_cons ?_ ?_
                · rintro b a w' ⟨ha, Q_BB⟩ hb_ hon hoff
                  refine ⟨_, rfl, fun K hK => ?_⟩
                  have e6 : a.tmps[6]? = some (.int .i64 (k : Int)) := by rw [ha]; exact (putSel_off rfl).trans rfl
                  replace ha := Aside0.mk ha
                  have BB := Aside0.mk Q_BB
                  refine value_ (w1 := w') (v := .int .i64 (k : Int)) (by rfl) rfl ?_ ?_
                  · go_simp
                    (try simp only [i64_w])
                    try rfl
                  refine hK.out _ _ ⟨(by rw [ha.out]; exact putSel_upk 0 hb_ rfl rfl rfl), Q_BB⟩
                refine steps_cons ?_ ?_
                · rintro b a w' ⟨ha, Q_BB⟩ hb_ hon hoff
                  refine ⟨_, rfl, fun K hK => ?_⟩
                  have e18 : a.tmps[18]? = some (.int .i64 (k : Int)) := by rw [ha]; exact putSel_on (e := (0, 18, .int .i64 (k : Int))) 0 rfl rfl (hon 0 (by kernel_rfl)) rfl
                  replace ha := Aside0.mk ha
                  have BB := Aside0.mk Q_BB
                  refine value_ (w1 := w') (v := .bool true) (by rfl) rfl ?_ ?_
                  · go_simp
                    (try simp only [i64_w])
                    try rfl
                  refine hK.out _ _ ⟨(by rw [ha.out]; exact putSel_upk 1 hb_ rfl rfl rfl), Q_BB⟩
                refine steps_cons ?_ ?_
                · rintro b a w' ⟨ha, Q_BB⟩ hb_ hon hoff
                  refine ⟨_, rfl, fun K hK => ?_⟩
                  have e19 : a.tmps[19]? = some (.bool true) := by rw [ha]; exact putSel_on (e := (1, 19, .bool true)) 1 rfl rfl (hon 1 (by kernel_rfl)) rfl
                  replace ha := Aside0.mk ha
                  have BB := Aside0.mk Q_BB
                  refine value_ (w1 := w') (v := .bool true) (by rfl) rfl ?_ ?_
                  · go_simp
                    (try simp only [i64_w])
                    try rfl
                  refine hK.out _ _ ⟨(by rw [ha.out]; exact putSel_upk 2 hb_ rfl rfl rfl), Q_BB⟩
                refine steps_cons ?_ ?_
                · rintro b a w' ⟨ha, Q_BB⟩ hb_ hon hoff
                  refine ⟨_, rfl, fun K hK => ?_⟩
                  have e5 : a.tmps[5]? = some (.pointer (some ⟨eb, 0, none⟩)) := by rw [ha]; exact (putSel_off rfl).trans rfl
                  have e20 : a.tmps[20]? = some (.bool true) := by rw [ha]; exact putSel_on (e := (2, 20, .bool true)) 2 rfl rfl (hon 2 (by kernel_rfl)) rfl
                  replace ha := Aside0.mk ha
                  have BB := Aside0.mk Q_BB
                  refine value_ (w1 := w') (v := .pointer (some ⟨eb, 1, none⟩)) (wanted_on rfl rfl rfl (e20.trans (by first | rfl | (simp [*]; done)))) rfl ?_ ?_
                  · go_simp
                    (try simp only [i64_w])
                    try rfl
                  refine hK.out _ _ ⟨(by rw [ha.out]; exact putSel_upk 3 hb_ rfl rfl rfl), Q_BB⟩
                refine steps_cons ?_ ?_
                · rintro b a w' ⟨ha, Q_BB⟩ hb_ hon hoff
                  refine ⟨_, rfl, fun K hK => ?_⟩
                  have e21 : a.tmps[21]? = some (.pointer (some ⟨eb, 1, none⟩)) := by rw [ha]; exact putSel_on (e := (3, 21, .pointer (some ⟨eb, 1, none⟩))) 3 rfl rfl (hon 3 (by kernel_rfl)) rfl
                  have e20 : a.tmps[20]? = some (.bool true) := by rw [ha]; exact putSel_on (e := (2, 20, .bool true)) 2 rfl rfl (hon 2 (by kernel_rfl)) rfl
                  replace ha := Aside0.mk ha
                  have BB := Aside0.mk Q_BB
                  have hc_x : w'.cell? ⟨eb, 1, none⟩ = some (.string x) := (blk_cell (blk_below_ HEz.out BB.out) 1).trans rfl
                  refine value_ (w1 := w') (v := .string x) (wanted_on rfl rfl rfl (e20.trans (by first | rfl | (simp [*]; done)))) rfl ?_ ?_
                  · go_simp
                    (try simp only [i64_w])
                    try rfl
                  refine hK.out _ _ ⟨(by rw [ha.out]; exact putSel_upk 4 hb_ rfl rfl rfl), Q_BB⟩
                refine steps_cons ?_ ?_
                · rintro b a w' ⟨ha, Q_BB⟩ hb_ hon hoff
                  refine ⟨_, rfl, fun K hK => ?_⟩
                  have e3 : a.tmps[3]? = some (.slice (some ad1) n c) := by rw [ha]; exact (putSel_off rfl).trans rfl
                  have e20 : a.tmps[20]? = some (.bool true) := by rw [ha]; exact putSel_on (e := (2, 20, .bool true)) 2 rfl rfl (hon 2 (by kernel_rfl)) rfl
                  replace ha := Aside0.mk ha
                  have BB := Aside0.mk Q_BB
                  refine value_ (w1 := w') (v := .slice (some ad1) n c) (wanted_on rfl rfl rfl (e20.trans (by first | rfl | (simp [*]; done)))) rfl ?_ ?_
                  · go_simp
                    (try simp only [i64_w])
                    try rfl
                  refine hK.out _ _ ⟨(by rw [ha.out]; exact putSel_upk 5 hb_ rfl rfl rfl), Q_BB⟩
                refine steps_cons ?_ ?_
                · rintro b a w' ⟨ha, Q_BB⟩ hb_ hon hoff
                  refine ⟨_, rfl, fun K hK => ?_⟩
                  have e6 : a.tmps[6]? = some (.int .i64 (k : Int)) := by rw [ha]; exact (putSel_off rfl).trans rfl
                  have e20 : a.tmps[20]? = some (.bool true) := by rw [ha]; exact putSel_on (e := (2, 20, .bool true)) 2 rfl rfl (hon 2 (by kernel_rfl)) rfl
                  replace ha := Aside0.mk ha
                  have BB := Aside0.mk Q_BB
                  refine value_ (w1 := w') (v := .int .i64 (k : Int)) (wanted_on rfl rfl rfl (e20.trans (by first | rfl | (simp [*]; done)))) rfl ?_ ?_
                  · go_simp
                    (try simp only [i64_w])
                    try rfl
                  refine hK.out _ _ ⟨(by rw [ha.out]; exact putSel_upk 6 hb_ rfl rfl rfl), Q_BB⟩
                refine steps_cons ?_ ?_
                · rintro b a w' ⟨ha, Q_BB⟩ hb_ hon hoff
                  refine ⟨_, rfl, fun K hK => ?_⟩
                  have e24 : a.tmps[24]? = some (.int .i64 (k : Int)) := by rw [ha]; exact putSel_on (e := (6, 24, .int .i64 (k : Int))) 6 rfl rfl (hon 6 (by kernel_rfl)) rfl
                  have e20 : a.tmps[20]? = some (.bool true) := by rw [ha]; exact putSel_on (e := (2, 20, .bool true)) 2 rfl rfl (hon 2 (by kernel_rfl)) rfl
                  replace ha := Aside0.mk ha
                  have BB := Aside0.mk Q_BB
                  refine value_ (w1 := w') (v := .int .i64 (p : Int)) (wanted_on rfl rfl rfl (e20.trans (by first | rfl | (simp [*]; done)))) rfl ?_ ?_
                  · go_simp
                    (try simp only [i64_w])
                    try rfl
                  refine hK.out _ _ ⟨(by rw [ha.out]; exact putSel_upk 7 hb_ rfl rfl rfl), Q_BB⟩
                refine steps_cons ?_ ?_
                · rintro b a w' ⟨ha, Q_BB⟩ hb_ hon hoff
                  refine ⟨_, rfl, fun K hK => ?_⟩
                  have e23 : a.tmps[23]? = some (.slice (some ad1) n c) := by rw [ha]; exact putSel_on (e := (5, 23, .slice (some ad1) n c)) 5 rfl rfl (hon 5 (by kernel_rfl)) rfl
                  have e25 : a.tmps[25]? = some (.int .i64 (p : Int)) := by rw [ha]; exact putSel_on (e := (7, 25, .int .i64 (p : Int))) 7 rfl rfl (hon 7 (by kernel_rfl)) rfl
                  have e20 : a.tmps[20]? = some (.bool true) := by rw [ha]; exact putSel_on (e := (2, 20, .bool true)) 2 rfl rfl (hon 2 (by kernel_rfl)) rfl
                  replace ha := Aside0.mk ha
                  have BB := Aside0.mk Q_BB
                  refine value_ (w1 := w') (v := .pointer (some (ad1.add p))) (wanted_on rfl rfl rfl (e20.trans (by first | rfl | (simp [*]; done)))) rfl ?_ ?_
                  · go_simp
                    (try simp only [i64_w])
                    try rfl
                  refine hK.out _ _ ⟨(by rw [ha.out]; exact putSel_upk 8 hb_ rfl rfl rfl), Q_BB⟩
                refine steps_cons ?_ ?_
                · rintro b a w' ⟨ha, Q_BB⟩ hb_ hon hoff
                  refine ⟨_, rfl, fun K hK => ?_⟩
                  have e26 : a.tmps[26]? = some (.pointer (some (ad1.add p))) := by rw [ha]; exact putSel_on (e := (8, 26, .pointer (some (ad1.add p)))) 8 rfl rfl (hon 8 (by kernel_rfl)) rfl
                  have e20 : a.tmps[20]? = some (.bool true) := by rw [ha]; exact putSel_on (e := (2, 20, .bool true)) 2 rfl rfl (hon 2 (by kernel_rfl)) rfl
                  replace ha := Aside0.mk ha
                  have BB := Aside0.mk Q_BB
                  have hc_y : w'.cell? (ad1.add p) = some (.string y) := pw_cell_below BB.out HYz.out
                  refine value_ (w1 := w') (v := .string y) (wanted_on rfl rfl rfl (e20.trans (by first | rfl | (simp [*]; done)))) rfl ?_ ?_
                  · go_simp
                    (try simp only [i64_w])
                    try rfl
                  refine hK.out _ _ ⟨(by rw [ha.out]; exact putSel_upk 9 hb_ rfl rfl rfl), Q_BB⟩
                refine steps_cons ?_ ?_
                · rintro b a w' ⟨ha, Q_BB⟩ hb_ hon hoff
                  refine ⟨_, rfl, fun K hK => ?_⟩
                  have e22 : a.tmps[22]? = some (.string x) := by rw [ha]; exact putSel_on (e := (4, 22, .string x)) 4 rfl rfl (hon 4 (by kernel_rfl)) rfl
                  have e27 : a.tmps[27]? = some (.string y) := by rw [ha]; exact putSel_on (e := (9, 27, .string y)) 9 rfl rfl (hon 9 (by kernel_rfl)) rfl
                  have e20 : a.tmps[20]? = some (.bool true) := by rw [ha]; exact putSel_on (e := (2, 20, .bool true)) 2 rfl rfl (hon 2 (by kernel_rfl)) rfl
                  replace ha := Aside0.mk ha
                  have BB := Aside0.mk Q_BB
                  refine goes_ Tryd.func17 (by kernel_rfl) rfl #[.string x, .string y] (wanted_on rfl rfl rfl (e20.trans (by first | rfl | (simp [*]; done)))) rfl rfl (by first | (simp only [List.map_toArray, List.map_cons, List.map_nil, Act.eval, Array.getD_eq_getD_getElem?, Option.getD_some, e22, e27, e20]; done) | (simp only [List.map_toArray, List.map_cons, List.map_nil, Act.eval, Array.getD_eq_getD_getElem?, Option.getD_some, e22, e27, e20]; rfl)) ?_
                  refine (names_Less.calls x y _ w' HLE.out).mono ?_
                  rintro e w1 ⟨rfl, hn⟩
                  refine ⟨_, rfl, ?_⟩
                  refine hK.out _ _ ⟨(by rw [ha.out]; exact putSel_upk 10 hb_ rfl rfl rfl), bl_seq_ BB.out hn⟩
                refine steps_cons ?_ ?_
                · rintro b a w' ⟨ha, Q_BB⟩ hb_ hon hoff
                  refine ⟨_, rfl, fun K hK => ?_⟩
                  have e20 : a.tmps[20]? = some (.bool true) := by rw [ha]; exact putSel_on (e := (2, 20, .bool true)) 2 rfl rfl (hon 2 (by kernel_rfl)) rfl
                  have e28 : a.tmps[28]? = some (.bool true) := by rw [ha]; exact putSel_on (e := (10, 28, .bool true)) 10 rfl rfl (hon 10 (by kernel_rfl)) rfl
                  replace ha := Aside0.mk ha
                  have BB := Aside0.mk Q_BB
                  refine value_ (w1 := w') (v := .bool true) (by rfl) rfl ?_ ?_
                  · go_simp
                    (try simp only [i64_w])
                    try rfl
                  refine hK.out _ _ ⟨(by rw [ha.out]; exact putSel_upk 11 hb_ rfl rfl rfl), Q_BB⟩
                exact steps_nil
              · rintro b a w' hall ⟨ha, Q_BB⟩
                clear BB
                have hb0_ := hall 0 (by kernel_rfl)
                have hb1_ := hall 1 (by kernel_rfl)
                have hb2_ := hall 2 (by kernel_rfl)
                have hb3_ := hall 3 (by kernel_rfl)
                have hb4_ := hall 4 (by kernel_rfl)
                have hb5_ := hall 5 (by kernel_rfl)
                have hb6_ := hall 6 (by kernel_rfl)
                have hb7_ := hall 7 (by kernel_rfl)
                have hb8_ := hall 8 (by kernel_rfl)
                have hb9_ := hall 9 (by kernel_rfl)
                have hb10_ := hall 10 (by kernel_rfl)
                have hb11_ := hall 11 (by kernel_rfl)
                subst ha
                simp only [putSel, hb0_, hb1_, hb2_, hb3_, hb4_, hb5_, hb6_, hb7_, hb8_, hb9_, hb10_, hb11_, if_true, Act.put, List.setIfInBounds_toArray, List.set_cons_zero, List.set_cons_succ]
                have BB := Aside0.mk Q_BB
                clear Q_BB
                clear hall hb0_ hb1_ hb2_ hb3_ hb4_ hb5_ hb6_ hb7_ hb8_ hb9_ hb10_ hb11_
                have HNB := Lib.hid (show Below wi.heap.size wi w' from DZ.out _ BB.out)
                clear BB HEz HYz DZ
                go_wp2
                go_roundw
                case rel =>
                  refine ⟨p, by have h_ := HKP.out; omega, by go_num, Lib.hid (fun q h1 h2 => ?_), Lib.hid (bl_seq_ HBI0.out HNB.out)⟩
                  by_cases e : q = p
                  · rw [e, HYD.out]; exact HBT.out
                  · exact HLJ.out q (by have h_ := HKP.out; omega) h2
                case measure => have h_ := HKP.out; simp [intOf]; omega
            | false =>
              have HLE := Lib.hid (HF1.trans (congrArg some hb))
              have HEX : Hid (k = 0 ∨ lessS x (xs.getD (k - 1) ByteArray.empty) = false) := Lib.hid (.inr (by rw [show k - 1 = p by have h_ := HKP.out; omega, HYD.out]; exact hb))
              clear HF1 hb
              go_wp2_with fail
              refine start_ (n := 12) (S := fun w' => True) (ds := []) #[false, false, false, false, false, false, false, false, false, false, false, false] (by kernel_rfl) rfl rfl trivial (fun hHeld => ?_)
              refine with_tabW NamR.tab7 NamR.bits7 (fun HT_ HW_ => ?_)
              have HEz := Lib.hid (show wi.drew.heap[eb]? = _ from HEi.out)
              have HYz := Lib.hid (show wi.drew.cell? (ad1.add p) = _ from HYi.out)
              have DZ := Lib.hid (fun W (h_ : Below wi.drew.heap.size wi.drew W) => (⟨h_.os, h_.tape, h_.output, h_.size, h_.block⟩ : Below wi.heap.size wi W))
              generalize wi.drew = wz at HEz HYz DZ hHeld ⊢
              have BB := Lib.hid (Below.refl wz.heap.size wz)
              refine inv_at [0, 1, 2, 3, 4, 5, 6, 7, 8, 9, 10, 11] (fun a0_ b a w' => a = putSel a0_ b [(0, 18, .int .i64 (k : Int)), (1, 19, .bool true), (2, 20, .bool true), (3, 21, .pointer (some ⟨eb, 1, none⟩)), (4, 22, .string x), (5, 23, .slice (some ad1) n c), (6, 24, .int .i64 (k : Int)), (7, 25, .int .i64 (p : Int)), (8, 26, .pointer (some (ad1.add p))), (9, 27, .string y), (10, 28, .bool false), (11, 29, .bool false)] ∧ (Below wz.heap.size wz w')) HT_.out HW_.out (by kernel_rfl) (by kernel_rfl) ?_ ?_ ?_
              · exact ⟨by simp only [putSel, Bool.false_eq_true, if_false], BB.out⟩
              · skip
                clear BB
                refine steps_cons ?_ ?_
                · rintro b a w' ⟨ha, Q_BB⟩ hb_ hon hoff
                  refine ⟨_, rfl, fun K hK => ?_⟩
                  have e6 : a.tmps[6]? = some (.int .i64 (k : Int)) := by rw [ha]; exact (putSel_off rfl).trans rfl
                  replace ha := Aside0.mk ha
                  have BB := Aside0.mk Q_BB
                  refine value_ (w1 := w') (v := .int .i64 (k : Int)) (by rfl) rfl ?_ ?_
                  · go_simp
                    (try simp only [i64_w])
                    try rfl
                  refine hK.out _ _ ⟨(by rw [ha.out]; exact putSel_upk 0 hb_ rfl rfl rfl), Q_BB⟩
                refine steps_cons ?_ ?_
                · rintro b a w' ⟨ha, Q_BB⟩ hb_ hon hoff
                  refine ⟨_, rfl, fun K hK => ?_⟩
                  have e18 : a.tmps[18]? = some (.int .i64 (k : Int)) := by rw [ha]; exact putSel_on (e := (0, 18, .int .i64 (k : Int))) 0 rfl rfl (hon 0 (by kernel_rfl)) rfl
                  replace ha := Aside0.mk ha
                  have BB := Aside0.mk Q_BB
                  refine value_ (w1 := w') (v := .bool true) (by rfl) rfl ?_ ?_
                  · go_simp
                    (try simp only [i64_w])
                    try rfl
                  refine hK.out _ _ ⟨(by rw [ha.out]; exact putSel_upk 1 hb_ rfl rfl rfl), Q_BB⟩
                refine steps_cons ?_ ?_
                · rintro b a w' ⟨ha, Q_BB⟩ hb_ hon hoff
                  refine ⟨_, rfl, fun K hK => ?_⟩
                  have e19 : a.tmps[19]? = some (.bool true) := by rw [ha]; exact putSel_on (e := (1, 19, .bool true)) 1 rfl rfl (hon 1 (by kernel_rfl)) rfl
                  replace ha := Aside0.mk ha
                  have BB := Aside0.mk Q_BB
                  refine value_ (w1 := w') (v := .bool true) (by rfl) rfl ?_ ?_
                  · go_simp
                    (try simp only [i64_w])
                    try rfl
                  refine hK.out _ _ ⟨(by rw [ha.out]; exact putSel_upk 2 hb_ rfl rfl rfl), Q_BB⟩
                refine steps_cons ?_ ?_
                · rintro b a w' ⟨ha, Q_BB⟩ hb_ hon hoff
                  refine ⟨_, rfl, fun K hK => ?_⟩
                  have e5 : a.tmps[5]? = some (.pointer (some ⟨eb, 0, none⟩)) := by rw [ha]; exact (putSel_off rfl).trans rfl
                  have e20 : a.tmps[20]? = some (.bool true) := by rw [ha]; exact putSel_on (e := (2, 20, .bool true)) 2 rfl rfl (hon 2 (by kernel_rfl)) rfl
                  replace ha := Aside0.mk ha
                  have BB := Aside0.mk Q_BB
                  refine value_ (w1 := w') (v := .pointer (some ⟨eb, 1, none⟩)) (wanted_on rfl rfl rfl (e20.trans (by first | rfl | (simp [*]; done)))) rfl ?_ ?_
                  · go_simp
                    (try simp only [i64_w])
                    try rfl
                  refine hK.out _ _ ⟨(by rw [ha.out]; exact putSel_upk 3 hb_ rfl rfl rfl), Q_BB⟩
                refine steps_cons ?_ ?_
                · rintro b a w' ⟨ha, Q_BB⟩ hb_ hon hoff
                  refine ⟨_, rfl, fun K hK => ?_⟩
                  have e21 : a.tmps[21]? = some (.pointer (some ⟨eb, 1, none⟩)) := by rw [ha]; exact putSel_on (e := (3, 21, .pointer (some ⟨eb, 1, none⟩))) 3 rfl rfl (hon 3 (by kernel_rfl)) rfl
                  have e20 : a.tmps[20]? = some (.bool true) := by rw [ha]; exact putSel_on (e := (2, 20, .bool true)) 2 rfl rfl (hon 2 (by kernel_rfl)) rfl
                  replace ha := Aside0.mk ha
                  have BB := Aside0.mk Q_BB
                  have hc_x : w'.cell? ⟨eb, 1, none⟩ = some (.string x) := (blk_cell (blk_below_ HEz.out BB.out) 1).trans rfl
                  refine value_ (w1 := w') (v := .string x) (wanted_on rfl rfl rfl (e20.trans (by first | rfl | (simp [*]; done)))) rfl ?_ ?_
                  · go_simp
                    (try simp only [i64_w])
                    try rfl
                  refine hK.out _ _ ⟨(by rw [ha.out]; exact putSel_upk 4 hb_ rfl rfl rfl), Q_BB⟩
                refine steps_cons ?_ ?_
                · rintro b a w' ⟨ha, Q_BB⟩ hb_ hon hoff
                  refine ⟨_, rfl, fun K hK => ?_⟩
                  have e3 : a.tmps[3]? = some (.slice (some ad1) n c) := by rw [ha]; exact (putSel_off rfl).trans rfl
                  have e20 : a.tmps[20]? = some (.bool true) := by rw [ha]; exact putSel_on (e := (2, 20, .bool true)) 2 rfl rfl (hon 2 (by kernel_rfl)) rfl
                  replace ha := Aside0.mk ha
                  have BB := Aside0.mk Q_BB
                  refine value_ (w1 := w') (v := .slice (some ad1) n c) (wanted_on rfl rfl rfl (e20.trans (by first | rfl | (simp [*]; done)))) rfl ?_ ?_
                  · go_simp
                    (try simp only [i64_w])
                    try rfl
                  refine hK.out _ _ ⟨(by rw [ha.out]; exact putSel_upk 5 hb_ rfl rfl rfl), Q_BB⟩
                refine steps_cons ?_ ?_
                · rintro b a w' ⟨ha, Q_BB⟩ hb_ hon hoff
                  refine ⟨_, rfl, fun K hK => ?_⟩
                  have e6 : a.tmps[6]? = some (.int .i64 (k : Int)) := by rw [ha]; exact (putSel_off rfl).trans rfl
                  have e20 : a.tmps[20]? = some (.bool true) := by rw [ha]; exact putSel_on (e := (2, 20, .bool true)) 2 rfl rfl (hon 2 (by kernel_rfl)) rfl
                  replace ha := Aside0.mk ha
                  have BB := Aside0.mk Q_BB
                  refine value_ (w1 := w') (v := .int .i64 (k : Int)) (wanted_on rfl rfl rfl (e20.trans (by first | rfl | (simp [*]; done)))) rfl ?_ ?_
                  · go_simp
                    (try simp only [i64_w])
                    try rfl
                  refine hK.out _ _ ⟨(by rw [ha.out]; exact putSel_upk 6 hb_ rfl rfl rfl), Q_BB⟩
                refine steps_cons ?_ ?_
                · rintro b a w' ⟨ha, Q_BB⟩ hb_ hon hoff
                  refine ⟨_, rfl, fun K hK => ?_⟩
                  have e24 : a.tmps[24]? = some (.int .i64 (k : Int)) := by rw [ha]; exact putSel_on (e := (6, 24, .int .i64 (k : Int))) 6 rfl rfl (hon 6 (by kernel_rfl)) rfl
                  have e20 : a.tmps[20]? = some (.bool true) := by rw [ha]; exact putSel_on (e := (2, 20, .bool true)) 2 rfl rfl (hon 2 (by kernel_rfl)) rfl
                  replace ha := Aside0.mk ha
                  have BB := Aside0.mk Q_BB
                  refine value_ (w1 := w') (v := .int .i64 (p : Int)) (wanted_on rfl rfl rfl (e20.trans (by first | rfl | (simp [*]; done)))) rfl ?_ ?_
                  · go_simp
                    (try simp only [i64_w])
                    try rfl
                  refine hK.out _ _ ⟨(by rw [ha.out]; exact putSel_upk 7 hb_ rfl rfl rfl), Q_BB⟩
                refine steps_cons ?_ ?_
                · rintro b a w' ⟨ha, Q_BB⟩ hb_ hon hoff
                  refine ⟨_, rfl, fun K hK => ?_⟩
                  have e23 : a.tmps[23]? = some (.slice (some ad1) n c) := by rw [ha]; exact putSel_on (e := (5, 23, .slice (some ad1) n c)) 5 rfl rfl (hon 5 (by kernel_rfl)) rfl
                  have e25 : a.tmps[25]? = some (.int .i64 (p : Int)) := by rw [ha]; exact putSel_on (e := (7, 25, .int .i64 (p : Int))) 7 rfl rfl (hon 7 (by kernel_rfl)) rfl
                  have e20 : a.tmps[20]? = some (.bool true) := by rw [ha]; exact putSel_on (e := (2, 20, .bool true)) 2 rfl rfl (hon 2 (by kernel_rfl)) rfl
                  replace ha := Aside0.mk ha
                  have BB := Aside0.mk Q_BB
                  refine value_ (w1 := w') (v := .pointer (some (ad1.add p))) (wanted_on rfl rfl rfl (e20.trans (by first | rfl | (simp [*]; done)))) rfl ?_ ?_
                  · go_simp
                    (try simp only [i64_w])
                    try rfl
                  refine hK.out _ _ ⟨(by rw [ha.out]; exact putSel_upk 8 hb_ rfl rfl rfl), Q_BB⟩
                refine steps_cons ?_ ?_
                · rintro b a w' ⟨ha, Q_BB⟩ hb_ hon hoff
                  refine ⟨_, rfl, fun K hK => ?_⟩
                  have e26 : a.tmps[26]? = some (.pointer (some (ad1.add p))) := by rw [ha]; exact putSel_on (e := (8, 26, .pointer (some (ad1.add p)))) 8 rfl rfl (hon 8 (by kernel_rfl)) rfl
                  have e20 : a.tmps[20]? = some (.bool true) := by rw [ha]; exact putSel_on (e := (2, 20, .bool true)) 2 rfl rfl (hon 2 (by kernel_rfl)) rfl
                  replace ha := Aside0.mk ha
                  have BB := Aside0.mk Q_BB
                  have hc_y : w'.cell? (ad1.add p) = some (.string y) := pw_cell_below BB.out HYz.out
                  refine value_ (w1 := w') (v := .string y) (wanted_on rfl rfl rfl (e20.trans (by first | rfl | (simp [*]; done)))) rfl ?_ ?_
                  · go_simp
                    (try simp only [i64_w])
                    try rfl
                  refine hK.out _ _ ⟨(by rw [ha.out]; exact putSel_upk 9 hb_ rfl rfl rfl), Q_BB⟩
                refine steps_cons ?_ ?_
                · rintro b a w' ⟨ha, Q_BB⟩ hb_ hon hoff
                  refine ⟨_, rfl, fun K hK => ?_⟩
                  have e22 : a.tmps[22]? = some (.string x) := by rw [ha]; exact putSel_on (e := (4, 22, .string x)) 4 rfl rfl (hon 4 (by kernel_rfl)) rfl
                  have e27 : a.tmps[27]? = some (.string y) := by rw [ha]; exact putSel_on (e := (9, 27, .string y)) 9 rfl rfl (hon 9 (by kernel_rfl)) rfl
                  have e20 : a.tmps[20]? = some (.bool true) := by rw [ha]; exact putSel_on (e := (2, 20, .bool true)) 2 rfl rfl (hon 2 (by kernel_rfl)) rfl
                  replace ha := Aside0.mk ha
                  have BB := Aside0.mk Q_BB
                  refine goes_ Tryd.func17 (by kernel_rfl) rfl #[.string x, .string y] (wanted_on rfl rfl rfl (e20.trans (by first | rfl | (simp [*]; done)))) rfl rfl (by first | (simp only [List.map_toArray, List.map_cons, List.map_nil, Act.eval, Array.getD_eq_getD_getElem?, Option.getD_some, e22, e27, e20]; done) | (simp only [List.map_toArray, List.map_cons, List.map_nil, Act.eval, Array.getD_eq_getD_getElem?, Option.getD_some, e22, e27, e20]; rfl)) ?_
                  refine (names_Less.calls x y _ w' HLE.out).mono ?_
                  rintro e w1 ⟨rfl, hn⟩
                  refine ⟨_, rfl, ?_⟩
                  refine hK.out _ _ ⟨(by rw [ha.out]; exact putSel_upk 10 hb_ rfl rfl rfl), bl_seq_ BB.out hn⟩
                refine steps_cons ?_ ?_
                · rintro b a w' ⟨ha, Q_BB⟩ hb_ hon hoff
                  refine ⟨_, rfl, fun K hK => ?_⟩
                  have e20 : a.tmps[20]? = some (.bool true) := by rw [ha]; exact putSel_on (e := (2, 20, .bool true)) 2 rfl rfl (hon 2 (by kernel_rfl)) rfl
                  have e28 : a.tmps[28]? = some (.bool false) := by rw [ha]; exact putSel_on (e := (10, 28, .bool false)) 10 rfl rfl (hon 10 (by kernel_rfl)) rfl
                  replace ha := Aside0.mk ha
                  have BB := Aside0.mk Q_BB
                  refine value_ (w1 := w') (v := .bool false) (by rfl) rfl ?_ ?_
                  · go_simp
                    (try simp only [i64_w])
                    try rfl
                  refine hK.out _ _ ⟨(by rw [ha.out]; exact putSel_upk 11 hb_ rfl rfl rfl), Q_BB⟩
                exact steps_nil
              · rintro b a w' hall ⟨ha, Q_BB⟩
                clear BB
                have hb0_ := hall 0 (by kernel_rfl)
                have hb1_ := hall 1 (by kernel_rfl)
                have hb2_ := hall 2 (by kernel_rfl)
                have hb3_ := hall 3 (by kernel_rfl)
                have hb4_ := hall 4 (by kernel_rfl)
                have hb5_ := hall 5 (by kernel_rfl)
                have hb6_ := hall 6 (by kernel_rfl)
                have hb7_ := hall 7 (by kernel_rfl)
                have hb8_ := hall 8 (by kernel_rfl)
                have hb9_ := hall 9 (by kernel_rfl)
                have hb10_ := hall 10 (by kernel_rfl)
                have hb11_ := hall 11 (by kernel_rfl)
                subst ha
                simp only [putSel, hb0_, hb1_, hb2_, hb3_, hb4_, hb5_, hb6_, hb7_, hb8_, hb9_, hb10_, hb11_, if_true, Act.put, List.setIfInBounds_toArray, List.set_cons_zero, List.set_cons_succ]
                have BB := Aside0.mk Q_BB
                clear Q_BB
                clear hall hb0_ hb1_ hb2_ hb3_ hb4_ hb5_ hb6_ hb7_ hb8_ hb9_ hb10_ hb11_
                have HNB0 := Lib.hid (show Below wi.heap.size wi w' from DZ.out _ BB.out)
                have HEi1 := Lib.hid (blk_below_ HEi.out HNB0.out)
                have HBI1 := Lib.hid (bl_seq_ HBI.out HNB0.out)
                have HRi1 := Lib.hid (HRi.out.below HNB0.out)
                have HB0i1 : Hid (B0 ≤ w'.heap.size) := Lib.hid (Nat.le_trans HB0i.out HNB0.out.size)
                clear BB HEz HYz DZ HEi HBI HRi HB0i HBI0 HNB0 HYi HLE
                obtain ⟨wi, hwi⟩ : ∃ wi, wi = w' := ⟨_, rfl⟩
                rw [← hwi] at HEi1 HBI1 HRi1 HB0i1 ⊢
                clear hwi
                have HEi := HEi1
                have HBI := HBI1
                have HRi := HRi1
                have HB0i := HB0i1
                clear HEi1 HBI1 HRi1 HB0i1
                go_wp2_with fail
                have HINS := Lib.hid (insS_at x xs k HSRT.out (by have h_ := HK.out; have h2_ := HN.out; omega) HLJ.out HEX.out)
                have k35 := cut_hm (some ad1) n c k HK.out.1 HK.out.2.2
                obtain ⟨A41, hA41⟩ : ∃ A41, (if c = k then (some ad1) else ((some ad1)).map (·.add (k * 1))) = A41 := ⟨_, rfl⟩
                have k41 := cut_l (some ad1) n c k HK.out.1 HK.out.2.2
                rw [hA41] at k41
                have R35 := Lib.hid (HRi.out.take k HK.out.1)
                have R41 := Lib.hid (show RdS wi A41 (n - k) (xs.drop k) by rw [← hA41]; exact HRi.out.drop k HK.out.1 HK.out.2.2)
                clear hA41 HLJ HEX
                go_wp2_with fail
                refine start_ (n := 13) (S := fun w' => True) (ds := []) #[false, false, false, false, false, false, false, false, false, false, false, false, false] (by kernel_rfl) rfl rfl trivial (fun hHeld => ?_)
                refine with_tabW NamR.tab9 NamR.bits9 (fun HT_ HW_ => ?_)
                have HEz := Lib.hid (show wi.drew.heap[eb]? = _ from HEi.out)
                have R35z := Lib.hid ((R35.out).below (below_drew (Below.refl _ _)))
                have R41z := Lib.hid ((R41.out).below (below_drew (Below.refl _ _)))
                have HB0 := Lib.hid (show B0 ≤ wi.drew.heap.size from HB0i.out)
                have DZ := Lib.hid (fun W (h_ : Below wi.drew.heap.size wi.drew W) => (⟨h_.os, h_.tape, h_.output, h_.size, h_.block⟩ : Below wi.heap.size wi W))
                generalize wi.drew = wz at HEz R35z R41z HB0 DZ hHeld ⊢
                have BB := Lib.hid (Below.refl wz.heap.size wz)
                refine inv_at [0, 1, 2, 3, 4, 5, 6, 7, 8, 9, 10, 11, 12] (fun a0_ b a w' => ∃ (b38 : Nat) (b42 : Nat) (c42 : Nat) (b43 : Nat) (c43 : Nat) (m6_ : Value) (m10_ : Value) (m11_ : Value) (m12_ : Value), a = putSel a0_ b [(0, 32, .slice (some ad1) n c), (1, 33, .int .i64 (k : Int)), (2, 34, .int .i64 (k : Int)), (3, 35, .slice (some ad1) k k), (4, 36, .pointer (some ⟨eb, 1, none⟩)), (5, 37, .string x), (6, 38, m6_), (7, 39, .slice (some ad1) n c), (8, 40, .int .i64 (k : Int)), (9, 41, .slice A41 (n - k) (c - k)), (10, 42, m10_), (11, 43, m11_), (12, 3, m12_)] ∧ (Below wz.heap.size wz w') ∧ (b 6 = true → RdS w' (some ⟨b38, 0, none⟩) 1 [x]) ∧ (b 10 = true → RdS w' (some ⟨b42, 0, none⟩) (1 + (n - k)) ([x] ++ xs.drop k)) ∧ (b 11 = true → w'.ownsRow B0 9 1 (.slice (some ⟨b43, 0, none⟩) (k + (1 + (n - k))) c43) (k + (1 + (n - k))) (pw_strs (xs.take k ++ ([x] ++ xs.drop k)))) ∧ (b 6 = true → (m6_ : Value) = .slice (some ⟨b38, 0, none⟩) 1 1) ∧ (b 10 = true → (m10_ : Value) = .slice (some ⟨b42, 0, none⟩) (1 + (n - k)) c42) ∧ (b 11 = true → (m11_ : Value) = .slice (some ⟨b43, 0, none⟩) (k + (1 + (n - k))) c43) ∧ (b 12 = true → (m12_ : Value) = .slice (some ⟨b43, 0, none⟩) (k + (1 + (n - k))) c43)) HT_.out HW_.out (by kernel_rfl) (by kernel_rfl) ?_ ?_ ?_
                · exact ⟨0, 0, 0, 0, 0, .bool false, .bool false, .bool false, .bool false, by simp only [putSel, Bool.false_eq_true, if_false], BB.out, fun h_ => absurd h_ (by decide), fun h_ => absurd h_ (by decide), fun h_ => absurd h_ (by decide), fun h_ => absurd h_ (by decide), fun h_ => absurd h_ (by decide), fun h_ => absurd h_ (by decide), fun h_ => absurd h_ (by decide)⟩
                · skip
                  clear BB
                  refine steps_cons ?_ ?_
                  · rintro b a w' ⟨b38, b42, c42, b43, c43, m6_, m10_, m11_, m12_, ha, Q_BB, Q_RX, Q_R42, Q_O43, Q_X6_, Q_X10_, Q_X11_, Q_X12_⟩ hb_ hon hoff
                    refine ⟨_, rfl, fun K hK => ?_⟩
                    have e3 : a.tmps[3]? = some (.slice (some ad1) n c) := by rw [ha]; exact (putSel_not (hoff 12 (by kernel_rfl)) rfl).trans rfl
                    replace ha := Aside0.mk ha
                    have BB := Aside0.mk Q_BB
                    refine value_ (w1 := w') (v := .slice (some ad1) n c) (by rfl) rfl ?_ ?_
                    · go_simp
                      (try simp only [i64_w])
                      try rfl
                    refine hK.out _ _ ⟨b38, b42, c42, b43, c43, m6_, m10_, m11_, m12_, (by rw [ha.out]; exact putSel_upk 0 hb_ rfl rfl rfl), Q_BB, Q_RX, Q_R42, fun h0_ => absurd ((hoff 11 (by kernel_rfl)).symm.trans h0_) (by decide), Q_X6_, Q_X10_, fun h0_ => absurd ((hoff 11 (by kernel_rfl)).symm.trans h0_) (by decide), fun h0_ => absurd ((hoff 12 (by kernel_rfl)).symm.trans h0_) (by decide)⟩
                  refine steps_cons ?_ ?_
                  · rintro b a w' ⟨b38, b42, c42, b43, c43, m6_, m10_, m11_, m12_, ha, Q_BB, Q_RX, Q_R42, Q_O43, Q_X6_, Q_X10_, Q_X11_, Q_X12_⟩ hb_ hon hoff
                    refine ⟨_, rfl, fun K hK => ?_⟩
                    have e6 : a.tmps[6]? = some (.int .i64 (k : Int)) := by rw [ha]; exact (putSel_off rfl).trans rfl
                    replace ha := Aside0.mk ha
                    have BB := Aside0.mk Q_BB
                    refine value_ (w1 := w') (v := .int .i64 (k : Int)) (by rfl) rfl ?_ ?_
                    · go_simp
                      (try simp only [i64_w])
                      try rfl
                    refine hK.out _ _ ⟨b38, b42, c42, b43, c43, m6_, m10_, m11_, m12_, (by rw [ha.out]; exact putSel_upk 1 hb_ rfl rfl rfl), Q_BB, Q_RX, Q_R42, fun h0_ => absurd ((hoff 11 (by kernel_rfl)).symm.trans h0_) (by decide), Q_X6_, Q_X10_, fun h0_ => absurd ((hoff 11 (by kernel_rfl)).symm.trans h0_) (by decide), fun h0_ => absurd ((hoff 12 (by kernel_rfl)).symm.trans h0_) (by decide)⟩
                  refine steps_cons ?_ ?_
                  · rintro b a w' ⟨b38, b42, c42, b43, c43, m6_, m10_, m11_, m12_, ha, Q_BB, Q_RX, Q_R42, Q_O43, Q_X6_, Q_X10_, Q_X11_, Q_X12_⟩ hb_ hon hoff
                    refine ⟨_, rfl, fun K hK => ?_⟩
                    have e6 : a.tmps[6]? = some (.int .i64 (k : Int)) := by rw [ha]; exact (putSel_off rfl).trans rfl
                    replace ha := Aside0.mk ha
                    have BB := Aside0.mk Q_BB
                    refine value_ (w1 := w') (v := .int .i64 (k : Int)) (by rfl) rfl ?_ ?_
                    · go_simp
                      (try simp only [i64_w])
                      try rfl
                    refine hK.out _ _ ⟨b38, b42, c42, b43, c43, m6_, m10_, m11_, m12_, (by rw [ha.out]; exact putSel_upk 2 hb_ rfl rfl rfl), Q_BB, Q_RX, Q_R42, fun h0_ => absurd ((hoff 11 (by kernel_rfl)).symm.trans h0_) (by decide), Q_X6_, Q_X10_, fun h0_ => absurd ((hoff 11 (by kernel_rfl)).symm.trans h0_) (by decide), fun h0_ => absurd ((hoff 12 (by kernel_rfl)).symm.trans h0_) (by decide)⟩
                  refine steps_cons ?_ ?_
                  · rintro b a w' ⟨b38, b42, c42, b43, c43, m6_, m10_, m11_, m12_, ha, Q_BB, Q_RX, Q_R42, Q_O43, Q_X6_, Q_X10_, Q_X11_, Q_X12_⟩ hb_ hon hoff
                    refine ⟨_, rfl, fun K hK => ?_⟩
                    have e32 : a.tmps[32]? = some (.slice (some ad1) n c) := by rw [ha]; exact putSel_on (e := (0, 32, .slice (some ad1) n c)) 0 rfl rfl (hon 0 (by kernel_rfl)) rfl
                    have e33 : a.tmps[33]? = some (.int .i64 (k : Int)) := by rw [ha]; exact putSel_on (e := (1, 33, .int .i64 (k : Int))) 1 rfl rfl (hon 1 (by kernel_rfl)) rfl
                    have e34 : a.tmps[34]? = some (.int .i64 (k : Int)) := by rw [ha]; exact putSel_on (e := (2, 34, .int .i64 (k : Int))) 2 rfl rfl (hon 2 (by kernel_rfl)) rfl
                    replace ha := Aside0.mk ha
                    have BB := Aside0.mk Q_BB
                    refine slice_ (by rfl) rfl rfl elemSS (v := .slice (some ad1) k k) ?_ ?_
                    · simp only [Option.map_some, Option.map_none, eval_of e32, eval_of e33, eval_of e34]
                      exact k35 _
                    refine hK.out _ _ ⟨b38, b42, c42, b43, c43, m6_, m10_, m11_, m12_, (by rw [ha.out]; exact putSel_upk 3 hb_ rfl rfl rfl), BB.out, fun h0_ => (Q_RX h0_), fun h0_ => (Q_R42 h0_), fun h0_ => absurd ((hoff 11 (by kernel_rfl)).symm.trans h0_) (by decide), Q_X6_, Q_X10_, fun h0_ => absurd ((hoff 11 (by kernel_rfl)).symm.trans h0_) (by decide), fun h0_ => absurd ((hoff 12 (by kernel_rfl)).symm.trans h0_) (by decide)⟩
                  refine steps_cons ?_ ?_
                  · rintro b a w' ⟨b38, b42, c42, b43, c43, m6_, m10_, m11_, m12_, ha, Q_BB, Q_RX, Q_R42, Q_O43, Q_X6_, Q_X10_, Q_X11_, Q_X12_⟩ hb_ hon hoff
                    refine ⟨_, rfl, fun K hK => ?_⟩
                    have e5 : a.tmps[5]? = some (.pointer (some ⟨eb, 0, none⟩)) := by rw [ha]; exact (putSel_off rfl).trans rfl
                    replace ha := Aside0.mk ha
                    have BB := Aside0.mk Q_BB
                    refine value_ (w1 := w') (v := .pointer (some ⟨eb, 1, none⟩)) (by rfl) rfl ?_ ?_
                    · go_simp
                      (try simp only [i64_w])
                      try rfl
                    refine hK.out _ _ ⟨b38, b42, c42, b43, c43, m6_, m10_, m11_, m12_, (by rw [ha.out]; exact putSel_upk 4 hb_ rfl rfl rfl), Q_BB, fun h0_ => absurd ((hoff 6 (by kernel_rfl)).symm.trans h0_) (by decide), fun h0_ => absurd ((hoff 10 (by kernel_rfl)).symm.trans h0_) (by decide), fun h0_ => absurd ((hoff 11 (by kernel_rfl)).symm.trans h0_) (by decide), fun h0_ => absurd ((hoff 6 (by kernel_rfl)).symm.trans h0_) (by decide), fun h0_ => absurd ((hoff 10 (by kernel_rfl)).symm.trans h0_) (by decide), fun h0_ => absurd ((hoff 11 (by kernel_rfl)).symm.trans h0_) (by decide), fun h0_ => absurd ((hoff 12 (by kernel_rfl)).symm.trans h0_) (by decide)⟩
                  refine steps_cons ?_ ?_
                  · rintro b a w' ⟨b38, b42, c42, b43, c43, m6_, m10_, m11_, m12_, ha, Q_BB, Q_RX, Q_R42, Q_O43, Q_X6_, Q_X10_, Q_X11_, Q_X12_⟩ hb_ hon hoff
                    refine ⟨_, rfl, fun K hK => ?_⟩
                    have e36 : a.tmps[36]? = some (.pointer (some ⟨eb, 1, none⟩)) := by rw [ha]; exact putSel_on (e := (4, 36, .pointer (some ⟨eb, 1, none⟩))) 4 rfl rfl (hon 4 (by kernel_rfl)) rfl
                    replace ha := Aside0.mk ha
                    have BB := Aside0.mk Q_BB
                    have hc_x : w'.cell? ⟨eb, 1, none⟩ = some (.string x) := (blk_cell (blk_below_ HEz.out BB.out) 1).trans rfl
                    refine value_ (w1 := w') (v := .string x) (by rfl) rfl ?_ ?_
                    · go_simp
                      (try simp only [i64_w])
                      try rfl
                    refine hK.out _ _ ⟨b38, b42, c42, b43, c43, m6_, m10_, m11_, m12_, (by rw [ha.out]; exact putSel_upk 5 hb_ rfl rfl rfl), Q_BB, fun h0_ => absurd ((hoff 6 (by kernel_rfl)).symm.trans h0_) (by decide), fun h0_ => absurd ((hoff 10 (by kernel_rfl)).symm.trans h0_) (by decide), fun h0_ => absurd ((hoff 11 (by kernel_rfl)).symm.trans h0_) (by decide), fun h0_ => absurd ((hoff 6 (by kernel_rfl)).symm.trans h0_) (by decide), fun h0_ => absurd ((hoff 10 (by kernel_rfl)).symm.trans h0_) (by decide), fun h0_ => absurd ((hoff 11 (by kernel_rfl)).symm.trans h0_) (by decide), fun h0_ => absurd ((hoff 12 (by kernel_rfl)).symm.trans h0_) (by decide)⟩
                  refine steps_cons ?_ ?_
                  · rintro b a w' ⟨b38, b42, c42, b43, c43, m6_, m10_, m11_, m12_, ha, Q_BB, Q_RX, Q_R42, Q_O43, Q_X6_, Q_X10_, Q_X11_, Q_X12_⟩ hb_ hon hoff
                    refine ⟨_, rfl, fun K hK => ?_⟩
                    have e37 : a.tmps[37]? = some (.string x) := by rw [ha]; exact putSel_on (e := (5, 37, .string x)) 5 rfl rfl (hon 5 (by kernel_rfl)) rfl
                    replace ha := Aside0.mk ha
                    have BB := Aside0.mk Q_BB
                    refine value_ (w1 := w'.alloc (.cells #[.string x] 9)) (v := .slice (some ⟨w'.heap.size, 0, none⟩) 1 1) (by rfl) rfl ?_ ?_
                    · go_simp
                      try rfl
                    refine hK.out _ _ ⟨w'.heap.size, b42, c42, b43, c43, (.slice (some ⟨w'.heap.size, 0, none⟩) 1 1), m10_, m11_, m12_, (by rw [ha.out]; exact putSel_upk 6 hb_ rfl rfl rfl), below_alloc BB.out _, fun _ => RdS_lit w' x, fun h0_ => absurd ((hoff 10 (by kernel_rfl)).symm.trans h0_) (by decide), fun h0_ => absurd ((hoff 11 (by kernel_rfl)).symm.trans h0_) (by decide), fun _ => rfl, fun h0_ => absurd ((hoff 10 (by kernel_rfl)).symm.trans h0_) (by decide), fun h0_ => absurd ((hoff 11 (by kernel_rfl)).symm.trans h0_) (by decide), fun h0_ => absurd ((hoff 12 (by kernel_rfl)).symm.trans h0_) (by decide)⟩
                  refine steps_cons ?_ ?_
                  · rintro b a w' ⟨b38, b42, c42, b43, c43, m6_, m10_, m11_, m12_, ha, Q_BB, Q_RX, Q_R42, Q_O43, Q_X6_, Q_X10_, Q_X11_, Q_X12_⟩ hb_ hon hoff
                    refine ⟨_, rfl, fun K hK => ?_⟩
                    have e3 : a.tmps[3]? = some (.slice (some ad1) n c) := by rw [ha]; exact (putSel_not (hoff 12 (by kernel_rfl)) rfl).trans rfl
                    replace ha := Aside0.mk ha
                    have BB := Aside0.mk Q_BB
                    refine value_ (w1 := w') (v := .slice (some ad1) n c) (by rfl) rfl ?_ ?_
                    · go_simp
                      (try simp only [i64_w])
                      try rfl
                    refine hK.out _ _ ⟨b38, b42, c42, b43, c43, m6_, m10_, m11_, m12_, (by rw [ha.out]; exact putSel_upk 7 hb_ rfl rfl rfl), Q_BB, Q_RX, fun h0_ => absurd ((hoff 10 (by kernel_rfl)).symm.trans h0_) (by decide), fun h0_ => absurd ((hoff 11 (by kernel_rfl)).symm.trans h0_) (by decide), Q_X6_, fun h0_ => absurd ((hoff 10 (by kernel_rfl)).symm.trans h0_) (by decide), fun h0_ => absurd ((hoff 11 (by kernel_rfl)).symm.trans h0_) (by decide), fun h0_ => absurd ((hoff 12 (by kernel_rfl)).symm.trans h0_) (by decide)⟩
                  refine steps_cons ?_ ?_
                  · rintro b a w' ⟨b38, b42, c42, b43, c43, m6_, m10_, m11_, m12_, ha, Q_BB, Q_RX, Q_R42, Q_O43, Q_X6_, Q_X10_, Q_X11_, Q_X12_⟩ hb_ hon hoff
                    refine ⟨_, rfl, fun K hK => ?_⟩
                    have e6 : a.tmps[6]? = some (.int .i64 (k : Int)) := by rw [ha]; exact (putSel_off rfl).trans rfl
                    replace ha := Aside0.mk ha
                    have BB := Aside0.mk Q_BB
                    refine value_ (w1 := w') (v := .int .i64 (k : Int)) (by rfl) rfl ?_ ?_
                    · go_simp
                      (try simp only [i64_w])
                      try rfl
                    refine hK.out _ _ ⟨b38, b42, c42, b43, c43, m6_, m10_, m11_, m12_, (by rw [ha.out]; exact putSel_upk 8 hb_ rfl rfl rfl), Q_BB, Q_RX, fun h0_ => absurd ((hoff 10 (by kernel_rfl)).symm.trans h0_) (by decide), fun h0_ => absurd ((hoff 11 (by kernel_rfl)).symm.trans h0_) (by decide), Q_X6_, fun h0_ => absurd ((hoff 10 (by kernel_rfl)).symm.trans h0_) (by decide), fun h0_ => absurd ((hoff 11 (by kernel_rfl)).symm.trans h0_) (by decide), fun h0_ => absurd ((hoff 12 (by kernel_rfl)).symm.trans h0_) (by decide)⟩
                  refine steps_cons ?_ ?_
                  · rintro b a w' ⟨b38, b42, c42, b43, c43, m6_, m10_, m11_, m12_, ha, Q_BB, Q_RX, Q_R42, Q_O43, Q_X6_, Q_X10_, Q_X11_, Q_X12_⟩ hb_ hon hoff
                    refine ⟨_, rfl, fun K hK => ?_⟩
                    have e39 : a.tmps[39]? = some (.slice (some ad1) n c) := by rw [ha]; exact putSel_on (e := (7, 39, .slice (some ad1) n c)) 7 rfl rfl (hon 7 (by kernel_rfl)) rfl
                    have e40 : a.tmps[40]? = some (.int .i64 (k : Int)) := by rw [ha]; exact putSel_on (e := (8, 40, .int .i64 (k : Int))) 8 rfl rfl (hon 8 (by kernel_rfl)) rfl
                    replace ha := Aside0.mk ha
                    have BB := Aside0.mk Q_BB
                    refine slice_ (by rfl) rfl rfl elemSS (v := .slice A41 (n - k) (c - k)) ?_ ?_
                    · simp only [Option.map_some, Option.map_none, eval_of e39, eval_of e40]
                      exact k41 _
                    refine hK.out _ _ ⟨b38, b42, c42, b43, c43, m6_, m10_, m11_, m12_, (by rw [ha.out]; exact putSel_upk 9 hb_ rfl rfl rfl), BB.out, fun h0_ => (Q_RX h0_), fun h0_ => absurd ((hoff 10 (by kernel_rfl)).symm.trans h0_) (by decide), fun h0_ => absurd ((hoff 11 (by kernel_rfl)).symm.trans h0_) (by decide), Q_X6_, fun h0_ => absurd ((hoff 10 (by kernel_rfl)).symm.trans h0_) (by decide), fun h0_ => absurd ((hoff 11 (by kernel_rfl)).symm.trans h0_) (by decide), fun h0_ => absurd ((hoff 12 (by kernel_rfl)).symm.trans h0_) (by decide)⟩
                  refine steps_cons ?_ ?_
                  · rintro b a w' ⟨b38, b42, c42, b43, c43, m6_, m10_, m11_, m12_, ha, Q_BB, Q_RX, Q_R42, Q_O43, Q_X6_, Q_X10_, Q_X11_, Q_X12_⟩ hb_ hon hoff
                    refine ⟨_, rfl, fun K hK => ?_⟩
                    have e38 : a.tmps[38]? = some (m6_) := by rw [ha]; exact putSel_on (e := (6, 38, m6_)) 6 rfl rfl (hon 6 (by kernel_rfl)) rfl
                    rw [Q_X6_ (hon 6 (by kernel_rfl))] at e38
                    have e41 : a.tmps[41]? = some (.slice A41 (n - k) (c - k)) := by rw [ha]; exact putSel_on (e := (9, 41, .slice A41 (n - k) (c - k))) 9 rfl rfl (hon 9 (by kernel_rfl)) rfl
                    replace ha := Aside0.mk ha
                    have BB := Aside0.mk Q_BB
                    have RX := Aside0.mk (Q_RX (hon 6 (by kernel_rfl)))
                    obtain ⟨q42, d42, w1, hr42, hb42, hs42⟩ := app_one (d := c - k) RX.out (R41z.out.below BB.out) (by have h_ := HK.out; omega)
                    refine app_ (by rfl) rfl rfl rfl (eval_of e38) (eval_of e41) hr42 ?_
                    refine hK.out _ _ ⟨b38, q42, d42, b43, c43, m6_, (.slice (some ⟨q42, 0, none⟩) (1 + (n - k)) d42), m11_, m12_, (by rw [ha.out]; exact putSel_upk 10 hb_ rfl rfl rfl), bl_seq_ BB.out hb42, fun _ => RX.out.below hb42, fun _ => hs42, fun h0_ => absurd ((hoff 11 (by kernel_rfl)).symm.trans h0_) (by decide), Q_X6_, fun _ => rfl, fun h0_ => absurd ((hoff 11 (by kernel_rfl)).symm.trans h0_) (by decide), fun h0_ => absurd ((hoff 12 (by kernel_rfl)).symm.trans h0_) (by decide)⟩
                  refine steps_cons ?_ ?_
                  · rintro b a w' ⟨b38, b42, c42, b43, c43, m6_, m10_, m11_, m12_, ha, Q_BB, Q_RX, Q_R42, Q_O43, Q_X6_, Q_X10_, Q_X11_, Q_X12_⟩ hb_ hon hoff
                    refine ⟨_, rfl, fun K hK => ?_⟩
                    have e35 : a.tmps[35]? = some (.slice (some ad1) k k) := by rw [ha]; exact putSel_on (e := (3, 35, .slice (some ad1) k k)) 3 rfl rfl (hon 3 (by kernel_rfl)) rfl
                    have e42 : a.tmps[42]? = some (m10_) := by rw [ha]; exact putSel_on (e := (10, 42, m10_)) 10 rfl rfl (hon 10 (by kernel_rfl)) rfl
                    rw [Q_X10_ (hon 10 (by kernel_rfl))] at e42
                    replace ha := Aside0.mk ha
                    have BB := Aside0.mk Q_BB
                    have RX := Aside0.mk (Q_RX (hon 6 (by kernel_rfl)))
                    have R42 := Aside0.mk (Q_R42 (hon 10 (by kernel_rfl)))
                    obtain ⟨d43, w1, hr43, hb43, ho43, hz43⟩ := app_grow (c := k) (d := c42) (R35z.out.below BB.out) R42.out (by omega) (by have h_ := HK.out; omega)
                    have hB0 : B0 ≤ w'.heap.size := Nat.le_trans HB0.out BB.out.size
                    refine app_ (by rfl) rfl rfl rfl (eval_of e35) (eval_of e42) hr43 ?_
                    refine hK.out _ _ ⟨b38, b42, c42, w'.heap.size, d43, m6_, m10_, (.slice (some ⟨w'.heap.size, 0, none⟩) (k + (1 + (n - k))) d43), m12_, (by rw [ha.out]; exact putSel_upk 11 hb_ rfl rfl rfl), bl_seq_ BB.out hb43, fun _ => RX.out.below hb43, fun _ => R42.out.below hb43, fun _ => own_lower_ ho43 hB0, Q_X6_, Q_X10_, fun _ => rfl, fun h0_ => absurd ((hoff 12 (by kernel_rfl)).symm.trans h0_) (by decide)⟩
                  refine steps_cons ?_ ?_
                  · rintro b a w' ⟨b38, b42, c42, b43, c43, m6_, m10_, m11_, m12_, ha, Q_BB, Q_RX, Q_R42, Q_O43, Q_X6_, Q_X10_, Q_X11_, Q_X12_⟩ hb_ hon hoff
                    refine ⟨_, rfl, fun K hK => ?_⟩
                    have e43 : a.tmps[43]? = some (m11_) := by rw [ha]; exact putSel_on (e := (11, 43, m11_)) 11 rfl rfl (hon 11 (by kernel_rfl)) rfl
                    rw [Q_X11_ (hon 11 (by kernel_rfl))] at e43
                    replace ha := Aside0.mk ha
                    have BB := Aside0.mk Q_BB
                    have RX := Aside0.mk (Q_RX (hon 6 (by kernel_rfl)))
                    have R42 := Aside0.mk (Q_R42 (hon 10 (by kernel_rfl)))
                    have O43 := Aside0.mk (Q_O43 (hon 11 (by kernel_rfl)))
                    refine value_ (w1 := w') (v := .slice (some ⟨b43, 0, none⟩) (k + (1 + (n - k))) c43) (by rfl) rfl ?_ ?_
                    · go_simp
                      (try simp only [i64_w])
                      try rfl
                    refine hK.out _ _ ⟨b38, b42, c42, b43, c43, m6_, m10_, m11_, (.slice (some ⟨b43, 0, none⟩) (k + (1 + (n - k))) c43), (by rw [ha.out]; exact putSel_upk 12 hb_ rfl rfl rfl), Q_BB, Q_RX, Q_R42, Q_O43, Q_X6_, Q_X10_, Q_X11_, fun _ => rfl⟩
                  exact steps_nil
                · rintro b a w' hall ⟨b38, b42, c42, b43, c43, m6_, m10_, m11_, m12_, ha, Q_BB, Q_RX, Q_R42, Q_O43, Q_X6_, Q_X10_, Q_X11_, Q_X12_⟩
                  clear BB
                  have hb0_ := hall 0 (by kernel_rfl)
                  have hb1_ := hall 1 (by kernel_rfl)
                  have hb2_ := hall 2 (by kernel_rfl)
                  have hb3_ := hall 3 (by kernel_rfl)
                  have hb4_ := hall 4 (by kernel_rfl)
                  have hb5_ := hall 5 (by kernel_rfl)
                  have hb6_ := hall 6 (by kernel_rfl)
                  have hb7_ := hall 7 (by kernel_rfl)
                  have hb8_ := hall 8 (by kernel_rfl)
                  have hb9_ := hall 9 (by kernel_rfl)
                  have hb10_ := hall 10 (by kernel_rfl)
                  have hb11_ := hall 11 (by kernel_rfl)
                  have hb12_ := hall 12 (by kernel_rfl)
                  subst ha
                  obtain rfl := Q_X6_ hb6_
                  obtain rfl := Q_X10_ hb10_
                  obtain rfl := Q_X11_ hb11_
                  obtain rfl := Q_X12_ hb12_
                  simp only [putSel, hb0_, hb1_, hb2_, hb3_, hb4_, hb5_, hb6_, hb7_, hb8_, hb9_, hb10_, hb11_, hb12_, if_true, Act.put, List.setIfInBounds_toArray, List.set_cons_zero, List.set_cons_succ]
                  have BB := Aside0.mk Q_BB
                  clear Q_BB
                  have RX := Aside0.mk (Q_RX hb6_)
                  clear Q_RX
                  have R42 := Aside0.mk (Q_R42 hb10_)
                  clear Q_R42
                  have O43 := Aside0.mk (Q_O43 hb11_)
                  clear Q_O43
                  clear hall hb0_ hb1_ hb2_ hb3_ hb4_ hb5_ hb6_ hb7_ hb8_ hb9_ hb10_ hb11_ hb12_
                  have HNB := Lib.hid (show Below wi.heap.size wi w' from DZ.out _ BB.out)
                  have HO := Lib.hid O43.out
                  rw [HINS.out] at HO
                  clear O43 BB RX R42 R35 R41 R35z R41z HEz HB0 DZ HINS
                  go_wp2
                  go_roundw
                  case rel =>
                    refine ⟨j + 1, by omega, by go_num, Lib.hid ⟨_, _, _, rfl, ?_⟩, Lib.hid (bl_seq_ HBW.out (bl_seq_ HBI.out HNB.out))⟩
                    rw [HNX.out]
                    have hn_ : k + (1 + (n - k)) = (insS x xs).length := by rw [insS_length]; have h_ := HK.out; have h2_ := HN.out; omega
                    refine ⟨?_, hn_⟩
                    exact HO.out
                  case measure => simp [intOf]; omega
    · have hfin : l0.take j = l0 := List.take_of_length_le (by omega)
      rw [hfin, HR.out] at HOV
      clear hfin
      obtain ⟨A, n, c, rfl, ho, hn⟩ := HOV.out
      subst hn
      have HO := Lib.hid ho
      clear ho
      go_wp2
      go_ret
      exact ⟨_, rfl, Kd.R_of_own (by rw [hB0]; exact HO.out) (fun _ _ => trivial), HBW.out⟩

end Go.Proofs.YtaomgddfkpcdhaaDoor.XDir
