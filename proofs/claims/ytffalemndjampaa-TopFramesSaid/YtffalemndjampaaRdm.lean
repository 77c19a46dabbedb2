import Derived.Test.YtffalemndjampaaMods
import Derived.WalkSpells
/-! The reader, further: U64, Raw, Text, Left, Zero. -/
set_option linter.unusedVariables false
set_option linter.unusedSimpArgs false
namespace Go.Proofs.Ytffalemndjampaa
open Go.RowKit Go.Proofs.YtffalemndjampaaW.PrintWords
theorem RdV.mods {w : World} {p m c : Nat} {A : Option Addr} {k : Int} (h : RdV w p A m c k) (q : Nat) (x : Int) : RdV ((w.drewN q).setCell ⟨p, 1, none⟩ (.int .i64 x)) p A m c x := blk_put (blk_drewN h q) 1 _ (by simp)
set_option maxHeartbeats 1000000 in
theorem mRaw_yes (p : Nat) (A : Option Addr) (m c : Nat) (k n : Nat) (xs : List Int) (w : World) (h : RdV w p A m c k) (hr : ReadsInt w .u8 A m xs) (hc : m ≤ c) (hkn : k + n ≤ m) (hm : m ≤ 1099511627776) (hne : ∀ a, A = some a → a.block ≠ p) :
    Calls Try.prog 14 #[.pointer (some ⟨p, 0, none⟩), .int .i64 n] w fun e w' => ∃ v, e = .returned v ∧ w'.ownsRow w.heap.size 5 1 v n (nums .u8 ((xs.drop k).take n)) ∧ RdV w' p A m c ((k + n : Nat) : Int) ∧ Mods (fun i => i = p) w w' := by
  have hcc := Lib.hid (take_yes p A m c k n xs w h hr hc hkn hne)
  have hl : ((xs.drop k).take n).length = n := by rw [List.length_take, List.length_drop, hr.1]; omega
  have HH := Lib.hid h
  obtain ⟨zs, hz⟩ : ∃ z, ((xs.drop k).take n) = z := ⟨_, rfl⟩
  rw [hz] at hcc hl ⊢
  have HL := Lib.hid hl
  have hn : n ≤ 1099511627776 := by omega
  clear hr hne hz h hl
  go_enter Try.func14, Try.ntmps14
  go_wp2_with fail
  refine hcc.out.mono ?_
  rintro e w1 ⟨B, d, rfl, hb, hd, _, q, hw⟩
  have HB := Lib.hid hb
  have h2 : RdV w1 p A m c ((k + n : Nat) : Int) := by rw [hw]; exact HH.out.mods q _
  have h3 : Mods (fun i => i = p) w w1 := by rw [hw]; exact Mods.at_ (S := fun i => i = p) ((Mods.refl _ w).drewN q) (.inl rfl) 1 _
  have hz1 : w1.heap.size = w.heap.size := by rw [hw]; simp [World.setCell]
  have HS := Lib.hid (And.intro h2 (And.intro h3 hz1))
  clear hb hw h2 h3 hz1
  go_wp2_with (at_builtin; refine print_append_row (w0 := w1) w1.heap.size rfl (.const (.slice none 0 0)) (.tmp 7) 27 5 .u8 1 rfl Try.underlying27 info5' (by decide) (.slice none 0 0) [] zs B n d rfl rfl (own_nil _ _ _ _) ?aR (Below.refl _ _) (Nat.le_refl _) ?aL ?_; (case aR => exact HB.out); (case aL => simp; omega); intro v2 w2 ho hb hg hat; have G2 := Lib.hid (And.intro ho hb); clear ho hb hg hat)
  go_ret
  obtain ⟨h2, h3, hz1⟩ := HS.out
  refine ⟨_, rfl, ?_, blk_below h2 G2.out.2, h3.trans (Mods.of_below G2.out.2)⟩
  have h_ := G2.out.1
  rw [hz1, List.nil_append, HL.out] at h_
  exact h_
set_option maxHeartbeats 1000000 in
theorem mRaw_no (p : Nat) (A : Option Addr) (m c : Nat) (k : Nat) (n : Int) (w : World) (h : RdV w p A m c k) (hkm : k ≤ m) (hm : m ≤ 9223372036854775807) (hn : n < 0 ∨ (m : Int) - k < n) :
    Calls Try.prog 14 #[.pointer (some ⟨p, 0, none⟩), .int .i64 n] w fun e w' => e = .panicked (shortP k) ∧ Mods (fun i => i = p) w w' := by
  have hc := Lib.hid (take_no p A m c k n w h (by omega) (by omega) hm hn)
  clear h hn
  go_enter Try.func14, Try.ntmps14
  go_wp2_with fail
  refine hc.out.mono ?_
  rintro e w1 ⟨rfl, q, rfl⟩
  exact ⟨rfl, rfl, (Mods.refl _ w).drewN q⟩
set_option maxHeartbeats 1000000 in
theorem mLeft (p : Nat) (A : Option Addr) (m c : Nat) (k : Nat) (w : World) (h : RdV w p A m c k) (hkm : k ≤ m) (hm : m ≤ 9223372036854775807) :
    Calls Try.prog 12 #[.pointer (some ⟨p, 0, none⟩)] w fun e w' => e = .returned (.int .i64 ((m : Int) - k)) ∧ ∃ q, w' = w.drewN q := by
  have z0 := (blk_cell h 0).trans rfl
  have z1 := (blk_cell h 1).trans rfl
  have hb1 : 0 ≤ (m : Int) - k := by omega
  clear h
  go_enter Try.func12, Try.ntmps12
  go_wp2
  go_quiet (fail)
  go_wp2
  go_ret
  exact ⟨rfl, _, rfl⟩
theorem mLeft_nil (w : World) : Calls Try.prog 12 #[.pointer none] w fun e w' => e = .returned (.int .i64 0) ∧ w = w' := by
  go_enter Try.func12, Try.ntmps12
  go_wp2
  go_ret
  exact ⟨rfl, rfl⟩
theorem mZero_nil (w : World) : Calls Try.prog 64 #[.pointer none] w fun e w' => e = .returned (.bool true) ∧ w = w' := by
  go_enter Try.func64, Try.ntmps64
  go_wp2
  go_ret
  exact ⟨rfl, rfl⟩
set_option maxHeartbeats 2000000 in
theorem mZero (p : Nat) (A : Option Addr) (m c : Nat) (k : Nat) (xs : List Int) (w : World) (h : RdV w p A m c k) (hr : ReadsInt w .u8 A m xs) (hc : m ≤ c) (hkm : k ≤ m) :
    Calls Try.prog 64 #[.pointer (some ⟨p, 0, none⟩)] w fun e w' => e = .returned (.bool ((xs.drop k).all (· == 0))) ∧ Drawn0 w w' := by
  have hm := hr.2.1
  have z0 := (blk_cell h 0).trans rfl
  have z1 := (blk_cell h 1).trans rfl
  have hd := hr.drop_ k (by omega) hc
  obtain ⟨ys, hys⟩ : ∃ ys, xs.drop k = ys := ⟨_, rfl⟩
  rw [hys] at hd ⊢
  have hyl : ys.length = m - k := hd.1
  have HY := Lib.hid hyl
  have e1 : (k : Int).toNat = k := by omega
  clear hr hys hyl h
  by_cases ck : c = k
  · subst ck
    have hcm : m = c := by omega
    subst hcm
    have hy0 : ys = [] := List.eq_nil_of_length_eq_zero (by have := HY.out; omega)
    subst hy0
    have e2 : m - m = 0 := by omega
    clear hd HY
    go_enter Try.func64, Try.ntmps64
    go_wp2
    go_quiet (fail)
    go_wp2
    go_loopw [17] (fun i wr => i = .int .i64 0 ∧ Hid (Drawn0 w wr)) (fun i _ => 0)
    case atStart => exact ⟨rfl, Lib.hid (by first | exact (Drawn0.refl w).step _ | exact Drawn0.refl w)⟩
    case round =>
      obtain ⟨rfl, HD⟩ := hrel
      go_wp2
      go_ret
      exact ⟨rfl, HD.out⟩
  · rw [if_neg ck] at hd
    have HD := Lib.hid hd
    clear hd
    have hmk : (m : Int) - k = ((m - k : Nat) : Int) := by omega
    go_enter Try.func64, Try.ntmps64
    go_wp2
    go_quiet (fail)
    go_wp2
    have hcm : ((m - k : Nat) : Int) = ((m - k : Nat) : Int) := rfl
    go_loopw [17] (fun i wr => ∃ j : Nat, j ≤ m - k ∧ i = .int .i64 (j : Int) ∧ Hid ((ys.take j).all (· == 0) = true) ∧ Hid (Drawn0 w wr)) (fun i _ => (m - k) - (intOf i).toNat)
    case atStart => exact ⟨0, Nat.zero_le _, rfl, rfl, Lib.hid (by first | exact (Drawn0.refl w).step _ | exact Drawn0.refl w)⟩
    case round =>
      obtain ⟨j, hj, rfl, HZ, HW⟩ := hrel
      by_cases hlt : j < m - k
      · have hr1 := HD.out.below HW.out.below
        obtain ⟨ad, he, hcl⟩ := hr1.at_ (j : Int) (by omega) (by omega)
        rw [Int.toNat_natCast, rd_getD] at hcl
        have HE := Lib.hid he
        clear hr1
        obtain ⟨x0, hx0⟩ : ∃ x0, ys.getD j 0 = x0 := ⟨_, rfl⟩
        rw [hx0] at hcl
        have HX := Lib.hid hx0
        clear hx0 he
        have hjl : j < ys.length := by rw [HY.out]; exact hlt
        rw [HE.out]
        by_cases hz : x0 = 0
        · subst hz
          go_wp2
          go_roundw
          case rel =>
            refine ⟨j + 1, by omega, by go_num, ?_, ?_⟩
            · have h_ := HZ.out
              have e_ := HX.out
              rw [List.getD_eq_getElem?_getD, List.getElem?_eq_getElem hjl] at e_
              rw [List.take_succ_eq_append_getElem hjl]
              simp only [List.all_append, h_, List.all_cons, List.all_nil, Bool.and_true, Bool.true_and]
              exact Lib.hid (by simpa using e_)
            · first | exact HW | exact Lib.hid (HW.out.step _)
          case measure => simp [intOf]; omega
        · have hz2 : (x0 != 0) = true := by simpa using hz
          have hf : ys.all (· == 0) = false := by
            have e_ := HX.out
            rw [List.getD_eq_getElem?_getD, List.getElem?_eq_getElem hjl] at e_
            rw [Bool.eq_false_iff]
            intro ha
            have h2 := List.all_eq_true.1 ha ys[j] (List.getElem_mem _)
            simp only [Option.getD_some] at e_
            simp [e_] at h2
            exact hz h2
          have HF := Lib.hid hf
          clear hf
          go_wp2
          go_ret
          rw [HF.out]
          exact ⟨rfl, by first | exact HW.out | exact HW.out.step _⟩
      · have hf : ys.all (· == 0) = true := by have h_ := HZ.out; rwa [List.take_of_length_le (by rw [HY.out]; omega)] at h_
        have HF := Lib.hid hf
        clear hf
        go_wp2
        go_ret
        rw [HF.out]
        exact ⟨rfl, by first | exact HW.out | exact HW.out.step _⟩
end Go.Proofs.Ytffalemndjampaa
