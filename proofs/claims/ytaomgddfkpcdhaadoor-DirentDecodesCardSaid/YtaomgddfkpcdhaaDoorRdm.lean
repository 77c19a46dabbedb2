import Derived.Test.YtaomgddfkpcdhaaDoorMods
import Derived.WalkSpells
/-! The reader, further: U64, Raw, Text, Left, Zero. -/
set_option linter.unusedVariables false
set_option linter.unusedSimpArgs false
namespace Go.Proofs.YtaomgddfkpcdhaaDoor
open Go.RowKit Go.Proofs.YtaomgddfkpcdhaaDoorW.PrintWords
theorem RdV.mods {w : World} {p m c : Nat} {A : Option Addr} {k : Int} (h : RdV w p A m c k) (q : Nat) (x : Int) : RdV ((w.drewN q).setCell ⟨p, 1, none⟩ (.int .i64 x)) p A m c x := blk_put (blk_drewN h q) 1 _ (by simp)
set_option maxHeartbeats 1000000 in
theorem mText_yes (p : Nat) (A : Option Addr) (m c : Nat) (k n : Nat) (xs : List Int) (w : World) (h : RdV w p A m c k) (hr : ReadsInt w .u8 A m xs) (hb : Byt xs) (hc : m ≤ c) (hn : num ((xs.drop k).take 1) = n) (hkn : k + 1 + n ≤ m) (hne : ∀ a, A = some a → a.block ≠ p) :
    Calls Tryd.prog 11 #[.pointer (some ⟨p, 0, none⟩)] w fun e w' => e = .returned (.string (strOfNums ((xs.drop (k + 1)).take n))) ∧ RdV w' p A m c ((k + 1 + n : Nat) : Int) ∧ Mods (fun i => i = p) w w' := by
  have hcc := Lib.hid (mU8_yes p A m c k xs w h hr hb hc (by omega) hne)
  have HX := Lib.hid (And.intro hr hne)
  have hnb := num_bound ((xs.drop k).take 1) (fun x hx => hb x (List.mem_of_mem_drop (List.mem_of_mem_take hx)))
  have hl1 : ((xs.drop k).take 1).length = 1 := by rw [List.length_take, List.length_drop, hr.1]; omega
  rw [hl1, hn] at hnb
  have hn2 : n < 256 := by have := hnb.2; omega
  rw [hn] at hcc
  clear hr hb hne h hn hnb hl1
  go_enter Tryd.func11, Tryd.ntmps11
  go_wp2_with fail
  refine hcc.out.mono ?_
  rintro e w1 ⟨rfl, h1, h2⟩
  have hr1 := h2.reads HX.out.1 (fun a ha => HX.out.2 a ha)
  have ht := Lib.hid (take_yes p A m c (k + 1) n xs w1 h1 hr1 hc hkn HX.out.2)
  have H1 := Lib.hid (And.intro h1 h2)
  clear h1 h2 hr1
  go_wp2_with fail
  refine ht.out.mono ?_
  rintro e w2 ⟨B, d, rfl, hb2, hd, _, q, hw⟩
  have ks := string_of_reads (P := Tryd.prog) (c := d) Tryd.underlying22 Tryd.underlying5 Tryd.underlying9 hb2
  have HW := Lib.hid hw
  clear hw hb2
  go_wp2_with fail
  go_ret
  refine ⟨rfl, ?_, ?_⟩
  · rw [HW.out]; exact H1.out.1.mods q _
  · rw [HW.out]; exact Mods.at_ (S := fun i => i = p) (H1.out.2.drewN q) (.inl rfl) 1 _
set_option maxHeartbeats 1000000 in
theorem mText_no1 (p : Nat) (A : Option Addr) (m c : Nat) (k : Nat) (w : World) (h : RdV w p A m c k) (hkm : k ≤ m) (hm : m ≤ 9223372036854775807) (hn : m < k + 1) :
    Calls Tryd.prog 11 #[.pointer (some ⟨p, 0, none⟩)] w fun e w' => e = .panicked (shortP k) ∧ Mods (fun i => i = p) w w' := by
  have hc := Lib.hid (mU8_no p A m c k w h hkm hm hn)
  clear h
  go_enter Tryd.func11, Tryd.ntmps11
  go_wp2_with fail
  refine hc.out.mono ?_
  rintro e w1 ⟨rfl, h1⟩
  exact ⟨rfl, rfl, h1⟩
set_option maxHeartbeats 1000000 in
theorem mText_no2 (p : Nat) (A : Option Addr) (m c : Nat) (k n : Nat) (xs : List Int) (w : World) (h : RdV w p A m c k) (hr : ReadsInt w .u8 A m xs) (hb : Byt xs) (hc : m ≤ c) (hn : num ((xs.drop k).take 1) = n) (hk1 : k + 1 ≤ m) (hkn : m < k + 1 + n) (hne : ∀ a, A = some a → a.block ≠ p) :
    Calls Tryd.prog 11 #[.pointer (some ⟨p, 0, none⟩)] w fun e w' => e = .panicked (shortP ((k + 1 : Nat) : Int)) ∧ Mods (fun i => i = p) w w' := by
  have hm := hr.2.1
  have hcc := Lib.hid (mU8_yes p A m c k xs w h hr hb hc (by omega) hne)
  have hnb := num_bound ((xs.drop k).take 1) (fun x hx => hb x (List.mem_of_mem_drop (List.mem_of_mem_take hx)))
  have hl1 : ((xs.drop k).take 1).length = 1 := by rw [List.length_take, List.length_drop, hr.1]; omega
  rw [hl1, hn] at hnb
  have hn2 : n < 256 := by have := hnb.2; omega
  rw [hn] at hcc
  clear hr hb hne h hn hnb hl1
  go_enter Tryd.func11, Tryd.ntmps11
  go_wp2_with fail
  refine hcc.out.mono ?_
  rintro e w1 ⟨rfl, h1, h2⟩
  have ht := Lib.hid (take_no p A m c ((k + 1 : Nat) : Int) n w1 h1 (by omega) (by omega) hm (.inr (by omega)))
  have H1 := Lib.hid h2
  clear h1 h2
  go_wp2_with fail
  refine ht.out.mono ?_
  rintro e w2 ⟨rfl, q, rfl⟩
  exact ⟨rfl, rfl, H1.out.drewN q⟩
theorem mZero_nil (w : World) : Calls Tryd.prog 12 #[.pointer none] w fun e w' => e = .returned (.bool true) ∧ w = w' := by
  go_enter Tryd.func12, Tryd.ntmps12
  go_wp2
  go_ret
  exact ⟨rfl, rfl⟩
set_option maxHeartbeats 2000000 in
theorem mZero (p : Nat) (A : Option Addr) (m c : Nat) (k : Nat) (xs : List Int) (w : World) (h : RdV w p A m c k) (hr : ReadsInt w .u8 A m xs) (hc : m ≤ c) (hkm : k ≤ m) :
    Calls Tryd.prog 12 #[.pointer (some ⟨p, 0, none⟩)] w fun e w' => e = .returned (.bool ((xs.drop k).all (· == 0))) ∧ Drawn0 w w' := by
  have hm := hr.2.1
  have z0 := (blk_cell h 0).trans rfl
  have z1 := (blk_cell h 1).trans rfl
  have hd := hr.drop_ k (by omega) hc
  obtain ⟨ys, hys⟩ : ∃ ys, xs.drop k = ys := ⟨_, rfl⟩
  rw [hys] at hd ⊢
  have hyl : ys.length = m - k := hd.1
  have HY := Lib.hid hyl
  have e1 : (k : Int).toNat = k := by omega
  clear hr hys hyl h
  by_cases ck : c = k
  · subst ck
    have hcm : m = c := by omega
    subst hcm
    have hy0 : ys = [] := List.eq_nil_of_length_eq_zero (by have := HY.out; omega)
    subst hy0
    have e2 : m - m = 0 := by omega
    clear hd HY
    go_enter Tryd.func12, Tryd.ntmps12
    go_wp2
    go_quiet (fail)
    go_wp2
    go_loopw [17] (fun i wr => i = .int .i64 0 ∧ Hid (Drawn0 w wr)) (fun i _ => 0)
    case atStart => exact ⟨rfl, Lib.hid (by first | exact (Drawn0.refl w).step _ | exact Drawn0.refl w)⟩
    case round =>
      obtain ⟨rfl, HD⟩ := hrel
      go_wp2
      go_ret
      exact ⟨rfl, HD.out⟩
  · rw [if_neg ck] at hd
    have HD := Lib.hid hd
    clear hd
    have hmk : (m : Int) - k = ((m - k : Nat) : Int) := by omega
    go_enter Tryd.func12, Tryd.ntmps12
    go_wp2
    go_quiet (fail)
    go_wp2
    have hcm : ((m - k : Nat) : Int) = ((m - k : Nat) : Int) := rfl
    go_loopw [17] (fun i wr => ∃ j : Nat, j ≤ m - k ∧ i = .int .i64 (j : Int) ∧ Hid ((ys.take j).all (· == 0) = true) ∧ Hid (Drawn0 w wr)) (fun i _ => (m - k) - (intOf i).toNat)
    case atStart => exact ⟨0, Nat.zero_le _, rfl, rfl, Lib.hid (by first | exact (Drawn0.refl w).step _ | exact Drawn0.refl w)⟩
    case round =>
      obtain ⟨j, hj, rfl, HZ, HW⟩ := hrel
      by_cases hlt : j < m - k
      · have hr1 := HD.out.below HW.out.below
        obtain ⟨ad, he, hcl⟩ := hr1.at_ (j : Int) (by omega) (by omega)
        rw [Int.toNat_natCast, rd_getD] at hcl
        have HE := Lib.hid he
        clear hr1
        obtain ⟨x0, hx0⟩ : ∃ x0, ys.getD j 0 = x0 := ⟨_, rfl⟩
        rw [hx0] at hcl
        have HX := Lib.hid hx0
        clear hx0 he
        have hjl : j < ys.length := by rw [HY.out]; exact hlt
        rw [HE.out]
        by_cases hz : x0 = 0
        · subst hz
          go_wp2
          go_roundw
          case rel =>
            refine ⟨j + 1, by omega, by go_num, ?_, ?_⟩
            · have h_ := HZ.out
              have e_ := HX.out
              rw [List.getD_eq_getElem?_getD, List.getElem?_eq_getElem hjl] at e_
              rw [List.take_succ_eq_append_getElem hjl]
              simp only [List.all_append, h_, List.all_cons, List.all_nil, Bool.and_true, Bool.true_and]
              exact Lib.hid (by simpa using e_)
            · first | exact HW | exact Lib.hid (HW.out.step _)
          case measure => simp [intOf]; omega
        · have hz2 : (x0 != 0) = true := by simpa using hz
          have hf : ys.all (· == 0) = false := by
            have e_ := HX.out
            rw [List.getD_eq_getElem?_getD, List.getElem?_eq_getElem hjl] at e_
            rw [Bool.eq_false_iff]
            intro ha
            have h2 := List.all_eq_true.1 ha ys[j] (List.getElem_mem _)
            simp only [Option.getD_some] at e_
            simp [e_] at h2
            exact hz h2
          have HF := Lib.hid hf
          clear hf
          go_wp2
          go_ret
          rw [HF.out]
          exact ⟨rfl, by first | exact HW.out | exact HW.out.step _⟩
      · have hf : ys.all (· == 0) = true := by have h_ := HZ.out; rwa [List.take_of_length_le (by rw [HY.out]; omega)] at h_
        have HF := Lib.hid hf
        clear hf
        go_wp2
        go_ret
        rw [HF.out]
        exact ⟨rfl, by first | exact HW.out | exact HW.out.step _⟩
end Go.Proofs.YtaomgddfkpcdhaaDoor
