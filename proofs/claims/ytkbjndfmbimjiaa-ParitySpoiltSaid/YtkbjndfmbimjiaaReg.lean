import Derived.Test.YtkbjndfmbimjiaaRef
/-! The document's small functions (gabionref01), further: With, Pad, Text, Num. -/
namespace Go.Proofs.Ytkbjndfmbimjiaa
open Go.RowKit Go.Proofs.YtkbjndfmbimjiaaW.PrintWords
set_option maxHeartbeats 2000000 in
theorem rWith_any (xs ys : List Int) (A B : Option Addr) (c m d : Nat) (a : Int) (w : World) (hr : ReadsInt w .u8 A xs.length xs) (hc : xs.length ≤ c) (hy : ReadsInt w .u8 B m ys) (ha : 0 ≤ a) (hb : a + m ≤ xs.length) (hl : xs.length ≤ 1099511627776) :
    Calls Try.prog 19 #[.slice A xs.length c, .int .i64 a, .slice B m d] w fun e w' => ∃ v, e = .returned v ∧ New w w' v (xs.take a.toNat ++ ys ++ xs.drop (a + m).toNat) := by
  obtain ⟨i0, hi0, _, hs0, _⟩ := info_parts info5'
  obtain ⟨k1, k2, _⟩ := print_take_int (P := Try.prog) (k := .u8) 24 5 Try.underlying24 hi0 hs0 A c xs a ha (by omega) hc
  obtain ⟨C, q1, q2, _⟩ := print_drop_of (P := Try.prog) (Value.int .u8) 0 24 5 .i64 Try.underlying24 hi0 hs0 A c xs (a + m) (by omega) (by omega) hc
  have hm : ys.length = m := hy.1
  have HA := Lib.hid (k2 w hr)
  have HB := Lib.hid hy
  have HC := Lib.hid (readsInt_of.2 (q2 w (readsInt_of.1 hr)))
  clear k2 q2 hr hy hi0 hs0
  obtain ⟨us, hus⟩ : ∃ us, xs.take a.toNat = us := ⟨_, rfl⟩
  obtain ⟨zs, hzs⟩ : ∃ zs, xs.drop (a + m).toNat = zs := ⟨_, rfl⟩
  have hul : us.length ≤ 1099511627776 := by rw [← hus, List.length_take]; omega
  have hzl : zs.length ≤ 1099511627776 := by rw [← hzs, List.length_drop]; omega
  have hw : wrap64 (a + m) = a + m := by unfold wrap64; omega
  rw [hus] at k1 HA
  rw [hzs] at q1 HC
  rw [hus, hzs]
  have HM := Lib.hid hm
  clear hus hzs hm
  go_enter Try.func19, Try.ntmps19
  go_wp2_with (first | (at_builtin; refine print_append_row (w0 := w) w.heap.size rfl (.tmp 8) (.tmp 11) 24 5 .u8 1 rfl Try.underlying24 info5' (by decide) (.slice none 0 0) [] us A _ _ rfl rfl (own_nil _ _ _ _) HA.out (Below.refl _ _) (Nat.le_refl _) ?aL ?_; (case aL => simp; omega); intro v1 w1 ho hb2 hg hat; obtain ⟨A1, n1, c1, rfl⟩ := own_slice' ho; have G1 := Lib.hid (And.intro ho hb2); clear ho hb2 hg hat) | (at_builtin; refine print_append_row (w0 := w) w.heap.size rfl (.tmp 13) (.tmp 14) 24 5 .u8 1 rfl Try.underlying24 info5' (by decide) (.slice A1 n1 c1) us ys B m d rfl rfl (by have h_ := G1.out.1; rwa [List.nil_append] at h_) (HB.out.below G1.out.2) G1.out.2 G1.out.2.size ?aL ?_; (case aL => have := HM.out; omega); intro v2 w2 ho hb2 hg hat; obtain ⟨A2, n2, c2, rfl⟩ := own_slice' ho; have G2 := Lib.hid (And.intro ho hb2); clear ho hb2 hg hat) | (at_builtin; refine print_append_row (w0 := w) w.heap.size rfl (.tmp 16) (.tmp 22) 24 5 .u8 1 rfl Try.underlying24 info5' (by decide) (.slice A2 n2 c2) (us ++ ys) zs C _ _ rfl rfl G2.out.1 (HC.out.below G2.out.2) G2.out.2 G2.out.2.size ?aL ?_; (case aL => have := HM.out; simp; omega); intro v3 w3 ho hb2 hg hat; have G3 := Lib.hid (And.intro ho hb2); clear ho hb2 hg hat))
  go_ret
  exact ⟨_, rfl, G3.out.1, G3.out.2⟩
def padL (xs : List Int) (n : Int) : List Int := xs ++ List.replicate (n.toNat - xs.length) 0
set_option maxHeartbeats 2000000 in
theorem rPad_any (xs : List Int) (A : Option Addr) (c : Nat) (n : Int) (w : World) (hr : ReadsInt w .u8 A xs.length xs) (hc : xs.length ≤ c) (hn : n ≤ 1099511627776) (hn0 : -9223372036854775808 ≤ n) (hl : xs.length ≤ 1099511627776) :
    Calls Try.prog 23 #[.slice A xs.length c, .int .i64 n] w fun e w' => ∃ v, e = .returned v ∧ New w w' v (padL xs n) := by
  have HP := rPart_any xs A c 0 xs.length w hr hc (by omega) (by omega) (by omega) hl
  have e1 : (xs.take (0 + (xs.length : Int)).toNat).drop (0 : Int).toNat = xs := by simp
  rw [e1] at HP
  have HP := Lib.hid HP
  clear hr e1
  by_cases hlt : (xs.length : Int) < n
  · obtain ⟨k, hk⟩ : ∃ k : Nat, n - (xs.length : Int) = (k : Int) := ⟨(n - xs.length).toNat, by omega⟩
    have hkn : n.toNat - xs.length = k := by omega
    have HK := Lib.hid hkn
    have hkl : k ≤ 1099511627776 := by omega
    clear hkn
    go_enter Try.func23, Try.ntmps23
    go_wp2_with fail
    refine HP.out.mono ?_
    rintro e w1 ⟨v1, rfl, hn1⟩
    obtain ⟨A1, c1, rfl, hc1⟩ := hn1.slice
    have H1 := Lib.hid hn1
    clear hn1
    go_wp2_with fail
    refine (rZeros_any k _ hkl).mono ?_
    rintro e w2 ⟨v2, rfl, hn2⟩
    obtain ⟨A2, c2, rfl, hc2⟩ := hn2.slice
    have H2 := Lib.hid hn2
    clear hn2
    go_wp2_with (at_builtin; refine print_append_row (w0 := w) w.heap.size rfl (.tmp 14) (.tmp 19) 24 5 .u8 1 rfl Try.underlying24 info5' (by decide) (.slice A1 xs.length c1) xs (List.replicate k 0) A2 _ _ rfl rfl ?aO (by simpa using H2.out.reads) (bl_seq H1.out.2 H2.out.2) (bl_seq H1.out.2 H2.out.2).size ?aL ?_; (case aO => exact own_move H1.out.1 fun b hb => H2.out.2.block b (H1.out.1.lt b hb).2); (case aL => simp; omega); intro v3 w3 ho hb2 hg hat; have G3 := Lib.hid (And.intro ho hb2); clear ho hb2 hg hat)
    go_ret
    exact ⟨_, rfl, by rw [padL, HK.out]; exact ⟨G3.out.1, G3.out.2⟩⟩
  · have hkn : n.toNat - xs.length = 0 := by omega
    have HK := Lib.hid hkn
    clear hkn
    go_enter Try.func23, Try.ntmps23
    go_wp2_with fail
    refine HP.out.mono ?_
    rintro e w1 ⟨v1, rfl, hn1⟩
    obtain ⟨A1, c1, rfl, hc1⟩ := hn1.slice
    have H1 := Lib.hid hn1
    clear hn1
    go_wp2_with fail
    go_ret
    exact ⟨_, rfl, by rw [padL, HK.out]; simpa using H1.out⟩
/-- The number of some bytes, the lowest first. -/
def num : List Int → Int
  | [] => 0
  | x :: xs => x + 256 * num xs
theorem num_bound (xs : List Int) (h : Byt xs) : 0 ≤ num xs ∧ num xs < 256 ^ xs.length := by
  induction xs with
  | nil => simp [num]
  | cons x xs ih =>
    have h1 := h x (by simp)
    have h2 := ih fun y hy => h y (by simp [hy])
    simp only [num, List.length_cons, Int.pow_succ]
    omega
theorem num_snoc (xs : List Int) (x : Int) : num (xs ++ [x]) = num xs + x * 256 ^ xs.length := by
  induction xs with
  | nil => simp [num]
  | cons y xs ih => simp only [List.cons_append, num, ih, List.length_cons, Int.pow_succ, Int.mul_add]; rw [Int.mul_left_comm, Int.mul_comm 256 (256 ^ xs.length)]; omega
theorem le_num (xs : List Int) (h : Byt xs) : le (num xs) xs.length = xs := by
  induction xs with
  | nil => rfl
  | cons x xs ih =>
    have h1 := h x (by simp)
    have h2 := ih fun y hy => h y (by simp [hy])
    simp only [num, List.length_cons, le]
    rw [show (x + 256 * num xs) % 256 = x by omega, show (x + 256 * num xs) / 256 = num xs by omega, h2]
theorem num_le (x : Int) (n : Nat) (h0 : 0 ≤ x) (h1 : x < 256 ^ n) : num (le x n) = x := by
  induction n generalizing x with
  | zero => simp at h1; simp [le, num]; omega
  | succ n ih =>
    rw [Int.pow_succ] at h1
    simp only [le, num]
    rw [ih (x / 256) (by omega) (by omega)]
    omega
theorem pow256 {q : Nat} (k : Nat) (h : k ≤ q) (hq : q ≤ 4) : (256 : Int) ^ k ≤ 256 ^ q := by
  have h1 : q = 0 ∨ q = 1 ∨ q = 2 ∨ q = 3 ∨ q = 4 := by omega
  have h2 : k = 0 ∨ k = 1 ∨ k = 2 ∨ k = 3 ∨ k = 4 := by omega
  rcases h1 with rfl | rfl | rfl | rfl | rfl <;> rcases h2 with rfl | rfl | rfl | rfl | rfl <;> first | omega | decide
set_option maxHeartbeats 2000000 in
theorem rNum_any (xs : List Int) (A : Option Addr) (c : Nat) (a : Int) (n : Nat) (w : World) (hr : ReadsInt w .u8 A xs.length xs) (hb : Byt xs) (ha : 0 ≤ a) (hn : n ≤ 4) (hb2 : a + n ≤ xs.length) :
    Calls Try.prog 43 #[.slice A xs.length c, .int .i64 a, .int .i64 (n : Int)] w fun e w' => e = .returned (.int .u64 (num ((xs.drop a.toNat).take n))) ∧ Drawn0 w w' := by
  obtain ⟨b, rfl⟩ := Int.eq_ofNat_of_zero_le ha
  rw [Int.toNat_natCast]
  have hm := hr.2.1
  have HR := Lib.hid hr
  have HB := Lib.hid hb
  clear hr hb
  go_enter Try.func43, Try.ntmps43
  go_wp2
  go_loopw [7, 8, 9] (fun v q i wr => ∃ (k : Nat) (y z : Int), k ≤ n ∧ i = .int .i64 (k : Int) ∧ v = .int .u64 y ∧ q = .int .u64 z ∧ 0 ≤ y ∧ 0 ≤ z ∧ Hid (y = num ((xs.drop b).take k)) ∧ Hid (z = 256 ^ k) ∧ Hid (Drawn0 w wr)) (fun _ _ i _ => n - (intOf i).toNat)
  case atStart => exact ⟨0, 0, 1, Nat.zero_le _, rfl, rfl, rfl, by omega, by omega, rfl, rfl, Lib.hid (Drawn0.refl _)⟩
  case round =>
    obtain ⟨k, y, z, hk, rfl, rfl, rfl, hy0, hz0, HY, HZ, HD⟩ := hrel
    by_cases hlt : k < n
    · have hr1 := HR.out.below HD.out.below
      have hw : wrap64 ((b : Int) + (k : Int)) = (b : Int) + (k : Int) := by unfold wrap64; omega
      obtain ⟨ad, he, hc⟩ := hr1.at_ ((b : Int) + (k : Int)) (by omega) (by omega)
      subst he
      have hbk : ((b : Int) + (k : Int)).toNat = b + k := by omega
      have hc2 : rd xs ((b : Int) + (k : Int)) = xs.getD (b + k) 0 := by rw [rd, hbk]
      rw [hc2, hbk] at hc
      have hx := HB.out (xs.getD (b + k) 0) (by rw [List.getD_eq_getElem?_getD, List.getElem?_eq_getElem (show b + k < xs.length by omega)]; simp)
      obtain ⟨x0, hx0⟩ : ∃ x0, xs.getD (b + k) 0 = x0 := ⟨_, rfl⟩
      rw [hx0] at hc hx
      obtain ⟨hxa, hxb⟩ := hx
      have hsn : num ((xs.drop b).take (k + 1)) = y + x0 * z := by
        have hlen : k < (xs.drop b).length := by rw [List.length_drop]; omega
        have e_ : (xs.drop b)[k] = x0 := by
          rw [List.getD_eq_getElem?_getD, List.getElem?_eq_getElem (show b + k < xs.length by omega)] at hx0
          simpa using hx0
        rw [List.take_succ_eq_append_getElem hlen, num_snoc, e_, ← HY.out, List.length_take, List.length_drop, Nat.min_eq_left (by omega), ← HZ.out]
      have hbd : 0 ≤ num ((xs.drop b).take (k + 1)) ∧ num ((xs.drop b).take (k + 1)) < 256 ^ 4 := by
        have h_ := num_bound ((xs.drop b).take (k + 1)) (fun u hu => HB.out u (List.drop_subset _ _ (List.take_subset _ _ hu)))
        exact ⟨h_.1, Int.lt_of_lt_of_le h_.2 (pow256 (q := 4) _ (by rw [List.length_take]; omega) (by omega))⟩
      rw [hsn] at hbd
      have hz1 : z ≤ 256 ^ 3 := by rw [HZ.out]; exact pow256 _ (by omega) (by omega)
      have hxz : 0 ≤ x0 * z := Int.mul_nonneg hxa hz0
      obtain ⟨hd1, hd2⟩ := hbd
      simp only [show (256 : Int) ^ 4 = 4294967296 from rfl] at hd2
      simp only [show (256 : Int) ^ 3 = 16777216 from rfl] at hz1
      have m1 : IntKind.u64.wrap (x0 * z) = x0 * z := by rw [IntKind.wrap_u64]; omega
      have HS := Lib.hid hsn
      have HX := Lib.hid hx0
      clear hr1 hsn hx0 hc2
      go_wp2
      go_roundw
      case rel =>
        refine ⟨k + 1, y + x0 * z, z * 256, by omega, by go_num, by first | rfl | (simp [go_sem]; done), by first | rfl | (simp [go_sem]; done), by omega, by omega, Lib.hid HS.out.symm, Lib.hid ?_, ?_⟩
        · rw [Int.pow_succ, HZ.out]
        · first | exact HD | exact Lib.hid (HD.out.step _)
      case measure => simp [intOf]; omega
    · have hfin : y = num ((xs.drop b).take n) := by have h_ := HY.out; rwa [show k = n by omega] at h_
      have HF := Lib.hid hfin
      clear hfin
      go_wp2
      go_ret
      rw [HF.out]
      exact ⟨rfl, by first | exact HD.out | exact HD.out.step _⟩
end Go.Proofs.Ytkbjndfmbimjiaa
