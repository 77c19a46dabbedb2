import Derived.Test.YtaomgddfkpcdhaaDoorXDirpDe8
import Derived.Test.YtaomgddfkpcdhaaDoorXDirpChk
/-! gabionref17.DecodeEntry. -/
set_option linter.unusedVariables false
set_option linter.unusedSimpArgs false
namespace Go.Proofs.YtaomgddfkpcdhaaDoor.XDir
open Go.RowKit Go.Proofs.YtaomgddfkpcdhaaDoorW.PrintWords Go.Proofs.YtaomgddfkpcdhaaDoorW.PrintLast Go.Proofs.YtaomgddfkpcdhaaDoorW.PrintMore
def Den.T4 : Bool × List (List Nat × List Nat) := (true, [([], []), ([0], [0]), ([1], [1]), ([], []), ([], []), ([4], [4]), ([3, 5], [3, 5]), ([6], [6]), ([2, 7], [2, 7]), ([], []), ([9, 8, 1, 0, 1, 2, 3, 4, 5, 6, 7, 8, 9], [8, 9])])
def Den.B4 : List Nat := [0, 1, 3, 0, 0, 16, 56, 120, 255, 0, 1023]
theorem Den.tab4 : rtab .any (opsOf Tryd.f6 4) = Den.T4 := by kernel_rfl
theorem Den.bits4 : waitsOk Den.T4.2 Den.B4 = true := by kernel_rfl
def DeQ (w : World) (xs : List Int) (e : Ending) (w' : World) : Prop :=
  Below w.heap.size w w' ∧ ((entB xs = true ∧ e = .returned (.tuple #[.agg #[.int .i64 (ndX xs), .string (nmX xs)], .int .i64 0])) ∨ (entB xs = false ∧ e = .returned (.tuple #[.agg #[.int .i64 0, .string ⟨#[]⟩], .int .i64 62])))
theorem rd_num4 (xs : List Int) (k : Nat) (h : k < xs.length) : rd xs (k : Int) = num ((xs.drop k).take 1) := by
  have h1 : (xs.drop k).take 1 = [xs[k]] := by rw [List.drop_eq_getElem_cons h]; rfl
  rw [rd_getD, List.getD_eq_getElem?_getD, List.getElem?_eq_getElem h, h1]
  simp [num]
set_option maxHeartbeats 8000000 in
set_option maxRecDepth 100000 in
theorem dent_any (A : Option Addr) (c : Nat) (xs : List Int) (w : World) (hr : ReadsInt w .u8 A xs.length xs) (hb : Byt xs) (hc : xs.length ≤ c) :
    Calls Tryd.prog 6 #[.slice A xs.length c] w (DeQ w xs) := by
  have HR := Lib.hid hr
  have HB := Lib.hid hb
  by_cases h32 : xs.length = 32
  · obtain ⟨ad, hA, hcl⟩ := hr.at_ (4 : Int) (by omega) (by omega)
    have hnb := num_bound ((xs.drop 4).take 1) (fun x hx => hb x (List.mem_of_mem_drop (List.mem_of_mem_take hx)))
    have hlen1 : ((xs.drop 4).take 1).length = 1 := by rw [List.length_take, List.length_drop]; omega
    rw [hlen1] at hnb
    obtain ⟨n, hn⟩ := Int.eq_ofNat_of_zero_le hnb.1
    have hn256 : n < 256 := by have h_ := hnb.2; rw [hn] at h_; omega
    have hrd : rd xs (4 : Int) = (n : Int) := by rw [← hn]; exact rd_num4 xs 4 (by omega)
    rw [hrd] at hcl
    have hcl2 : ∀ o, (w.alloc o).cell? ⟨ad.block, ad.off + 4, none⟩ = some (.int .u8 (n : Int)) := fun o => pw_cell_below (below_alloc (Below.refl _ _) o) hcl
    have hnx : nX xs = n := by rw [nX, hn]; exact Int.toNat_natCast _
    have HNX := Lib.hid hnx
    have hw1 : wrap64 (n : Int) = (n : Int) := by unfold wrap64; omega
    have hw2 : IntKind.i64.wrap (n : Int) = (n : Int) := by rw [i64_w]; exact hw1
    have HAD := Lib.hid hA
    rw [h32] at hc ⊢
    have HC := Lib.hid hc
    have HL := Lib.hid h32
    clear hr hb hcl hnb hlen1 hn hrd hnx h32 hc
    by_cases h27 : 27 < n
    · have HD : Hid (entB xs = false) := Lib.hid (by
        have : ¬ nX xs ≤ 27 := by rw [HNX.out]; omega
        simp [entB, this])
      have f1 : decide ((27 : Int) < (n : Int)) = true := decide_eq_true (by omega)
      have f2 : decide (27 < n) = true := decide_eq_true h27
      have f3 : (27 : Int) < (n : Int) := by omega
      rw [HAD.out]
      clear hA h27
      go_enter Tryd.func6, Tryd.ntmps6
      go_wp2_with fail
      refine bodyPost_ret (v := .tuple #[.agg #[.int .i64 0, .string ⟨#[]⟩], .int .i64 62]) (by simp [results, Tryd.results6, go_sem]) rfl ⟨?_, .inr ⟨HD.out, rfl⟩⟩
      repeat (first | exact below_alloc (Below.refl _ _) _ | apply pw_below_drewN | apply below_drew1)
    have h27' : n ≤ 27 := by omega
    have f1 : (n : Int) ≤ 27 := by omega
    obtain ⟨m5, hm5⟩ : ∃ m5, 5 + n = m5 := ⟨_, rfl⟩
    have hw3 : wrap64 (5 + (n : Int)) = (m5 : Int) := by unfold wrap64; omega
    have HM5 := Lib.hid hm5
    have lm5 : m5 ≤ 32 := by omega
    obtain ⟨i0, hi0, _, hs0, _⟩ := info_parts info5'
    obtain ⟨A6, k1, k2, k3⟩ := print_mid_int (P := Tryd.prog) (k := .u8) 22 5 Tryd.underlying22 hi0 hs0 A c xs 5 (m5 : Int) (by omega) (by omega) (by rw [HL.out]; omega) (by rw [HL.out]; exact HC.out)
    have hmid : (xs.take (m5 : Int).toNat).drop (5 : Int).toNat = (xs.drop 5).take n := by
      rw [Int.toNat_natCast, show (5 : Int).toNat = 5 from rfl, List.drop_take]
      congr 1
      omega
    have hml : ((xs.drop 5).take n).length = n := by rw [List.length_take, List.length_drop, HL.out]; omega
    rw [hmid, hml, HL.out] at k1
    rw [hmid, hml] at k2
    have hr6 := k2 w HR.out
    obtain ⟨c6, hc6⟩ : ∃ c6, c - (5 : Int).toNat = c6 := ⟨_, rfl⟩
    rw [hc6] at k1
    obtain ⟨A7, j1, j2⟩ := print_cut (P := Tryd.prog) 22 5 .i64 Tryd.underlying22 hi0 hs0 A 32 c m5 (by omega)
    have hr7 := j2 w .u8 xs HC.out (by have h_ := HR.out; rw [HL.out] at h_; exact h_)
    obtain ⟨n7, hn7⟩ : ∃ n7, 32 - m5 = n7 := ⟨_, rfl⟩
    obtain ⟨c7, hc7⟩ : ∃ c7, c - m5 = c7 := ⟨_, rfl⟩
    rw [hn7, hc7] at j1
    rw [hn7] at hr7
    have hl7 : (xs.drop m5).length = n7 := by rw [List.length_drop, HL.out]; exact hn7
    have HND : Hid (ndX xs = num ((xs.drop 0).take 4) ∧ nmX xs = strOfNums ((xs.drop 5).take n)) := Lib.hid ⟨rfl, by rw [nmX, HNX.out]⟩
    have hent : entB xs = ((xs.drop m5).all (· == 0) && ((num ((xs.drop 0).take 4) == 0) == (n == 0)) && ((num ((xs.drop 0).take 4) == 0) || (chkS (strOfNums ((xs.drop 5).take n)) == 0))) := by
      rw [entB, zX, nmX, HNX.out, HL.out, hm5]; simp [h27', ndX]
    have hsz := nm_size xs 5 n (by rw [HL.out]; omega)
    have hnd4 := num_bound ((xs.drop 0).take 4) (fun x hx => HB.out x (List.mem_of_mem_drop (List.mem_of_mem_take hx)))
    have hl4 : ((xs.drop 0).take 4).length = 4 := by rw [List.length_take, List.length_drop, HL.out]; rfl
    rw [hl4] at hnd4
    have NU : Hid (∀ W, Below w.heap.size w W → Calls Tryd.prog 14 #[.slice A 32 c, .int .i64 0, .int .i64 4] W fun e W' => e = .returned (.int .u64 (num ((xs.drop 0).take 4))) ∧ Drawn0 W W') := Lib.hid (fun W hW => by
      have h_ := rNum_any xs A c 0 4 W (HR.out.below hW) HB.out (by omega) (by omega) (by rw [HL.out]; decide)
      rw [HL.out] at h_
      exact h_)
    have HIZ : Hid (∀ W, Below w.heap.size w W → Calls Tryd.prog 15 #[.slice A7 n7 c7] W fun e W' => e = .returned (.bool ((xs.drop m5).all (· == 0))) ∧ Drawn0 W W') := Lib.hid (fun W hW => by
      have h_ := rIsZero_any (xs.drop m5) A7 c7 W (by rw [hl7]; exact hr7.below hW)
      rw [hl7] at h_
      exact h_)
    have HKS := Lib.hid (fun (W : World) (hW : Below w.heap.size w W) => string_of_reads (P := Tryd.prog) (c := c6) Tryd.underlying22 Tryd.underlying5 Tryd.underlying9 (hr6.below hW))
    obtain ⟨kc, hkc⟩ := check_eq (strOfNums ((xs.drop 5).take n)) (by omega)
    have HKC := Lib.hid (hkc kc (Nat.le_refl _))
    obtain ⟨nd, hnd⟩ : ∃ nd, num ((xs.drop 0).take 4) = nd := ⟨_, rfl⟩
    obtain ⟨nm, hnm⟩ : ∃ nm, strOfNums ((xs.drop 5).take n) = nm := ⟨_, rfl⟩
    obtain ⟨bz, hbz⟩ : ∃ bz, (xs.drop m5).all (· == 0) = bz := ⟨_, rfl⟩
    rw [hnd, hnm, hbz] at hent
    rw [hnd] at hnd4
    have HW64 : Hid (IntKind.i64.wrap nd = nd ∧ wrap64 nd = nd) := Lib.hid (by
      have h_ : wrap64 nd = nd := by unfold wrap64; omega
      exact ⟨by rw [i64_w]; exact h_, h_⟩)
    rw [hnd, hnm] at HND
    simp only [hnd] at NU
    simp only [hbz] at HIZ
    simp only [hnm] at HKS HKC
    have HE := Lib.hid hent
    have hnd0 : 0 ≤ nd := hnd4.1
    clear hent hnd hnm hbz hsz hnd4 hl4 hmid hml k2 k3 hr6 hc6 j2 hr7 hn7 hc7 hl7 hkc hi0 hs0 h27 hm5
    have BB : Hid (Below w.heap.size w (w.alloc (.cells #[.int .i64 0, .string ⟨#[]⟩] 31))) := Lib.hid (below_alloc (Below.refl _ _) _)
    have G0 : Hid ((w.alloc (.cells #[.int .i64 0, .string ⟨#[]⟩] 31)).heap[w.heap.size]? = some (.cells #[.int .i64 0, .string ⟨#[]⟩] 31 (0, 0))) := Lib.hid (heap_alloc_new w _)
    have J1 := Lib.hid j1
    have hcl3 := hcl2
    rw [HAD.out] at NU k1 J1 ⊢
    clear hA j1 hcl3
    go_enter Tryd.func6, Tryd.ntmps6
    go_wp2_with fail
    obtain ⟨wy, hwy⟩ : ∃ wy, w.alloc (.cells #[.int .i64 0, .string ⟨#[]⟩] 31) = wy := ⟨_, rfl⟩
    rw [hwy] at BB G0 ⊢
    clear hwy hcl2
    refine start_ (n := 11) (S := fun w' => True) (ds := []) #[false, false, false, false, false, false, false, false, false, false, false] (by kernel_rfl) rfl rfl trivial (fun hHeld => ?_)
    refine with_tabW Den.tab4 Den.bits4 (fun HT_ HW_ => ?_)
    have BB := Lib.hid (bl_drew BB.out)
    have G0 := Lib.hid (show wy.drew.heap[w.heap.size]? = some (.cells #[.int .i64 0, .string ⟨#[]⟩] 31 (0, 0)) from G0.out)
    generalize wy.drew = wz at BB G0 hHeld ⊢
    refine pure_ (i := 0) (N := some 21) (v := ?_) (a' := ?_) #[true, false, false, false, false, false, false, false, false, false, false] rfl rfl (any_of HT_.out (by kernel_rfl)) (fun _ _ _ h => h) (Or.inl ⟨by rfl, ?_⟩) ?_ ?_
    rotate_left
    · intro w'
      go_simp
      with_reducible rfl
    rotate_left
    · simp only [Act.put, List.setIfInBounds_toArray, List.set_cons_zero, List.set_cons_succ, i64_w, i32_w]
      rfl
    refine pure_ (i := 3) (N := some 24) (v := ?_) (a' := ?_) #[true, false, false, true, false, false, false, false, false, false, false] rfl rfl (any_of HT_.out (by kernel_rfl)) (fun _ _ _ h => h) (Or.inl ⟨by rfl, ?_⟩) ?_ ?_
    rotate_left
    · intro w'
      go_simp
      with_reducible rfl
    rotate_left
    · simp only [Act.put, List.setIfInBounds_toArray, List.set_cons_zero, List.set_cons_succ, i64_w, i32_w]
      rfl
    refine pure_ (i := 4) (N := some 25) (v := ?_) (a' := ?_) #[true, false, false, true, true, false, false, false, false, false, false] rfl rfl (any_of HT_.out (by kernel_rfl)) (fun _ _ _ h => h) (Or.inl ⟨by rfl, ?_⟩) ?_ ?_
    rotate_left
    · intro w'
      go_simp
      with_reducible rfl
    rotate_left
    · simp only [Act.put, List.setIfInBounds_toArray, List.set_cons_zero, List.set_cons_succ, i64_w, i32_w]
      rfl
    refine pure_ (i := 5) (N := some 26) (v := ?_) (a' := ?_) #[true, false, false, true, true, true, false, false, false, false, false] rfl rfl (any_of HT_.out (by kernel_rfl)) (fun _ _ _ h => h) (Or.inl ⟨by rfl, ?_⟩) ?_ ?_
    rotate_left
    · intro w'
      go_simp
      with_reducible rfl
    rotate_left
    · simp only [Act.put, List.setIfInBounds_toArray, List.set_cons_zero, List.set_cons_succ, i64_w, i32_w]
      rfl
    refine pure_ (i := 6) (N := some 27) (v := ?_) (a' := ?_) #[true, false, false, true, true, true, true, false, false, false, false] rfl rfl (any_of HT_.out (by kernel_rfl)) (fun _ _ _ h => h) (Or.inl ⟨by rfl, ?_⟩) ?_ ?_
    rotate_left
    · intro w'
      go_simp
      with_reducible rfl
    rotate_left
    · simp only [Act.put, List.setIfInBounds_toArray, List.set_cons_zero, List.set_cons_succ, i64_w, i32_w]
      rfl
    refine inv_at [1, 2, 7, 8, 9, 10] (fun a0_ b a w' => ∃ (g : Nat) (m9_ : Value), a = putSel a0_ b [(1, 22, .int .u64 nd), (2, 23, .int .i64 nd), (7, 28, .string nm), (8, 29, .agg #[.int .i64 nd, .string nm]), (9, 5, m9_)] ∧ (Below w.heap.size w w') ∧ (w'.heap[w.heap.size]? = some (.cells #[.int .i64 0, .string ⟨#[]⟩] 31 (0, 0))) ∧ (b 9 = true → b 10 = false → w'.heap[g]? = some (.cells #[.int .i64 0, .string ⟨#[]⟩] 31 (0, 0))) ∧ (b 9 = true → w.heap.size < g) ∧ (b 10 = true → w'.heap[g]? = some (.cells #[.int .i64 nd, .string nm] 31 (0, 0))) ∧ (b 9 = true → (m9_ : Value) = .pointer (some ⟨g, 0, none⟩))) HT_.out HW_.out (by kernel_rfl) (by kernel_rfl) ?_ ?_ ?_
    · exact ⟨0, .bool false, by simp only [putSel, Bool.false_eq_true, if_false], BB.out, G0.out, fun h_ => absurd h_ (by decide), fun h_ => absurd h_ (by decide), fun h_ => absurd h_ (by decide), fun h_ => absurd h_ (by decide)⟩
    · skip
      clear BB G0
      refine steps_cons ?_ ?_
      · rintro b a w' ⟨g, m9_, ha, Q_BB, Q_G0, Q_HZ, Q_GE, Q_HV, Q_X9_⟩ hb_ hon hoff
        refine ⟨_, rfl, fun K hK => ?_⟩
        have e21 : a.tmps[21]? = some (.slice (some ad) 32 c) := by rw [ha]; exact (putSel_off rfl).trans rfl
        replace ha := Aside0.mk ha
        have BB := Aside0.mk Q_BB
        have G0 := Aside0.mk Q_G0
        refine goes_ Tryd.func14 (by kernel_rfl) rfl #[.slice (some ad) 32 c, .int .i64 0, .int .i64 4] (by rfl) rfl rfl (by first | (simp only [List.map_toArray, List.map_cons, List.map_nil, Act.eval, Array.getD_eq_getD_getElem?, Option.getD_some, e21]; done) | (simp only [List.map_toArray, List.map_cons, List.map_nil, Act.eval, Array.getD_eq_getD_getElem?, Option.getD_some, e21]; rfl)) ?_
        refine (NU.out w' BB.out).mono ?_
        rintro e w1 ⟨rfl, g1⟩
        refine ⟨_, rfl, ?_⟩
        refine hK.out _ _ ⟨g, m9_, (by rw [ha.out]; exact putSel_upk 0 hb_ rfl rfl rfl), bl_seq_ BB.out g1.below, blk_below G0.out g1.below, fun h0_ h1_ => blk_below (Q_HZ h0_ h1_) g1.below, fun h0_ => (Q_GE h0_), fun h0_ => absurd ((hoff 10 (by kernel_rfl)).symm.trans h0_) (by decide), Q_X9_⟩
      refine steps_cons ?_ ?_
      · rintro b a w' ⟨g, m9_, ha, Q_BB, Q_G0, Q_HZ, Q_GE, Q_HV, Q_X9_⟩ hb_ hon hoff
        refine ⟨_, rfl, fun K hK => ?_⟩
        have e22 : a.tmps[22]? = some (.int .u64 nd) := by rw [ha]; exact putSel_on (e := (1, 22, .int .u64 nd)) 0 rfl rfl (hon 1 (by kernel_rfl)) rfl
        replace ha := Aside0.mk ha
        have BB := Aside0.mk Q_BB
        have G0 := Aside0.mk Q_G0
        have hw1_ := HW64.out.1
        have hw2_ := HW64.out.2
        refine value_ (w1 := w') (v := .int .i64 nd) (by rfl) rfl ?_ ?_
        · go_simp
          (try simp only [i64_w])
          try rfl
        refine hK.out _ _ ⟨g, m9_, (by rw [ha.out]; exact putSel_upk 1 hb_ rfl rfl rfl), Q_BB, Q_G0, Q_HZ, Q_GE, fun h0_ => absurd ((hoff 10 (by kernel_rfl)).symm.trans h0_) (by decide), Q_X9_⟩
      refine steps_cons ?_ ?_
      · rintro b a w' ⟨g, m9_, ha, Q_BB, Q_G0, Q_HZ, Q_GE, Q_HV, Q_X9_⟩ hb_ hon hoff
        refine ⟨_, rfl, fun K hK => ?_⟩
        have e27 : a.tmps[27]? = some (.slice A6 n c6) := by rw [ha]; exact (putSel_off rfl).trans rfl
        replace ha := Aside0.mk ha
        have BB := Aside0.mk Q_BB
        have G0 := Aside0.mk Q_G0
        have ks_ := HKS.out w' BB.out
        refine value_ (w1 := w') (v := .string nm) (by rfl) rfl ?_ ?_
        · go_simp
          (try simp only [i64_w])
          try rfl
        refine hK.out _ _ ⟨g, m9_, (by rw [ha.out]; exact putSel_upk 2 hb_ rfl rfl rfl), Q_BB, Q_G0, Q_HZ, Q_GE, fun h0_ => absurd ((hoff 10 (by kernel_rfl)).symm.trans h0_) (by decide), Q_X9_⟩
      refine steps_cons ?_ ?_
      · rintro b a w' ⟨g, m9_, ha, Q_BB, Q_G0, Q_HZ, Q_GE, Q_HV, Q_X9_⟩ hb_ hon hoff
        refine ⟨_, rfl, fun K hK => ?_⟩
        have e23 : a.tmps[23]? = some (.int .i64 nd) := by rw [ha]; exact putSel_on (e := (2, 23, .int .i64 nd)) 1 rfl rfl (hon 2 (by kernel_rfl)) rfl
        have e28 : a.tmps[28]? = some (.string nm) := by rw [ha]; exact putSel_on (e := (7, 28, .string nm)) 2 rfl rfl (hon 7 (by kernel_rfl)) rfl
        replace ha := Aside0.mk ha
        have BB := Aside0.mk Q_BB
        have G0 := Aside0.mk Q_G0
        refine value_ (w1 := w') (v := .agg #[.int .i64 nd, .string nm]) (by rfl) rfl ?_ ?_
        · go_simp
          (try simp only [i64_w])
          try rfl
        refine hK.out _ _ ⟨g, m9_, (by rw [ha.out]; exact putSel_upk 3 hb_ rfl rfl rfl), Q_BB, Q_G0, Q_HZ, Q_GE, fun h0_ => absurd ((hoff 10 (by kernel_rfl)).symm.trans h0_) (by decide), Q_X9_⟩
      refine steps_cons ?_ ?_
      · rintro b a w' ⟨g, m9_, ha, Q_BB, Q_G0, Q_HZ, Q_GE, Q_HV, Q_X9_⟩ hb_ hon hoff
        refine ⟨_, rfl, fun K hK => ?_⟩
        replace ha := Aside0.mk ha
        have BB := Aside0.mk Q_BB
        have G0 := Aside0.mk Q_G0
        refine value_ (w1 := w'.alloc (.cells #[.int .i64 0, .string ⟨#[]⟩] 31)) (v := .pointer (some ⟨w'.heap.size, 0, none⟩)) (by rfl) rfl ?_ ?_
        · go_simp
          try rfl
        refine hK.out _ _ ⟨w'.heap.size, (.pointer (some ⟨w'.heap.size, 0, none⟩)), (by rw [ha.out]; exact putSel_upk 4 hb_ rfl rfl rfl), bl_alloc BB.out _, blk_alloc G0.out _, fun _ _ => heap_alloc_new w' _, fun _ => blk_lt G0.out, fun h0_ => absurd ((hoff 10 (by kernel_rfl)).symm.trans h0_) (by decide), fun _ => rfl⟩
      refine steps_cons ?_ ?_
      · rintro b a w' ⟨g, m9_, ha, Q_BB, Q_G0, Q_HZ, Q_GE, Q_HV, Q_X9_⟩ hb_ hon hoff
        refine ⟨_, rfl, fun K hK => ?_⟩
        have e5 : a.tmps[5]? = some (m9_) := by rw [ha]; exact putSel_on (e := (9, 5, m9_)) 4 rfl rfl (hon 9 (by kernel_rfl)) rfl
        rw [Q_X9_ (hon 9 (by kernel_rfl))] at e5
        have e29 : a.tmps[29]? = some (.agg #[.int .i64 nd, .string nm]) := by rw [ha]; exact putSel_on (e := (8, 29, .agg #[.int .i64 nd, .string nm])) 3 rfl rfl (hon 8 (by kernel_rfl)) rfl
        replace ha := Aside0.mk ha
        have BB := Aside0.mk Q_BB
        have G0 := Aside0.mk Q_G0
        have HZ := Aside0.mk (Q_HZ (hon 9 (by kernel_rfl)) hb_)
        have GE := Aside0.mk (Q_GE (hon 9 (by kernel_rfl)))
        have zc0 : w'.cell? ⟨g, 0, none⟩ = some (.int .i64 0) := (blk_cell HZ.out 0).trans rfl
        have zc1 : w'.cell? ⟨g, 1, none⟩ = some (.string ⟨#[]⟩) := (blk_cell HZ.out 1).trans rfl
        have zf0 := blk_frozen HZ.out 0
        have zf1 := blk_frozen HZ.out 1
        have ge_ := GE.out
        refine skip_ (w1 := (w'.setCell ⟨g, 0, none⟩ (.int .i64 nd)).setCell ⟨g, 1, none⟩ (.string nm)) (by rfl) rfl ?_ ?_
        · go_simp
          try simp only [zc0, zc1, zf0, zf1]
          try rfl
        refine hK.out _ _ ⟨g, m9_, (by rw [ha.out]; exact putSel_none (v := undef) rfl), bl_set (bl_set BB.out (p := ⟨g, 0, none⟩) (Nat.le_of_lt GE.out) _) (p := ⟨g, 1, none⟩) (Nat.le_of_lt GE.out) _, blk_far (blk_far G0.out (p := ⟨g, 0, none⟩) (Nat.ne_of_lt GE.out) _) (p := ⟨g, 1, none⟩) (Nat.ne_of_lt GE.out) _, fun _ h1_ => absurd ((up_self b 10).symm.trans h1_) (by decide), fun _ => GE.out, fun _ => blk_put (blk_put HZ.out 0 (.int .i64 nd) (cs' := #[.int .i64 nd, .string ⟨#[]⟩]) (by simp)) 1 (.string nm) (by simp), Q_X9_⟩
      exact steps_nil
    · rintro b a w' hall ⟨g, m9_, ha, Q_BB, Q_G0, Q_HZ, Q_GE, Q_HV, Q_X9_⟩
      clear BB G0
      have hb1_ := hall 1 (by kernel_rfl)
      have hb2_ := hall 2 (by kernel_rfl)
      have hb7_ := hall 7 (by kernel_rfl)
      have hb8_ := hall 8 (by kernel_rfl)
      have hb9_ := hall 9 (by kernel_rfl)
      have hb10_ := hall 10 (by kernel_rfl)
      subst ha
      obtain rfl := Q_X9_ hb9_
      simp only [putSel, hb1_, hb2_, hb7_, hb8_, hb9_, hb10_, if_true, Act.put, List.setIfInBounds_toArray, List.set_cons_zero, List.set_cons_succ]
      have BB := Aside0.mk Q_BB
      clear Q_BB
      have G0 := Aside0.mk Q_G0
      clear Q_G0
      clear Q_HZ
      have GE := Aside0.mk (Q_GE hb9_)
      clear Q_GE
      have HV := Aside0.mk (Q_HV hb10_)
      clear Q_HV
      clear hall hb1_ hb2_ hb7_ hb8_ hb9_ hb10_
      have BF := Lib.hid BB.out
      have HP := Lib.hid (And.intro G0.out HV.out)
      have HGE := Lib.hid GE.out
      clear BB G0 HV GE
      have j1 := J1.out
      have j1b := J1.out
      have e5 : (m5 : Int) = 5 + (n : Int) := by have h_ := HM5.out; omega
      simp only [e5] at j1b
      clear e5
      go_wp2_with fail
      refine (HIZ.out w' BF.out).mono ?_
      rintro e w7 ⟨rfl, hd⟩
      have T7 := Lib.hid (bl_seq_ BF.out hd.below)
      have HP7 := Lib.hid (And.intro (blk_below HP.out.1 hd.below) (blk_below HP.out.2 hd.below))
      clear hd j1 j1b
      have zx0 : w7.cell? ⟨g, 0, none⟩ = some (.int .i64 nd) := (blk_cell HP7.out.2 0).trans rfl
      have zx1 : w7.cell? ⟨g, 1, none⟩ = some (.string nm) := (blk_cell HP7.out.2 1).trans rfl
      have y0 := (blk_cell HP7.out.1 0).trans rfl
      have q0 := blk_frozen HP7.out.1 0
      have y1 := (blk_cell HP7.out.1 1).trans rfl
      have q1 := blk_frozen HP7.out.1 1
      cases bz with
      | false =>
        have HD : Hid (entB xs = false) := Lib.hid (by rw [HE.out]; rfl)
        go_wp2_with fail
        have hf := blk_put (blk_put HP7.out.1 0 (.int .i64 0) (cs' := #[(.int .i64 0), .string ⟨#[]⟩]) (by simp)) 1 (.string ⟨#[]⟩) (cs' := #[(.int .i64 0), (.string ⟨#[]⟩)]) (by simp)
        have T9 := bl_set (bl_set T7.out (p := ⟨w.heap.size, 0, none⟩) (Nat.le_refl _) (.int .i64 0)) (p := ⟨w.heap.size, 1, none⟩) (Nat.le_refl _) (.string ⟨#[]⟩)
        obtain ⟨w9, hw9⟩ : ∃ w9, ((w7.setCell ⟨w.heap.size, 0, none⟩ (.int .i64 0)).setCell ⟨w.heap.size, 1, none⟩ (.string ⟨#[]⟩)) = w9 := ⟨_, rfl⟩
        rw [hw9] at hf T9 ⊢
        have c0 : w9.cell? ⟨w.heap.size, 0, none⟩ = some (.int .i64 0) := (blk_cell hf 0).trans rfl
        have c1 : w9.cell? ⟨w.heap.size, 1, none⟩ = some (.string ⟨#[]⟩) := (blk_cell hf 1).trans rfl
        refine bodyPost_ret (v := .tuple #[.agg #[.int .i64 0, .string ⟨#[]⟩], .int .i64 62]) (by simp [results, Tryd.results6, go_sem, c0, c1]) rfl ⟨T9, .inr ⟨HD.out, rfl⟩⟩
      | true =>
        obtain ⟨d0, hd0⟩ : ∃ d0, (nd == 0) = d0 := ⟨_, rfl⟩
        obtain ⟨d1, hd1⟩ : ∃ d1, (n == 0) = d1 := ⟨_, rfl⟩
        rw [hd0, hd1] at HE
        have hd1I : ((n : Int) == 0) = d1 := by rw [← hd1, Bool.eq_iff_iff]; simp
        cases d0 with
        | true =>
          cases d1 with
          | true =>
            have HD : Hid (entB xs = true) := Lib.hid (by rw [HE.out]; rfl)
            have f5 : decide ((0 : Int) < (n : Int)) = false := by have h_ := eq_of_beq hd1; subst h_; rfl
            have f6 : decide (0 < n) = false := by have h_ := eq_of_beq hd1; subst h_; rfl
            go_wp2_with fail
            have hf := blk_put (blk_put HP7.out.1 0 (.int .i64 nd) (cs' := #[(.int .i64 nd), .string ⟨#[]⟩]) (by simp)) 1 (.string nm) (cs' := #[(.int .i64 nd), (.string nm)]) (by simp)
            have T9 := bl_set (bl_set T7.out (p := ⟨w.heap.size, 0, none⟩) (Nat.le_refl _) (.int .i64 nd)) (p := ⟨w.heap.size, 1, none⟩) (Nat.le_refl _) (.string nm)
            obtain ⟨w9, hw9⟩ : ∃ w9, ((w7.setCell ⟨w.heap.size, 0, none⟩ (.int .i64 nd)).setCell ⟨w.heap.size, 1, none⟩ (.string nm)) = w9 := ⟨_, rfl⟩
            rw [hw9] at hf T9 ⊢
            have c0 : w9.cell? ⟨w.heap.size, 0, none⟩ = some (.int .i64 nd) := (blk_cell hf 0).trans rfl
            have c1 : w9.cell? ⟨w.heap.size, 1, none⟩ = some (.string nm) := (blk_cell hf 1).trans rfl
            refine bodyPost_ret (v := .tuple #[.agg #[.int .i64 nd, .string nm], .int .i64 0]) (by simp [results, Tryd.results6, go_sem, c0, c1]) rfl ⟨T9, .inl ⟨HD.out, by rw [HND.out.1, HND.out.2]⟩⟩
          | false =>
            have HD : Hid (entB xs = false) := Lib.hid (by rw [HE.out]; rfl)
            go_wp2_with fail
            have hf := blk_put (blk_put HP7.out.1 0 (.int .i64 0) (cs' := #[(.int .i64 0), .string ⟨#[]⟩]) (by simp)) 1 (.string ⟨#[]⟩) (cs' := #[(.int .i64 0), (.string ⟨#[]⟩)]) (by simp)
            have T9 := bl_set (bl_set T7.out (p := ⟨w.heap.size, 0, none⟩) (Nat.le_refl _) (.int .i64 0)) (p := ⟨w.heap.size, 1, none⟩) (Nat.le_refl _) (.string ⟨#[]⟩)
            obtain ⟨w9, hw9⟩ : ∃ w9, ((w7.setCell ⟨w.heap.size, 0, none⟩ (.int .i64 0)).setCell ⟨w.heap.size, 1, none⟩ (.string ⟨#[]⟩)) = w9 := ⟨_, rfl⟩
            rw [hw9] at hf T9 ⊢
            have c0 : w9.cell? ⟨w.heap.size, 0, none⟩ = some (.int .i64 0) := (blk_cell hf 0).trans rfl
            have c1 : w9.cell? ⟨w.heap.size, 1, none⟩ = some (.string ⟨#[]⟩) := (blk_cell hf 1).trans rfl
            refine bodyPost_ret (v := .tuple #[.agg #[.int .i64 0, .string ⟨#[]⟩], .int .i64 62]) (by simp [results, Tryd.results6, go_sem, c0, c1]) rfl ⟨T9, .inr ⟨HD.out, rfl⟩⟩
        | false =>
          cases d1 with
          | true =>
            have HD : Hid (entB xs = false) := Lib.hid (by rw [HE.out]; rfl)
            go_wp2_with fail
            have hf := blk_put (blk_put HP7.out.1 0 (.int .i64 0) (cs' := #[(.int .i64 0), .string ⟨#[]⟩]) (by simp)) 1 (.string ⟨#[]⟩) (cs' := #[(.int .i64 0), (.string ⟨#[]⟩)]) (by simp)
            have T9 := bl_set (bl_set T7.out (p := ⟨w.heap.size, 0, none⟩) (Nat.le_refl _) (.int .i64 0)) (p := ⟨w.heap.size, 1, none⟩) (Nat.le_refl _) (.string ⟨#[]⟩)
            obtain ⟨w9, hw9⟩ : ∃ w9, ((w7.setCell ⟨w.heap.size, 0, none⟩ (.int .i64 0)).setCell ⟨w.heap.size, 1, none⟩ (.string ⟨#[]⟩)) = w9 := ⟨_, rfl⟩
            rw [hw9] at hf T9 ⊢
            have c0 : w9.cell? ⟨w.heap.size, 0, none⟩ = some (.int .i64 0) := (blk_cell hf 0).trans rfl
            have c1 : w9.cell? ⟨w.heap.size, 1, none⟩ = some (.string ⟨#[]⟩) := (blk_cell hf 1).trans rfl
            refine bodyPost_ret (v := .tuple #[.agg #[.int .i64 0, .string ⟨#[]⟩], .int .i64 62]) (by simp [results, Tryd.results6, go_sem, c0, c1]) rfl ⟨T9, .inr ⟨HD.out, rfl⟩⟩
          | false =>
            have hn0 : 0 < n := by have h_ : ¬ n = 0 := by simpa using hd1
                                   omega
            have f5 : decide ((0 : Int) < (n : Int)) = true := decide_eq_true (by omega)
            have f6 : decide (0 < n) = true := decide_eq_true hn0
            have f7 : (0 : Int) < (n : Int) := by omega
            obtain ⟨ck, hck⟩ : ∃ ck, chkS nm = ck := ⟨_, rfl⟩
            rw [hck] at HE HKC
            clear hck
            have HE2 : Hid (entB xs = (ck == 0)) := Lib.hid (by rw [HE.out]; simp)
            go_wp2_with fail
            refine (gabionref03_Check.calls kc nm ck w7 HKC.out).mono ?_
            rintro e w6 ⟨rfl, hb6⟩
            have hb7 : Below w7.heap.size w7 w6 := by first | exact hb6 | exact hb6.below
            have T6 := Lib.hid (bl_seq_ T7.out hb7)
            have HP6 := Lib.hid (And.intro (blk_below HP7.out.1 hb7) (blk_below HP7.out.2 hb7))
            clear hb6 hb7 zx0 zx1 y0 q0 y1 q1
            have zx0 : w6.cell? ⟨g, 0, none⟩ = some (.int .i64 nd) := (blk_cell HP6.out.2 0).trans rfl
            have zx1 : w6.cell? ⟨g, 1, none⟩ = some (.string nm) := (blk_cell HP6.out.2 1).trans rfl
            have y0 := (blk_cell HP6.out.1 0).trans rfl
            have q0 := blk_frozen HP6.out.1 0
            have y1 := (blk_cell HP6.out.1 1).trans rfl
            have q1 := blk_frozen HP6.out.1 1
            by_cases hz : ck = 0
            · have hz1 : (ck != 0) = false := by rw [hz]; rfl
              have HD : Hid (entB xs = true) := Lib.hid (by rw [HE2.out, hz]; rfl)
              clear hz
              go_wp2_with fail
              have hf := blk_put (blk_put HP6.out.1 0 (.int .i64 nd) (cs' := #[(.int .i64 nd), .string ⟨#[]⟩]) (by simp)) 1 (.string nm) (cs' := #[(.int .i64 nd), (.string nm)]) (by simp)
              have T9 := bl_set (bl_set T6.out (p := ⟨w.heap.size, 0, none⟩) (Nat.le_refl _) (.int .i64 nd)) (p := ⟨w.heap.size, 1, none⟩) (Nat.le_refl _) (.string nm)
              obtain ⟨w9, hw9⟩ : ∃ w9, ((w6.setCell ⟨w.heap.size, 0, none⟩ (.int .i64 nd)).setCell ⟨w.heap.size, 1, none⟩ (.string nm)) = w9 := ⟨_, rfl⟩
              rw [hw9] at hf T9 ⊢
              have c0 : w9.cell? ⟨w.heap.size, 0, none⟩ = some (.int .i64 nd) := (blk_cell hf 0).trans rfl
              have c1 : w9.cell? ⟨w.heap.size, 1, none⟩ = some (.string nm) := (blk_cell hf 1).trans rfl
              refine bodyPost_ret (v := .tuple #[.agg #[.int .i64 nd, .string nm], .int .i64 0]) (by simp [results, Tryd.results6, go_sem, c0, c1]) rfl ⟨T9, .inl ⟨HD.out, by rw [HND.out.1, HND.out.2]⟩⟩
            · have hz1 : (ck != 0) = true := by simpa using hz
              have HD : Hid (entB xs = false) := Lib.hid (by rw [HE2.out]; simpa using hz)
              clear hz
              go_wp2_with fail
              have hf := blk_put (blk_put HP6.out.1 0 (.int .i64 0) (cs' := #[(.int .i64 0), .string ⟨#[]⟩]) (by simp)) 1 (.string ⟨#[]⟩) (cs' := #[(.int .i64 0), (.string ⟨#[]⟩)]) (by simp)
              have T9 := bl_set (bl_set T6.out (p := ⟨w.heap.size, 0, none⟩) (Nat.le_refl _) (.int .i64 0)) (p := ⟨w.heap.size, 1, none⟩) (Nat.le_refl _) (.string ⟨#[]⟩)
              obtain ⟨w9, hw9⟩ : ∃ w9, ((w6.setCell ⟨w.heap.size, 0, none⟩ (.int .i64 0)).setCell ⟨w.heap.size, 1, none⟩ (.string ⟨#[]⟩)) = w9 := ⟨_, rfl⟩
              rw [hw9] at hf T9 ⊢
              have c0 : w9.cell? ⟨w.heap.size, 0, none⟩ = some (.int .i64 0) := (blk_cell hf 0).trans rfl
              have c1 : w9.cell? ⟨w.heap.size, 1, none⟩ = some (.string ⟨#[]⟩) := (blk_cell hf 1).trans rfl
              refine bodyPost_ret (v := .tuple #[.agg #[.int .i64 0, .string ⟨#[]⟩], .int .i64 62]) (by simp [results, Tryd.results6, go_sem, c0, c1]) rfl ⟨T9, .inr ⟨HD.out, rfl⟩⟩
  · have HD : Hid (entB xs = false) := Lib.hid (by simp [entB, h32])
    have h32b : ((xs.length : Int) != 32) = true := by simp; omega
    clear hr hb hc
    go_enter Tryd.func6, Tryd.ntmps6
    go_wp2_with fail
    refine bodyPost_ret (v := .tuple #[.agg #[.int .i64 0, .string ⟨#[]⟩], .int .i64 62]) (by simp [results, Tryd.results6, go_sem]) rfl ⟨?_, .inr ⟨HD.out, rfl⟩⟩
    repeat (first | exact below_alloc (Below.refl _ _) _ | apply pw_below_drewN | apply below_drew1)
end Go.Proofs.YtaomgddfkpcdhaaDoor.XDir
