import Derived.Test.YtkmfdnoklabndaaRref
import Derived.Test.YtkmfdnoklabndaaRcom
/-! The law RecordBlanks: its walk. -/
set_option linter.unusedVariables false
set_option linter.unusedSimpArgs false
namespace Go.Proofs.Ytkmfdnoklabndaa
open Go.RowKit Go.Proofs.YtkmfdnoklabndaaW.PrintWords Go.Proofs.YtkmfdnoklabndaaW.PrintLast
def fillL (xs : List Int) (j : Nat) : List Int := List.replicate j 255 ++ xs.drop j
theorem fillL_len (xs : List Int) (j : Nat) (h : j ≤ xs.length) : (fillL xs j).length = xs.length := by simp [fillL]; omega
theorem fillL_set (xs : List Int) (j : Nat) (h : j < xs.length) : (fillL xs j).set j 255 = fillL xs (j + 1) := by
  rw [fillL, fillL, List.set_append_right _ _ (by simp), List.length_replicate, Nat.sub_self, List.drop_eq_getElem_cons h, List.set_cons_zero, List.replicate_succ', List.append_assoc]
  rfl
theorem all_snoc (xs : List Int) (k : Nat) (h : k < xs.length) : (xs.take (k + 1)).all (· == 255) = ((xs.take k).all (· == 255) && (xs.getD k 0 == 255)) := by
  rw [List.take_succ_eq_append_getElem h, List.all_append, List.getD_eq_getElem?_getD, List.getElem?_eq_getElem h]
  simp
set_option maxHeartbeats 4000000 in
set_option maxRecDepth 100000 in
theorem rblanks_walk (A B : Option Addr) (c d n m : Nat) (xs ys : List Int) (full : Bool) (w : World) (hr : ReadsInt w .u8 A n xs) (hc : n ≤ c) (bx : Byt xs) (hs : ReadsInt w .u8 B m ys) (hd : m ≤ d) (by_ : Byt ys) :
    Calls Try.prog 6 #[.slice A n c, .slice B m d, .bool full] w fun e w' => e = .returned (.bool true) ∧ Below w.heap.size w w' := by
  have HR := Lib.hid hr
  have HS := Lib.hid hs
  have hm1 := hr.2.1
  have hm2 := hs.2.1
  have hl1 := hr.1
  have hl2 := hs.1
  clear hr hs bx by_
  by_cases hlt : 600 < (n : Int) ∨ 100 < (m : Int)
  · go_enter Try.func6, Try.ntmps6
    by_cases h6 : 600 < (n : Int)
    · go_wp2_with fail
      refine (sealed_any _).mono ?_
      rintro e w1 ⟨rfl, hb1⟩
      go_wp2_with fail
      go_ret
      exact ⟨rfl, hb1⟩
    · have h1 : 100 < (m : Int) := by omega
      go_wp2_with fail
      refine (sealed_any _).mono ?_
      rintro e w1 ⟨rfl, hb1⟩
      go_wp2_with fail
      go_ret
      exact ⟨rfl, hb1⟩
  have hn6 : ¬ 600 < (n : Int) := by omega
  have hm1_ : ¬ 100 < (m : Int) := by omega
  clear hlt
  go_enter Try.func6, Try.ntmps6
  cases full
  · have T0 := Lib.hid (Below.refl w.heap.size w)
    go_wp2
    go_loopw [9, 10] (fun a i wr => ∃ k : Nat, k ≤ n ∧ i = .int .i64 (k : Int) ∧ a = .bool ((xs.take k).all (· == 255)) ∧ Hid (Drawn0 w wr)) (fun _ i _ => n - (intOf i).toNat)
    case atStart => exact ⟨0, Nat.zero_le _, rfl, rfl, Lib.hid (Drawn0.refl _)⟩
    case round =>
      obtain ⟨k, hk, rfl, rfl, HD⟩ := hrel
      by_cases hlt : k < n
      · have hr1 := HR.out.below HD.out.below
        obtain ⟨ad2, he2, hc2⟩ := hr1.at_ (k : Int) (by omega) (by omega)
        have hA2 : A = some ad2 := he2
        have hsn := all_snoc xs k (by have h_ := hr1.1; omega)
        rw [Int.toNat_natCast, rd_getD] at hc2
        obtain ⟨x, hx⟩ : ∃ x, xs.getD k 0 = x := ⟨_, rfl⟩
        obtain ⟨bb, hbb⟩ : ∃ bb, (xs.take k).all (· == 255) = bb := ⟨_, rfl⟩
        rw [hbb, hx] at hsn
        rw [hx] at hc2
        rw [hbb]
        have HSN := Lib.hid hsn
        clear hr1 he2 hx hbb hsn
        cases bb
        · go_wp2
          go_roundw
          case rel => exact ⟨k + 1, by omega, by go_num, by rw [HSN.out]; rfl, by first | exact HD | exact Lib.hid (HD.out.step _)⟩
          case measure => simp [intOf]; omega
        · go_wp2
          go_roundw
          case rel => exact ⟨k + 1, by omega, by go_num, by rw [HSN.out]; simp, by first | exact HD | exact Lib.hid (HD.out.step _)⟩
          case measure => simp [intOf]; omega
      · have hfin : xs.take k = xs := List.take_of_length_le (by have h_ := HR.out.1; omega)
        rw [hfin]
        have HD1 := HD
        have HD0 := Lib.hid (Drawn0.refl wr)
        clear hfin
        obtain ⟨ba, hba⟩ : ∃ ba, xs.all (· == 255) = ba := ⟨_, rfl⟩
        have HBA := Lib.hid hba
        rw [hba]
        clear hba
        go_wp2
        go_loopw [9, 11] (fun a i wr => ∃ k : Nat, k ≤ m ∧ i = .int .i64 (k : Int) ∧ a = .bool (ba && (ys.take k).all (· == 255)) ∧ Hid (Drawn0 w wr)) (fun _ i _ => m - (intOf i).toNat)
        case atStart => exact ⟨0, Nat.zero_le _, rfl, by cases ba <;> rfl, by first | exact HD1 | exact Lib.hid (HD1.out.step _)⟩
        case round =>
          obtain ⟨k, hk, rfl, rfl, HD⟩ := hrel
          clear HD1 HD0
          by_cases hlt : k < m
          · have hr1 := HS.out.below HD.out.below
            obtain ⟨ad2, he2, hc2⟩ := hr1.at_ (k : Int) (by omega) (by omega)
            have hA2 : B = some ad2 := he2
            have hsn := all_snoc ys k (by have h_ := hr1.1; omega)
            rw [Int.toNat_natCast, rd_getD] at hc2
            obtain ⟨x, hx⟩ : ∃ x, ys.getD k 0 = x := ⟨_, rfl⟩
            obtain ⟨bb, hbb⟩ : ∃ bb, (ba && (ys.take k).all (· == 255)) = bb := ⟨_, rfl⟩
            have hsn2 : (ba && (ys.take (k + 1)).all (· == 255)) = (bb && (x == 255)) := by rw [hsn, ← hbb, hx, Bool.and_assoc]
            rw [hx] at hc2
            rw [hbb]
            have HSN := Lib.hid hsn2
            clear hr1 he2 hx hbb hsn hsn2
            cases bb
            · go_wp2
              go_roundw
              case rel => exact ⟨k + 1, by omega, by go_num, by rw [HSN.out]; rfl, by first | exact HD | exact Lib.hid (HD.out.step _)⟩
              case measure => simp [intOf]; omega
            · go_wp2
              go_roundw
              case rel => exact ⟨k + 1, by omega, by go_num, by rw [HSN.out]; simp, by first | exact HD | exact Lib.hid (HD.out.step _)⟩
              case measure => simp [intOf]; omega
          · have hfin : ys.take k = ys := List.take_of_length_le (by have h_ := HS.out.1; omega)
            rw [hfin]
            obtain ⟨be, hbe⟩ : ∃ be, (ba && ys.all (· == 255)) = be := ⟨_, rfl⟩
            have HBE := Lib.hid hbe
            rw [hbe]
            clear hfin hbe
            go_wp2_with fail
            refine (sealed_any _).mono ?_
            rintro e w1 ⟨rfl, hb1⟩
            have T1 := Lib.hid (bl_seq HD.out.below hb1)
            clear hb1
            go_wp2_with fail
            refine (Blank_any A B n m c d xs ys w1 (HR.out.below T1.out) (HS.out.below T1.out)).mono ?_
            rintro e w2 ⟨rfl, hd2⟩
            rw [HBA.out, HBE.out]
            have T2 := Lib.hid (bl_seq T0.out (bl_seq T1.out hd2.below))
            have bs : (be == be) = true := by simp
            clear hd2
            go_wp2_with fail
            go_ret
            exact ⟨by simp, T2.out⟩
  · go_wp2_with fail
    refine (rPart_whole xs A c n w HR.out hc (by omega)).mono ?_
    rintro e w1 ⟨A1, c1, rfl, hc1, ho1, hb1⟩
    have O1 := Lib.hid ho1
    have T1 := Lib.hid hb1
    clear ho1 hb1
    go_wp2_with fail
    refine (rPart_whole ys B d m w1 (HS.out.below T1.out) hd (by omega)).mono ?_
    rintro e w2 ⟨A2, c2, rfl, hc2, ho2, hb2⟩
    have O1b := Lib.hid (own_move O1.out fun k hk => hb2.block k (O1.out.lt k hk).2)
    have O2 := Lib.hid ho2
    have T2 := Lib.hid (bl_seq T1.out hb2)
    have Z2 := Lib.hid (show ∀ g, (Value.slice A1 n c1).ownBlock = some g → g < w1.heap.size from fun g hg => (O1.out.lt g hg).2)
    have Y1 := Lib.hid T1.out.size
    clear ho2 hb2 O1 T1
    go_wp2
    go_loopw [7] (fun i wr => ∃ k : Nat, k ≤ n ∧ i = .int .i64 (k : Int) ∧ Hid (wr.ownsRow w.heap.size 5 1 (.slice A1 n c1) n (nums .u8 (fillL xs k))) ∧ Hid (wr.ownsRow w1.heap.size 5 1 (.slice A2 m c2) m (nums .u8 ys)) ∧ Hid (Below w.heap.size w wr)) (fun i _ => n - (intOf i).toNat)
    case atStart => exact ⟨0, Nat.zero_le _, rfl, by first | exact O1b | exact Lib.hid O1b.out, O2, T2⟩
    case round =>
      obtain ⟨k, hk, rfl, HO, HP, HT⟩ := hrel
      by_cases hlt : k < n
      · obtain ⟨g, rfl, hg, hg2⟩ := own_some HO.out (by omega)
        obtain ⟨hc3, hf3⟩ := own_at HO.out (k : Int) (by omega) (by omega)
        rw [Int.toNat_natCast] at hc3 hf3
        have HG := Lib.hid (And.intro hg (Z2.out g rfl))
        clear hg hg2
        go_wp2
        go_roundw
        case rel =>
          refine ⟨k + 1, by omega, by go_num, ?_, ?_, Lib.hid (HT.out.setCell HG.out.1 _)⟩
          · have h_ := (own_store HO.out (k : Int) 255).1
            rw [Int.toNat_natCast, fillL_set xs k (by omega)] at h_
            exact Lib.hid h_
          · refine Lib.hid (own_setCell HP.out (fun e => ?_) _)
            have h1 := (HP.out.lt g e.symm).1
            have h2 := HG.out.2
            omega
        case measure => simp [intOf]; omega
      · obtain rfl : n = k := by omega
        clear O1b O2 T2
        go_wp2
        go_loopw [8] (fun i wr => ∃ j : Nat, j ≤ m ∧ ((j : Int) ≤ (m : Int) - 1 ∨ j = 0) ∧ i = .int .i64 (j : Int) ∧ Hid (wr.ownsRow w.heap.size 5 1 (.slice A1 n c1) n (nums .u8 (fillL xs n))) ∧ Hid (wr.ownsRow w1.heap.size 5 1 (.slice A2 m c2) m (nums .u8 (fillL ys j))) ∧ Hid (Below w.heap.size w wr)) (fun i _ => m - (intOf i).toNat)
        case atStart => exact ⟨0, Nat.zero_le _, .inr rfl, rfl, HO, HP, HT⟩
        case round =>
          obtain ⟨j, hj, hjm, rfl, HO2, HP2, HT2⟩ := hrel
          clear HO HP HT
          by_cases hlt2 : (j : Int) < (m : Int) - 1
          · obtain ⟨g, rfl, hg, hg2⟩ := own_some HP2.out (by omega)
            obtain ⟨hc3, hf3⟩ := own_at HP2.out (j : Int) (by omega) (by omega)
            rw [Int.toNat_natCast] at hc3 hf3
            have HG := Lib.hid (And.intro hg (And.intro (show w.heap.size ≤ g from Nat.le_trans Y1.out hg) (show some g ≠ (Value.slice A1 n c1).ownBlock from fun e => by have h_ := Z2.out g e.symm; omega)))
            clear hg hg2
            go_wp2
            go_roundw
            case rel =>
              refine ⟨j + 1, by omega, by omega, by go_num, Lib.hid (own_setCell HO2.out HG.out.2.2 _), ?_, Lib.hid (HT2.out.setCell HG.out.2.1 _)⟩
              have h_ := (own_store HP2.out (j : Int) 255).1
              rw [Int.toNat_natCast, fillL_set ys j (by omega)] at h_
              exact Lib.hid h_
            case measure => simp [intOf]; omega
          · have RA := Lib.hid (show ReadsInt wr .u8 A1 n (fillL xs n) from own_reads' HO2.out)
            have RB := Lib.hid (show ReadsInt wr .u8 A2 m (fillL ys j) from own_reads' HP2.out)
            generalize fillL xs n = xs2 at RA
            generalize fillL ys j = ys2 at RB
            clear HO2 HP2 hl1 hl2
            obtain ⟨wq, hwq⟩ : ∃ wq, wq = wr := ⟨_, rfl⟩
            subst hwq
            go_wp2
            go_loopw [9, 10] (fun a i wr => ∃ k : Nat, k ≤ n ∧ i = .int .i64 (k : Int) ∧ a = .bool ((xs2.take k).all (· == 255)) ∧ Hid (Drawn0 wq wr)) (fun _ i _ => n - (intOf i).toNat)
            case atStart => exact ⟨0, Nat.zero_le _, rfl, rfl, Lib.hid (Drawn0.refl _)⟩
            case round =>
              obtain ⟨k, hk, rfl, rfl, HD⟩ := hrel
              by_cases hlt : k < n
              · have hr1 := RA.out.below HD.out.below
                obtain ⟨ad2, he2, hc2⟩ := hr1.at_ (k : Int) (by omega) (by omega)
                have hA2 : A1 = some ad2 := he2
                have hsn := all_snoc xs2 k (by have h_ := hr1.1; omega)
                rw [Int.toNat_natCast, rd_getD] at hc2
                obtain ⟨x, hx⟩ : ∃ x, xs2.getD k 0 = x := ⟨_, rfl⟩
                obtain ⟨bb, hbb⟩ : ∃ bb, (xs2.take k).all (· == 255) = bb := ⟨_, rfl⟩
                rw [hbb, hx] at hsn
                rw [hx] at hc2
                rw [hbb]
                have HSN := Lib.hid hsn
                clear hr1 he2 hx hbb hsn
                cases bb
                · go_wp2
                  go_roundw
                  case rel => exact ⟨k + 1, by omega, by go_num, by rw [HSN.out]; rfl, by first | exact HD | exact Lib.hid (HD.out.step _)⟩
                  case measure => simp [intOf]; omega
                · go_wp2
                  go_roundw
                  case rel => exact ⟨k + 1, by omega, by go_num, by rw [HSN.out]; simp, by first | exact HD | exact Lib.hid (HD.out.step _)⟩
                  case measure => simp [intOf]; omega
              · have hfin : xs2.take k = xs2 := List.take_of_length_le (by have h_ := RA.out.1; omega)
                rw [hfin]
                have HD1 := HD
                have HD0 := Lib.hid (Drawn0.refl wr)
                clear hfin
                obtain ⟨ba, hba⟩ : ∃ ba, xs2.all (· == 255) = ba := ⟨_, rfl⟩
                have HBA := Lib.hid hba
                rw [hba]
                clear hba
                go_wp2
                go_loopw [9, 11] (fun a i wr => ∃ k : Nat, k ≤ m ∧ i = .int .i64 (k : Int) ∧ a = .bool (ba && (ys2.take k).all (· == 255)) ∧ Hid (Drawn0 wq wr)) (fun _ i _ => m - (intOf i).toNat)
                case atStart => exact ⟨0, Nat.zero_le _, rfl, by cases ba <;> rfl, by first | exact HD1 | exact Lib.hid (HD1.out.step _)⟩
                case round =>
                  obtain ⟨k, hk, rfl, rfl, HD⟩ := hrel
                  clear HD1 HD0
                  by_cases hlt : k < m
                  · have hr1 := RB.out.below HD.out.below
                    obtain ⟨ad2, he2, hc2⟩ := hr1.at_ (k : Int) (by omega) (by omega)
                    have hA2 : A2 = some ad2 := he2
                    have hsn := all_snoc ys2 k (by have h_ := hr1.1; omega)
                    rw [Int.toNat_natCast, rd_getD] at hc2
                    obtain ⟨x, hx⟩ : ∃ x, ys2.getD k 0 = x := ⟨_, rfl⟩
                    obtain ⟨bb, hbb⟩ : ∃ bb, (ba && (ys2.take k).all (· == 255)) = bb := ⟨_, rfl⟩
                    have hsn2 : (ba && (ys2.take (k + 1)).all (· == 255)) = (bb && (x == 255)) := by rw [hsn, ← hbb, hx, Bool.and_assoc]
                    rw [hx] at hc2
                    rw [hbb]
                    have HSN := Lib.hid hsn2
                    clear hr1 he2 hx hbb hsn hsn2
                    cases bb
                    · go_wp2
                      go_roundw
                      case rel => exact ⟨k + 1, by omega, by go_num, by rw [HSN.out]; rfl, by first | exact HD | exact Lib.hid (HD.out.step _)⟩
                      case measure => simp [intOf]; omega
                    · go_wp2
                      go_roundw
                      case rel => exact ⟨k + 1, by omega, by go_num, by rw [HSN.out]; simp, by first | exact HD | exact Lib.hid (HD.out.step _)⟩
                      case measure => simp [intOf]; omega
                  · have hfin : ys2.take k = ys2 := List.take_of_length_le (by have h_ := RB.out.1; omega)
                    rw [hfin]
                    obtain ⟨be, hbe⟩ : ∃ be, (ba && ys2.all (· == 255)) = be := ⟨_, rfl⟩
                    have HBE := Lib.hid hbe
                    rw [hbe]
                    clear hfin hbe
                    go_wp2_with fail
                    refine (sealed_any _).mono ?_
                    rintro e w1 ⟨rfl, hb1⟩
                    have T1 := Lib.hid (bl_seq HD.out.below hb1)
                    clear hb1
                    go_wp2_with fail
                    refine (Blank_any A1 A2 n m c1 c2 xs2 ys2 w1 (RA.out.below T1.out) (RB.out.below T1.out)).mono ?_
                    rintro e w2 ⟨rfl, hd2⟩
                    rw [HBA.out, HBE.out]
                    have T2 := Lib.hid (bl_seq HT2.out (bl_seq T1.out hd2.below))
                    have bs : (be == be) = true := by simp
                    clear hd2
                    go_wp2_with fail
                    go_ret
                    exact ⟨by simp, T2.out⟩
end Go.Proofs.Ytkmfdnoklabndaa
