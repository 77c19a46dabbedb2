import Derived.Test.YtkbjndfmbimjiaaXor
/-! Parts together (gabionref09.Xor). -/
namespace Go.Proofs.Ytkbjndfmbimjiaa
open Go.RowKit Go.Proofs.YtkbjndfmbimjiaaW.PrintWords
set_option maxHeartbeats 4000000 in
set_option maxRecDepth 100000 in
theorem rXor_any (rs : List Row) (A : Option Addr) (c : Nat) (w : World) (hr : RdRows w A rs) (hb : mlen (ll rs) ≤ 1099511627776) :
    Calls Try.prog 12 #[.slice A rs.length c] w fun e w' => ∃ v, e = .returned v ∧ New w w' v (xorL (ll rs)) := by
  have hlen := hr.1
  have HR := Lib.hid hr
  obtain ⟨N, hN⟩ : ∃ N, mlen (ll rs) = N := ⟨_, rfl⟩
  rw [hN] at hb
  have HN := Lib.hid hN
  clear hr hN
  go_enter Try.func12, Try.ntmps12
  go_wp2
  go_loopw [3, 4] (fun m i wr => ∃ k q : Nat, k ≤ rs.length ∧ q ≤ 1099511627776 ∧ i = .int .i64 (k : Int) ∧ m = .int .i64 (q : Int) ∧ Hid (q = mlen (ll (rs.take k))) ∧ Hid (Drawn0 w wr)) (fun _ i _ => rs.length - (intOf i).toNat)
  case atStart => exact ⟨0, 0, Nat.zero_le _, Nat.zero_le _, rfl, rfl, rfl, Lib.hid (Drawn0.refl _)⟩
  case round =>
    obtain ⟨k, q, hk, hq, rfl, rfl, HQ, HD⟩ := hrel
    by_cases hlt : k < rs.length
    · obtain ⟨ad, he, hc, _, _, _⟩ := (HR.out.below HD.out.below).2 k hlt
      subst he
      have hm := ll_take_succ rs k hlt
      have hm2 : mlen (ll (rs.take (k + 1))) = max q (rs.getD k default).l.length := by rw [hm, mlen_append, ← HQ.out]; simp [mlen]
      have hm3 : (rs.getD k default).l.length ≤ N := by
        rw [← HN.out]
        exact mlen_le (List.mem_map.2 ⟨rs.getD k default, by rw [List.getD_eq_getElem?_getD, List.getElem?_eq_getElem hlt]; simp, rfl⟩)
      obtain ⟨r0, hr0⟩ : ∃ r0, rs.getD k default = r0 := ⟨_, rfl⟩
      rw [hr0] at hc hm2 hm3
      have H2 := Lib.hid hm2
      clear hm hm2 hr0
      by_cases hqq : (q : Int) < (r0.l.length : Int)
      · go_wp2
        go_roundw
        case rel => exact ⟨k + 1, r0.l.length, by omega, by omega, by go_num, rfl, Lib.hid (by rw [H2.out, Nat.max_eq_right (by omega)]), by first | exact HD | exact Lib.hid (HD.out.step _)⟩
        case measure => simp [intOf]; omega
      · go_wp2
        go_roundw
        case rel => exact ⟨k + 1, q, by omega, by omega, by go_num, rfl, Lib.hid (by rw [H2.out, Nat.max_eq_left (by omega)]), by first | exact HD | exact Lib.hid (HD.out.step _)⟩
        case measure => simp [intOf]; omega
    · have hqN : q = N := by have h_ := HQ.out; rw [List.take_of_length_le (by omega), HN.out] at h_; exact h_
      subst hqN
      obtain ⟨nd, rfl⟩ := HD.out.out
      clear HQ HD hq
      have hq := hb
      go_wp2_with fail
      refine (rZeros_any q _ hq).mono ?_
      rintro e w1 ⟨v1, rfl, hn1⟩
      obtain ⟨A1, c1, rfl, _⟩ := hn1.slice
      have hn2 : w1.ownsRow w.heap.size 5 1 (.slice A1 q c1) q (nums .u8 (rowOf (fun _ => 0) q)) := by
        have h_ := hn1.1
        rw [← rowOf_zero, rowOf_length] at h_
        exact h_
      have hbl : Below w.heap.size w w1 := bl_seq (by repeat (first | exact Below.refl _ _ | assumption | apply bl_alloc | apply bl_drew | apply bl_drewN | (refine bl_seq ?_ (by assumption)))) hn1.bel
      have HO1 := Lib.hid hn2
      have HB1 := Lib.hid hbl
      clear hn1 hn2 hbl
      simp only [List.length_replicate]
      go_wp2
      go_loopw [6] (fun i wr => ∃ k : Nat, k ≤ rs.length ∧ i = .int .i64 (k : Int) ∧ Hid (wr.ownsRow w.heap.size 5 1 (.slice A1 q c1) q (nums .u8 (rowOf (xn (ll (rs.take k))) q))) ∧ Hid (Below w.heap.size w wr)) (fun i _ => rs.length - (intOf i).toNat)
      case atStart => exact ⟨0, Nat.zero_le _, rfl, HO1, HB1⟩
      case round =>
        obtain ⟨k, hk, rfl, HO, HB⟩ := hrel
        by_cases hlt : k < rs.length
        · obtain ⟨ad, he, hc, hcl, hrd, hby⟩ := (HR.out.below HB.out).2 k hlt
          subst he
          have hm := ll_take_succ rs k hlt
          have hm3 : (rs.getD k default).l.length ≤ q := by
            rw [← HN.out]
            exact mlen_le (List.mem_map.2 ⟨rs.getD k default, by rw [List.getD_eq_getElem?_getD, List.getElem?_eq_getElem hlt]; simp, rfl⟩)
          have hR0 := ((HR.out.2 k hlt).choose_spec.2.2.2.1)
          obtain ⟨r0, hr0⟩ : ∃ r0, rs.getD k default = r0 := ⟨_, rfl⟩
          rw [hr0] at hc hm3 hrd hby hm hR0
          have hxs : ∀ i, xn (ll (rs.take (k + 1))) i = xn (ll (rs.take k)) i ^^^ (r0.l.getD i 0).toNat := by
            intro i
            rw [hm, xn_append]
            simp [xn]
          have HE0 := Lib.hid hr0
          have HXS := Lib.hid hxs
          have HR0 := Lib.hid hR0
          have HBY := Lib.hid hby
          clear hm hr0 hcl hrd hby hxs hR0
          go_wp2
          go_loopw [7] (fun i wr2 => ∃ j : Nat, j ≤ r0.l.length ∧ i = .int .i64 (j : Int) ∧ Hid (wr2.ownsRow w.heap.size 5 1 (.slice A1 q c1) q (nums .u8 (rowOf (fun i => if i < j then xn (ll (rs.take (k + 1))) i else xn (ll (rs.take k)) i) q))) ∧ Hid (Below w.heap.size w wr2)) (fun i _ => r0.l.length - (intOf i).toNat)
          case atStart => exact ⟨0, Nat.zero_le _, rfl, by have h_ := HO.out; rw [rowOf_congr (g := fun i => if i < 0 then xn (ll (rs.take (k + 1))) i else xn (ll (rs.take k)) i) (fun i _ => by simp)] at h_; exact Lib.hid h_, HB⟩
          case round =>
            obtain ⟨j, hj, rfl, HO2, HB2⟩ := hrel
            clear HO HB
            obtain ⟨ad9, he9, hc9, _, _, _⟩ := (HR.out.below HB2.out).2 k hlt
            rw [HE0.out] at hc9
            obtain rfl := Option.some.inj he9
            by_cases hlt2 : j < r0.l.length
            · obtain ⟨g1, c2', hgs, hgb, _⟩ := HO2.out.form (by omega)
              injection hgs with e1 e2 e3
              subst e1 e3
              clear e2
              have hr1 := HR0.out.below HB2.out
              obtain ⟨ad2, he2, hc2⟩ := hr1.at_ (j : Int) (by omega) (by omega)
              have hbx := HBY.out (r0.l.getD j 0) (by rw [List.getD_eq_getElem?_getD, List.getElem?_eq_getElem hlt2]; simp)
              obtain ⟨b, hb0⟩ : ∃ b : Nat, r0.l.getD j 0 = (b : Int) := ⟨(r0.l.getD j 0).toNat, by omega⟩
              have hA2 : r0.A = some ad2 := he2
              rw [Int.toNat_natCast, rd_getD, hb0] at hc2
              obtain ⟨hc3, hf3⟩ := own_at HO2.out (j : Int) (by omega) (by omega)
              have hrd3 : rd (rowOf (fun i => if i < j then xn (ll (rs.take (k + 1))) i else xn (ll (rs.take k)) i) q) (j : Int) = ((xn (ll (rs.take k)) j : Nat) : Int) := by
                rw [rd_getD, rowOf_getD _ _ _ (by omega), if_neg (by omega)]
              rw [hrd3, Int.toNat_natCast] at hc3
              rw [Int.toNat_natCast] at hf3
              have hu : xn (ll (rs.take k)) j < 256 := xn_lt (fun l hl => by
                simp only [ll, List.mem_map] at hl
                obtain ⟨r, hr, rfl⟩ := hl
                obtain ⟨i, hi, rfl⟩ := List.getElem_of_mem (List.take_subset _ _ hr)
                have := (HR.out.2 i hi).choose_spec.2.2.2.2
                rwa [List.getD_eq_getElem?_getD, List.getElem?_eq_getElem hi] at this) j
              have hnew := HXS.out j
              rw [hb0, Int.toNat_natCast] at hnew
              obtain ⟨u, hu0⟩ : ∃ u, xn (ll (rs.take k)) j = u := ⟨_, rfl⟩
              rw [hu0] at hc3 hu hnew
              have hx3 : Go.bits .xor .u8 (u : Int) (b : Int) = ((u ^^^ b : Nat) : Int) := u8_xor_nat u b hu (by rw [hb0] at hbx; omega)
              have HNEW := Lib.hid hnew
              clear hr1 he2 hb0 hrd3 hu0 hnew hbx
              go_wp2
              go_region
              go_wp2

              go_roundw
              case rel =>
                refine ⟨j + 1, by omega, by go_num, ?_, Lib.hid (HB2.out.setCell (p := ⟨g1, j, none⟩) hgb _).drew⟩
                have h_ := (own_store HO2.out (j : Int) ((u ^^^ b : Nat) : Int)).1
                rw [Int.toNat_natCast, rowOf_set] at h_
                rw [rowOf_congr (g := fun i => if i < j + 1 then xn (ll (rs.take (k + 1))) i else xn (ll (rs.take k)) i) (fun i _ => by
                  by_cases e1 : i = j
                  · subst e1; simp [HNEW.out]
                  · rw [if_neg e1]
                    by_cases e2 : i < j
                    · rw [if_pos e2, if_pos (by omega)]
                    · rw [if_neg e2, if_neg (by omega)])] at h_
                exact Lib.hid h_
              case measure => simp [intOf]; omega
            · have hfin : rowOf (fun i => if i < j then xn (ll (rs.take (k + 1))) i else xn (ll (rs.take k)) i) q = rowOf (xn (ll (rs.take (k + 1)))) q := by
                refine rowOf_congr fun i _ => ?_
                by_cases e2 : i < j
                · rw [if_pos e2]
                · rw [if_neg e2, HXS.out i, List.getD_eq_getElem?_getD, List.getElem?_eq_none (by omega)]
                  simp
              rw [hfin] at HO2
              clear hfin
              go_wp2
              go_roundw
              case rel => exact ⟨k + 1, by omega, by go_num, HO2, HB2⟩
              case measure => simp [intOf]; omega
        · have hfin : rowOf (xn (ll (rs.take k))) q = xorL (ll rs) := by rw [List.take_of_length_le (by omega), xorL, HN.out]; rfl
          rw [hfin] at HO
          have hl : (xorL (ll rs)).length = q := by rw [xorL_length]; exact HN.out
          have HL := Lib.hid hl
          clear hfin hl
          go_wp2
          go_ret
          exact ⟨_, rfl, by rw [HL.out]; exact HO.out, HB.out⟩
end Go.Proofs.Ytkbjndfmbimjiaa
