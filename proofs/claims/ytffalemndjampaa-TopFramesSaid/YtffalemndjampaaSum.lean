import Derived.Test.YtffalemndjampaaRow
import Derived.Test.YtffalemndjampaaCrq
import Derived.Laws.BitsAllLaws
/-! sum.Of. -/
set_option linter.unusedVariables false
set_option linter.unusedSimpArgs false
namespace Go.Proofs.Ytffalemndjampaa
open Go.RowKit Go.Proofs.YtffalemndjampaaW.PrintWords
theorem crc_and (x : BitVec 32) : Go.bits .and .u32 (x.toNat : Int) 1 = if x.getLsbD 0 then 1 else 0 := by
  rw [show (1 : Int) = ((1 : Nat) : Int) from rfl, u32_and_nat _ 1 x.isLt (by decide), nat_mask1]
  have h : x.getLsbD 0 = decide (x.toNat % 2 = 1) := by rw [BitVec.getLsbD, Nat.testBit_zero]
  rw [h]
  rcases Nat.mod_two_eq_zero_or_one x.toNat with e | e <;> simp [e]
theorem crc_half (x : BitVec 32) : (x >>> 1).toNat = x.toNat / 2 := by rw [BitVec.toNat_ushiftRight, Nat.shiftRight_eq_div_pow]
theorem crc_odd {x : BitVec 32} (h : x.getLsbD 0 = true) : Go.bits .xor .u32 ((x.toNat : Int) / 2) 2197175160 = ((crcT x).toNat : Int) := by
  have hx := x.isLt
  rw [show ((x.toNat : Int) / 2) = ((x.toNat / 2 : Nat) : Int) from by omega, show (2197175160 : Int) = ((2197175160 : Nat) : Int) from rfl, u32_xor_nat _ _ (by omega) (by decide), crcT, h, if_pos rfl, BitVec.toNat_xor, crc_half]
  rfl
theorem crc_even {x : BitVec 32} (h : x.getLsbD 0 = false) : ((x.toNat : Int) / 2) = ((crcT x).toNat : Int) := by
  rw [crcT, h, if_neg (by simp), BitVec.xor_zero, crc_half]
  omega
theorem crc_in (x : BitVec 32) (c : Int) (h : 0 ≤ c ∧ c < 256) : Go.bits .xor .u32 (x.toNat : Int) c = ((x ^^^ crcV c).toNat : Int) := by
  obtain ⟨n, rfl⟩ := Int.eq_ofNat_of_zero_le h.1
  rw [u32_xor_nat _ _ x.isLt (by omega), BitVec.toNat_xor, crcV, Int.toNat_natCast, BitVec.toNat_ofNat, Nat.mod_eq_of_lt (by omega)]
theorem crc_out (x : BitVec 32) : Go.bits .xor .u32 IntKind.u32.max (x.toNat : Int) = ((~~~ x).toNat : Int) := by
  rw [show IntKind.u32.max = ((4294967295 : Nat) : Int) from rfl, u32_xor_nat _ _ (by decide) x.isLt, Nat.xor_comm]
  congr 1
  have e : (~~~ x) = x ^^^ 4294967295#32 := by
    apply BitVec.eq_of_getLsbD_eq
    intro i hi
    rw [BitVec.getLsbD_not, BitVec.getLsbD_xor, show (4294967295#32).getLsbD i = true from by
      have h : 4294967295#32 = BitVec.allOnes 32 := by decide
      rw [h, BitVec.getLsbD_allOnes]; simpa using hi]
    simp [hi]
  rw [e, BitVec.toNat_xor]
  rfl
theorem crcS_cons (s : BitVec 32) (l : List Int) (k : Nat) (h : k < l.length) : crcS s (l.take (k + 1)) = crcN 8 (crcS s (l.take k) ^^^ crcV (l.getD k 0)) := by
  rw [List.take_succ_eq_append_getElem h, crcS, List.map_append, crcB_append, List.getD_eq_getElem?_getD, List.getElem?_eq_getElem h]
  rfl
theorem crcS_app (s : BitVec 32) (a b : List Int) : crcS s (a ++ b) = crcS (crcS s a) b := by rw [crcS, List.map_append, crcB_append]; rfl
set_option maxHeartbeats 4000000 in
set_option maxRecDepth 100000 in
theorem Sum_any (rs : List Row) (A : Option Addr) (c n : Nat) (w : World) (hn : n = rs.length) (hr : RdRows w A rs) :
    Calls Try.prog 8 #[.slice A n c] w fun e w' => e = .returned (.int .u32 (crcOf (ll rs).flatten)) ∧ Drawn0 w w' := by
  subst hn
  have hlen := hr.1
  have HR := Lib.hid hr
  clear hr
  go_enter Try.func8, Try.ntmps8
  go_wp2
  go_loopw [3, 10] (fun a i wr => ∃ (k : Nat) (S : BitVec 32), k ≤ rs.length ∧ i = .int .i64 (k : Int) ∧ a = .int .u32 (S.toNat : Int) ∧ Hid (S = crcS (~~~ 0#32) (ll (rs.take k)).flatten) ∧ Hid (Drawn0 w wr)) (fun _ i _ => rs.length - (intOf i).toNat)
  case atStart => exact ⟨0, ~~~ 0#32, Nat.zero_le _, rfl, by rfl, Lib.hid rfl, Lib.hid (by exact_mod_cast Drawn0.refl _)⟩
  case round =>
    obtain ⟨k, S, hk, rfl, rfl, HS, HD⟩ := hrel
    by_cases hlt : k < rs.length
    · obtain ⟨ad, he, hc, hcl, hrd, hby⟩ := (HR.out.below HD.out.below).2 k hlt
      subst he
      have hm := ll_take_succ rs k hlt
      obtain ⟨r0, hr0⟩ : ∃ r0, rs.getD k default = r0 := ⟨_, rfl⟩
      rw [hr0] at hc hm hcl hrd hby
      have HM := Lib.hid hm
      have hrl := hrd.2.1
      have HRD := Lib.hid (show ReadsInt w .u8 r0.A r0.l.length r0.l from by have h_ := (HR.out.2 k hlt).choose_spec.2.2.2.1; rwa [hr0] at h_)
      have HBY := Lib.hid hby
      clear hm hr0 hrd hby
      go_wp2
      go_loopw [3, 16] (fun a i wr2 => ∃ (j : Nat) (T : BitVec 32), j ≤ r0.l.length ∧ i = .int .i64 (j : Int) ∧ a = .int .u32 (T.toNat : Int) ∧ Hid (T = crcS S (r0.l.take j)) ∧ Hid (Drawn0 w wr2)) (fun _ i _ => r0.l.length - (intOf i).toNat)
      case atStart => exact ⟨0, S, Nat.zero_le _, rfl, rfl, Lib.hid rfl, by first | exact HD | exact Lib.hid (HD.out.step _)⟩
      case round =>
        obtain ⟨j, T, hj, rfl, rfl, HT, HD2⟩ := hrel
        clear HD
        by_cases hlt2 : j < r0.l.length
        · have hr1 := HRD.out.below HD2.out.below
          obtain ⟨ad2, he2, hc2⟩ := hr1.at_ (j : Int) (by omega) (by omega)
          have hbx := HBY.out (r0.l.getD j 0) (by rw [List.getD_eq_getElem?_getD, List.getElem?_eq_getElem hlt2]; simp)
          have hA2 : r0.A = some ad2 := he2
          rw [Int.toNat_natCast, rd_getD] at hc2
          have hnx := crcS_cons S r0.l j hlt2
          rw [← HT.out] at hnx
          obtain ⟨x, hx⟩ : ∃ x, r0.l.getD j 0 = x := ⟨_, rfl⟩
          rw [hx] at hc2 hbx hnx
          have hin := crc_in T x hbx
          obtain ⟨U, hU⟩ : ∃ U, T ^^^ crcV x = U := ⟨_, rfl⟩
          rw [hU] at hin hnx
          have HNX := Lib.hid hnx
          obtain ⟨hbx1, hbx2⟩ := hbx
          clear hr1 he2 hx hU hnx
          go_wp2
          go_loopw [3, 24] (fun a i wr3 => ∃ (t : Nat) (V : BitVec 32), t ≤ 8 ∧ i = .int .i64 (t : Int) ∧ a = .int .u32 (V.toNat : Int) ∧ Hid (V = crcN t U) ∧ Hid (Drawn0 w wr3)) (fun _ i _ => 8 - (intOf i).toNat)
          case atStart => exact ⟨0, U, Nat.zero_le _, rfl, rfl, Lib.hid rfl, by first | exact HD2 | exact Lib.hid (HD2.out.step _)⟩
          case round =>
            obtain ⟨t, V, ht, rfl, rfl, HV, HD3⟩ := hrel
            by_cases hlt3 : t < 8
            · cases hbit : V.getLsbD 0
              · have ha := crc_and V
                rw [hbit, if_neg (by simp)] at ha
                have hs := crc_even hbit
                clear hbit
                go_wp2
                go_roundw
                case rel => exact ⟨t + 1, crcT V, by omega, by go_num, by first | rfl | (simp only [hs]; done) | (rw [← hs]; rfl), Lib.hid (by rw [HV.out, ← crcN_T]; rfl), by first | exact HD3 | exact Lib.hid (HD3.out.step _)⟩
                case measure => simp [intOf]; omega
              · have ha := crc_and V
                rw [hbit, if_pos rfl] at ha
                have hs := crc_odd hbit
                clear hbit
                go_wp2
                go_roundw
                case rel => exact ⟨t + 1, crcT V, by omega, by go_num, by first | rfl | (simp only [hs]; done) | (rw [← hs]; rfl), Lib.hid (by rw [HV.out, ← crcN_T]; rfl), by first | exact HD3 | exact Lib.hid (HD3.out.step _)⟩
                case measure => simp [intOf]; omega
            · obtain rfl : t = 8 := by omega
              go_wp2
              go_roundw
              case rel => exact ⟨j + 1, V, by omega, by go_num, rfl, Lib.hid (by rw [HNX.out]; exact HV.out), by first | exact HD3 | exact Lib.hid (HD3.out.step _)⟩
              case measure => simp [intOf]; omega
        · have hfin : r0.l.take j = r0.l := List.take_of_length_le (by omega)
          rw [hfin] at HT
          clear hfin
          go_wp2
          go_roundw
          case rel => exact ⟨k + 1, T, by omega, by go_num, rfl, Lib.hid (by rw [HT.out, HM.out, HS.out, List.flatten_append, crcS_app]; simp), by first | exact HD2 | exact Lib.hid (HD2.out.step _)⟩
          case measure => simp [intOf]; omega
    · have hfin : rs.take k = rs := List.take_of_length_le (by omega)
      rw [hfin] at HS
      have ho : Go.bits .xor .u32 IntKind.u32.max (S.toNat : Int) = crcOf (ll rs).flatten := (crc_out S).trans (by rw [HS.out]; rfl)
      clear hfin
      go_wp2
      go_ret
      exact ⟨rfl, by first | exact HD.out | exact HD.out.step _⟩
end Go.Proofs.Ytffalemndjampaa
