import Derived.Test.YtkbjndfmbimjiaaRow
import Derived.Laws.BitsAllLaws
/-! Parts together (gabion/parity.Xor, gabionref09.Xor). -/
namespace Go.Proofs.Ytkbjndfmbimjiaa
open Go.RowKit Go.Proofs.YtkbjndfmbimjiaaW.PrintWords
def mlen : List (List Int) → Nat
  | [] => 0
  | l :: ls => max l.length (mlen ls)
def xn : List (List Int) → Nat → Nat
  | [], _ => 0
  | l :: ls, i => (l.getD i 0).toNat ^^^ xn ls i
/-- All parts together. -/
def xorL (ls : List (List Int)) : List Int := (List.range (mlen ls)).map fun i => (xn ls i : Int)
theorem mlen_append (a b : List (List Int)) : mlen (a ++ b) = max (mlen a) (mlen b) := by
  induction a with
  | nil => simp [mlen]
  | cons x a ih => simp [mlen, ih, Nat.max_assoc]
theorem xn_append (a b : List (List Int)) (i : Nat) : xn (a ++ b) i = xn a i ^^^ xn b i := by
  induction a with
  | nil => simp [xn]
  | cons x a ih => simp [xn, ih, Nat.xor_assoc]
theorem mlen_reverse (a : List (List Int)) : mlen a.reverse = mlen a := by
  induction a with
  | nil => rfl
  | cons x a ih => simp [mlen_append, mlen, ih, Nat.max_comm]
theorem xn_reverse (a : List (List Int)) (i : Nat) : xn a.reverse i = xn a i := by
  induction a with
  | nil => rfl
  | cons x a ih => simp [xn_append, xn, ih, Nat.xor_comm]
theorem mlen_le {ls : List (List Int)} {l : List Int} (h : l ∈ ls) : l.length ≤ mlen ls := by
  induction ls with
  | nil => cases h
  | cons x ls ih =>
    rcases List.mem_cons.1 h with rfl | h
    · simp [mlen]; omega
    · have := ih h; simp [mlen]; omega
theorem xn_out {ls : List (List Int)} {i : Nat} (h : mlen ls ≤ i) : xn ls i = 0 := by
  induction ls with
  | nil => rfl
  | cons x ls ih =>
    simp only [mlen] at h
    rw [xn, ih (by omega), List.getD_eq_getElem?_getD, List.getElem?_eq_none (by omega)]
    rfl
theorem xn_lt {ls : List (List Int)} (h : ∀ l ∈ ls, Byt l) (i : Nat) : xn ls i < 256 := by
  induction ls with
  | nil => simp [xn]
  | cons x ls ih =>
    have h1 : (x.getD i 0).toNat < 2 ^ 8 := by
      rw [List.getD_eq_getElem?_getD]
      rcases Nat.lt_or_ge i x.length with hi | hi
      · rw [List.getElem?_eq_getElem hi]
        have := h x (by simp) x[i] (List.getElem_mem _)
        simp; omega
      · rw [List.getElem?_eq_none hi]; simp
    exact Nat.xor_lt_two_pow h1 (ih fun l hl => h l (by simp [hl]))
theorem xorL_length (ls : List (List Int)) : (xorL ls).length = mlen ls := by simp [xorL]
theorem xorL_byt {ls : List (List Int)} (h : ∀ l ∈ ls, Byt l) : Byt (xorL ls) := by
  intro x hx
  simp only [xorL, List.mem_map] at hx
  obtain ⟨i, _, rfl⟩ := hx
  have := xn_lt h i
  omega
theorem xorL_getD (ls : List (List Int)) (i : Nat) : (xorL ls).getD i 0 = (xn ls i : Int) := by
  rcases Nat.lt_or_ge i (mlen ls) with h | h
  · simp [xorL, List.getD_eq_getElem?_getD, h]
  · rw [List.getD_eq_getElem?_getD, List.getElem?_eq_none (by rw [xorL_length]; exact h), xn_out h]; rfl
theorem xorL_reverse (ls : List (List Int)) : xorL ls.reverse = xorL ls := by
  rw [xorL, xorL, mlen_reverse]
  exact List.map_congr_left fun i _ => by rw [xn_reverse]
/-- Parts are put together in any way. -/
theorem xorL_parts (a b : List (List Int)) : xorL [xorL a, xorL b] = xorL (a ++ b) := by
  have h : mlen [xorL a, xorL b] = mlen (a ++ b) := by simp [mlen, mlen_append, xorL_length]
  have e : xorL [xorL a, xorL b] = (List.range (mlen [xorL a, xorL b])).map fun i => (xn [xorL a, xorL b] i : Int) := rfl
  have e2 : xorL (a ++ b) = (List.range (mlen (a ++ b))).map fun i => (xn (a ++ b) i : Int) := rfl
  rw [e, e2, h]
  refine List.map_congr_left fun i _ => ?_
  rw [xn_append]
  simp only [xn, xorL_getD, Int.toNat_natCast, Nat.xor_zero]
/-- Twice the same are nothing. -/
theorem xorL_twice (x : List Int) : (xorL [x, x]).all (· == 0) = true := by
  rw [List.all_eq_true]
  intro y hy
  simp only [xorL, List.mem_map] at hy
  obtain ⟨i, _, rfl⟩ := hy
  simp [xn]
/-- A row by its places. -/
def rowOf (f : Nat → Nat) (n : Nat) : List Int := (List.range n).map fun i => (f i : Int)
theorem rowOf_length (f : Nat → Nat) (n : Nat) : (rowOf f n).length = n := by simp [rowOf]
theorem rowOf_getD (f : Nat → Nat) (n i : Nat) (h : i < n) : (rowOf f n).getD i 0 = (f i : Int) := by simp [rowOf, List.getD_eq_getElem?_getD, h]
theorem rowOf_set (f : Nat → Nat) (n j v : Nat) : (rowOf f n).set j (v : Int) = rowOf (fun i => if i = j then v else f i) n := by
  apply List.ext_getElem
  · simp [rowOf]
  · intro i h1 h2
    rw [List.getElem_set]
    simp only [rowOf, List.getElem_map, List.getElem_range]
    split
    · rename_i h; subst h; simp
    · rename_i h; rw [if_neg (fun e => h e.symm)]
theorem rowOf_congr {f g : Nat → Nat} {n : Nat} (h : ∀ i, i < n → f i = g i) : rowOf f n = rowOf g n := List.map_congr_left fun i hi => by rw [h i (List.mem_range.1 hi)]
theorem rowOf_zero (n : Nat) : rowOf (fun _ => 0) n = List.replicate n 0 := by
  apply List.ext_getElem
  · simp [rowOf]
  · intro i h1 h2; simp [rowOf]
set_option maxHeartbeats 4000000 in
set_option maxRecDepth 100000 in
theorem Xor_any (rs : List Row) (A : Option Addr) (c : Nat) (w : World) (hr : RdRows w A rs) (hb : mlen (ll rs) ≤ 1099511627776) :
    Calls Try.prog 10 #[.slice A rs.length c] w fun e w' => ∃ v, e = .returned v ∧ New w w' v (xorL (ll rs)) := by
  have hlen := hr.1
  have HR := Lib.hid hr
  obtain ⟨N, hN⟩ : ∃ N, mlen (ll rs) = N := ⟨_, rfl⟩
  rw [hN] at hb
  have HN := Lib.hid hN
  have hmk := print_make (P := Try.prog) 24 5 .u8 1 Try.underlying24 info5' (by decide) N (by omega)
  clear hr hN
  go_enter Try.func10, Try.ntmps10
  go_wp2
  go_loopw [3, 13] (fun m i wr => ∃ k q : Nat, k ≤ rs.length ∧ q ≤ 1099511627776 ∧ i = .int .i64 (k : Int) ∧ m = .int .i64 (q : Int) ∧ Hid (q = mlen (ll (rs.take k))) ∧ Hid (Drawn0 w wr)) (fun _ i _ => rs.length - (intOf i).toNat)
  case atStart => exact ⟨0, 0, Nat.zero_le _, Nat.zero_le _, rfl, rfl, rfl, Lib.hid (Drawn0.refl _)⟩
  case round =>
    obtain ⟨k, q, hk, hq, rfl, rfl, HQ, HD⟩ := hrel
    by_cases hlt : k < rs.length
    · obtain ⟨ad, he, hc, _, _, _⟩ := (HR.out.below HD.out.below).2 k hlt
      subst he
      have hm := ll_take_succ rs k hlt
      have hm2 : mlen (ll (rs.take (k + 1))) = max q (rs.getD k default).l.length := by rw [hm, mlen_append, ← HQ.out]; simp [mlen]
      have hm3 : (rs.getD k default).l.length ≤ N := by
        rw [← HN.out]
        exact mlen_le (List.mem_map.2 ⟨rs.getD k default, by rw [List.getD_eq_getElem?_getD, List.getElem?_eq_getElem hlt]; simp, rfl⟩)
      obtain ⟨r0, hr0⟩ : ∃ r0, rs.getD k default = r0 := ⟨_, rfl⟩
      rw [hr0] at hc hm2 hm3
      have H2 := Lib.hid hm2
      clear hm hm2 hr0
      go_wp2
      go_roundw
      case rel =>
        refine ⟨k + 1, max q r0.l.length, by omega, by omega, by go_num, ?_, Lib.hid H2.out.symm, ?_⟩
        · by_cases hqq : q < r0.l.length
          · rw [if_pos hqq, Nat.max_eq_right (by omega)]
          · rw [if_neg hqq, Nat.max_eq_left (by omega)]
        · first | exact HD | exact Lib.hid (HD.out.step _)
      case measure => simp [intOf]; omega
    · have hqN : q = N := by have h_ := HQ.out; rw [List.take_of_length_le (by omega), HN.out] at h_; exact h_
      subst hqN
      obtain ⟨nd, rfl⟩ := HD.out.out
      clear HQ HD hq
      go_wp2
      go_loopw [26] (fun i wr => ∃ k : Nat, k ≤ rs.length ∧ i = .int .i64 (k : Int) ∧ Hid (wr.ownsRow w.heap.size 5 1 (.slice (some ⟨w.heap.size, 0, none⟩) q q) q (nums .u8 (rowOf (xn (ll (rs.take k))) q))) ∧ Hid (Below w.heap.size w wr)) (fun i _ => rs.length - (intOf i).toNat)
      case atStart =>
        refine ⟨0, Nat.zero_le _, rfl, Lib.hid ?_, Lib.hid (by repeat (first | exact Below.refl _ _ | assumption | apply bl_alloc | apply bl_drew | apply bl_drewN | (refine bl_seq ?_ (by assumption))))⟩
        have h_ := own_made (w.drewN nd) w.heap.size 5 .u8 q (by simp) (by omega)
        rw [← rowOf_zero] at h_
        exact h_
      case round =>
        obtain ⟨k, hk, rfl, HO, HB⟩ := hrel
        by_cases hlt : k < rs.length
        · obtain ⟨ad, he, hc, hcl, hrd, hby⟩ := (HR.out.below HB.out).2 k hlt
          subst he
          have hm := ll_take_succ rs k hlt
          have hm3 : (rs.getD k default).l.length ≤ q := by
            rw [← HN.out]
            exact mlen_le (List.mem_map.2 ⟨rs.getD k default, by rw [List.getD_eq_getElem?_getD, List.getElem?_eq_getElem hlt]; simp, rfl⟩)
          have hR0 := ((HR.out.2 k hlt).choose_spec.2.2.2.1)
          obtain ⟨r0, hr0⟩ : ∃ r0, rs.getD k default = r0 := ⟨_, rfl⟩
          rw [hr0] at hc hm3 hrd hby hm hR0
          have hxs : ∀ i, xn (ll (rs.take (k + 1))) i = xn (ll (rs.take k)) i ^^^ (r0.l.getD i 0).toNat := by
            intro i
            rw [hm, xn_append]
            simp [xn]
          have HXS := Lib.hid hxs
          have HR0 := Lib.hid hR0
          have HBY := Lib.hid hby
          clear hm hr0 hcl hrd hby hxs hR0
          go_wp2
          go_loopw [32] (fun i wr2 => ∃ j : Nat, j ≤ r0.l.length ∧ i = .int .i64 (j : Int) ∧ Hid (wr2.ownsRow w.heap.size 5 1 (.slice (some ⟨w.heap.size, 0, none⟩) q q) q (nums .u8 (rowOf (fun i => if i < j then xn (ll (rs.take (k + 1))) i else xn (ll (rs.take k)) i) q))) ∧ Hid (Below w.heap.size w wr2)) (fun i _ => r0.l.length - (intOf i).toNat)
          case atStart => exact ⟨0, Nat.zero_le _, rfl, by have h_ := HO.out; rw [rowOf_congr (g := fun i => if i < 0 then xn (ll (rs.take (k + 1))) i else xn (ll (rs.take k)) i) (fun i _ => by simp)] at h_; exact Lib.hid h_, HB⟩
          case round =>
            obtain ⟨j, hj, rfl, HO2, HB2⟩ := hrel
            clear HO HB
            by_cases hlt2 : j < r0.l.length
            · have hr1 := HR0.out.below HB2.out
              obtain ⟨ad2, he2, hc2⟩ := hr1.at_ (j : Int) (by omega) (by omega)
              have hbx := HBY.out (r0.l.getD j 0) (by rw [List.getD_eq_getElem?_getD, List.getElem?_eq_getElem hlt2]; simp)
              obtain ⟨b, hb0⟩ : ∃ b : Nat, r0.l.getD j 0 = (b : Int) := ⟨(r0.l.getD j 0).toNat, by omega⟩
              have hA2 : r0.A = some ad2 := he2
              rw [Int.toNat_natCast, rd_getD, hb0] at hc2
              obtain ⟨hc3, hf3⟩ := own_at HO2.out (j : Int) (by omega) (by omega)
              have hrd3 : rd (rowOf (fun i => if i < j then xn (ll (rs.take (k + 1))) i else xn (ll (rs.take k)) i) q) (j : Int) = ((xn (ll (rs.take k)) j : Nat) : Int) := by
                rw [rd_getD, rowOf_getD _ _ _ (by omega), if_neg (by omega)]
              rw [hrd3, Int.toNat_natCast] at hc3
              rw [Int.toNat_natCast] at hf3
              have hu : xn (ll (rs.take k)) j < 256 := xn_lt (fun l hl => by
                simp only [ll, List.mem_map] at hl
                obtain ⟨r, hr, rfl⟩ := hl
                obtain ⟨i, hi, rfl⟩ := List.getElem_of_mem (List.take_subset _ _ hr)
                have := (HR.out.2 i hi).choose_spec.2.2.2.2
                rwa [List.getD_eq_getElem?_getD, List.getElem?_eq_getElem hi] at this) j
              have hnew := HXS.out j
              rw [hb0, Int.toNat_natCast] at hnew
              obtain ⟨u, hu0⟩ : ∃ u, xn (ll (rs.take k)) j = u := ⟨_, rfl⟩
              rw [hu0] at hc3 hu hnew
              have hx3 : Go.bits .xor .u8 (u : Int) (b : Int) = ((u ^^^ b : Nat) : Int) := u8_xor_nat u b hu (by rw [hb0] at hbx; omega)
              have HNEW := Lib.hid hnew
              clear hr1 he2 hb0 hrd3 hu0 hnew hbx
              go_wp2
              go_roundw
              case rel =>
                refine ⟨j + 1, by omega, by go_num, ?_, Lib.hid (HB2.out.setCell (by simp) _)⟩
                have h_ := (own_store HO2.out (j : Int) ((u ^^^ b : Nat) : Int)).1
                rw [Int.toNat_natCast, rowOf_set] at h_
                rw [rowOf_congr (g := fun i => if i < j + 1 then xn (ll (rs.take (k + 1))) i else xn (ll (rs.take k)) i) (fun i _ => by
                  by_cases e1 : i = j
                  · subst e1; simp [HNEW.out]
                  · rw [if_neg e1]
                    by_cases e2 : i < j
                    · rw [if_pos e2, if_pos (by omega)]
                    · rw [if_neg e2, if_neg (by omega)])] at h_
                exact Lib.hid h_
              case measure => simp [intOf]; omega
            · have hfin : rowOf (fun i => if i < j then xn (ll (rs.take (k + 1))) i else xn (ll (rs.take k)) i) q = rowOf (xn (ll (rs.take (k + 1)))) q := by
                refine rowOf_congr fun i _ => ?_
                by_cases e2 : i < j
                · rw [if_pos e2]
                · rw [if_neg e2, HXS.out i, List.getD_eq_getElem?_getD, List.getElem?_eq_none (by omega)]
                  simp
              rw [hfin] at HO2
              clear hfin
              go_wp2
              go_roundw
              case rel => exact ⟨k + 1, by omega, by go_num, HO2, HB2⟩
              case measure => simp [intOf]; omega
        · have hfin : rowOf (xn (ll (rs.take k))) q = xorL (ll rs) := by rw [List.take_of_length_le (by omega), xorL, HN.out]; rfl
          rw [hfin] at HO
          have hl : (xorL (ll rs)).length = q := by rw [xorL_length]; exact HN.out
          have HL := Lib.hid hl
          clear hfin hl
          go_wp2
          go_ret
          exact ⟨_, rfl, by rw [HL.out]; exact HO.out, HB.out⟩
end Go.Proofs.Ytkbjndfmbimjiaa

/-! Parts together (gabionref09.Xor). -/
namespace Go.Proofs.Ytkbjndfmbimjiaa
open Go.RowKit Go.Proofs.YtkbjndfmbimjiaaW.PrintWords
set_option maxHeartbeats 4000000 in
set_option maxRecDepth 100000 in
theorem rXor_any (rs : List Row) (A : Option Addr) (c : Nat) (w : World) (hr : RdRows w A rs) (hb : mlen (ll rs) ≤ 1099511627776) :
    Calls Try.prog 12 #[.slice A rs.length c] w fun e w' => ∃ v, e = .returned v ∧ New w w' v (xorL (ll rs)) := by
  have hlen := hr.1
  have HR := Lib.hid hr
  obtain ⟨N, hN⟩ : ∃ N, mlen (ll rs) = N := ⟨_, rfl⟩
  rw [hN] at hb
  have HN := Lib.hid hN
  clear hr hN
  go_enter Try.func12, Try.ntmps12
  go_wp2
  go_loopw [3, 4] (fun m i wr => ∃ k q : Nat, k ≤ rs.length ∧ q ≤ 1099511627776 ∧ i = .int .i64 (k : Int) ∧ m = .int .i64 (q : Int) ∧ Hid (q = mlen (ll (rs.take k))) ∧ Hid (Drawn0 w wr)) (fun _ i _ => rs.length - (intOf i).toNat)
  case atStart => exact ⟨0, 0, Nat.zero_le _, Nat.zero_le _, rfl, rfl, rfl, Lib.hid (Drawn0.refl _)⟩
  case round =>
    obtain ⟨k, q, hk, hq, rfl, rfl, HQ, HD⟩ := hrel
    by_cases hlt : k < rs.length
    · obtain ⟨ad, he, hc, _, _, _⟩ := (HR.out.below HD.out.below).2 k hlt
      subst he
      have hm := ll_take_succ rs k hlt
      have hm2 : mlen (ll (rs.take (k + 1))) = max q (rs.getD k default).l.length := by rw [hm, mlen_append, ← HQ.out]; simp [mlen]
      have hm3 : (rs.getD k default).l.length ≤ N := by
        rw [← HN.out]
        exact mlen_le (List.mem_map.2 ⟨rs.getD k default, by rw [List.getD_eq_getElem?_getD, List.getElem?_eq_getElem hlt]; simp, rfl⟩)
      obtain ⟨r0, hr0⟩ : ∃ r0, rs.getD k default = r0 := ⟨_, rfl⟩
      rw [hr0] at hc hm2 hm3
      have H2 := Lib.hid hm2
      clear hm hm2 hr0
      by_cases hqq : (q : Int) < (r0.l.length : Int)
      · go_wp2
        go_roundw
        case rel => exact ⟨k + 1, r0.l.length, by omega, by omega, by go_num, rfl, Lib.hid (by rw [H2.out, Nat.max_eq_right (by omega)]), by first | exact HD | exact Lib.hid (HD.out.step _)⟩
        case measure => simp [intOf]; omega
      · go_wp2
        go_roundw
        case rel => exact ⟨k + 1, q, by omega, by omega, by go_num, rfl, Lib.hid (by rw [H2.out, Nat.max_eq_left (by omega)]), by first | exact HD | exact Lib.hid (HD.out.step _)⟩
        case measure => simp [intOf]; omega
    · have hqN : q = N := by have h_ := HQ.out; rw [List.take_of_length_le (by omega), HN.out] at h_; exact h_
      subst hqN
      obtain ⟨nd, rfl⟩ := HD.out.out
      clear HQ HD hq
      have hq := hb
      go_wp2_with fail
      refine (rZeros_any q _ hq).mono ?_
      rintro e w1 ⟨v1, rfl, hn1⟩
      obtain ⟨A1, c1, rfl, _⟩ := hn1.slice
      have hn2 : w1.ownsRow w.heap.size 5 1 (.slice A1 q c1) q (nums .u8 (rowOf (fun _ => 0) q)) := by
        have h_ := hn1.1
        rw [← rowOf_zero, rowOf_length] at h_
        exact h_
      have hbl : Below w.heap.size w w1 := bl_seq (by repeat (first | exact Below.refl _ _ | assumption | apply bl_alloc | apply bl_drew | apply bl_drewN | (refine bl_seq ?_ (by assumption)))) hn1.bel
      have HO1 := Lib.hid hn2
      have HB1 := Lib.hid hbl
      clear hn1 hn2 hbl
      simp only [List.length_replicate]
      go_wp2
      go_loopw [6] (fun i wr => ∃ k : Nat, k ≤ rs.length ∧ i = .int .i64 (k : Int) ∧ Hid (wr.ownsRow w.heap.size 5 1 (.slice A1 q c1) q (nums .u8 (rowOf (xn (ll (rs.take k))) q))) ∧ Hid (Below w.heap.size w wr)) (fun i _ => rs.length - (intOf i).toNat)
      case atStart => exact ⟨0, Nat.zero_le _, rfl, HO1, HB1⟩
      case round =>
        obtain ⟨k, hk, rfl, HO, HB⟩ := hrel
        by_cases hlt : k < rs.length
        · obtain ⟨ad, he, hc, hcl, hrd, hby⟩ := (HR.out.below HB.out).2 k hlt
          subst he
          have hm := ll_take_succ rs k hlt
          have hm3 : (rs.getD k default).l.length ≤ q := by
            rw [← HN.out]
            exact mlen_le (List.mem_map.2 ⟨rs.getD k default, by rw [List.getD_eq_getElem?_getD, List.getElem?_eq_getElem hlt]; simp, rfl⟩)
          have hR0 := ((HR.out.2 k hlt).choose_spec.2.2.2.1)
          obtain ⟨r0, hr0⟩ : ∃ r0, rs.getD k default = r0 := ⟨_, rfl⟩
          rw [hr0] at hc hm3 hrd hby hm hR0
          have hxs : ∀ i, xn (ll (rs.take (k + 1))) i = xn (ll (rs.take k)) i ^^^ (r0.l.getD i 0).toNat := by
            intro i
            rw [hm, xn_append]
            simp [xn]
          have HE0 := Lib.hid hr0
          have HXS := Lib.hid hxs
          have HR0 := Lib.hid hR0
          have HBY := Lib.hid hby
          clear hm hr0 hcl hrd hby hxs hR0
          go_wp2
          go_loopw [7] (fun i wr2 => ∃ j : Nat, j ≤ r0.l.length ∧ i = .int .i64 (j : Int) ∧ Hid (wr2.ownsRow w.heap.size 5 1 (.slice A1 q c1) q (nums .u8 (rowOf (fun i => if i < j then xn (ll (rs.take (k + 1))) i else xn (ll (rs.take k)) i) q))) ∧ Hid (Below w.heap.size w wr2)) (fun i _ => r0.l.length - (intOf i).toNat)
          case atStart => exact ⟨0, Nat.zero_le _, rfl, by have h_ := HO.out; rw [rowOf_congr (g := fun i => if i < 0 then xn (ll (rs.take (k + 1))) i else xn (ll (rs.take k)) i) (fun i _ => by simp)] at h_; exact Lib.hid h_, HB⟩
          case round =>
            obtain ⟨j, hj, rfl, HO2, HB2⟩ := hrel
            clear HO HB
            obtain ⟨ad9, he9, hc9, _, _, _⟩ := (HR.out.below HB2.out).2 k hlt
            rw [HE0.out] at hc9
            obtain rfl := Option.some.inj he9
            by_cases hlt2 : j < r0.l.length
            · obtain ⟨g1, c2', hgs, hgb, _⟩ := HO2.out.form (by omega)
              injection hgs with e1 e2 e3
              subst e1 e3
              clear e2
              have hr1 := HR0.out.below HB2.out
              obtain ⟨ad2, he2, hc2⟩ := hr1.at_ (j : Int) (by omega) (by omega)
              have hbx := HBY.out (r0.l.getD j 0) (by rw [List.getD_eq_getElem?_getD, List.getElem?_eq_getElem hlt2]; simp)
              obtain ⟨b, hb0⟩ : ∃ b : Nat, r0.l.getD j 0 = (b : Int) := ⟨(r0.l.getD j 0).toNat, by omega⟩
              have hA2 : r0.A = some ad2 := he2
              rw [Int.toNat_natCast, rd_getD, hb0] at hc2
              obtain ⟨hc3, hf3⟩ := own_at HO2.out (j : Int) (by omega) (by omega)
              have hrd3 : rd (rowOf (fun i => if i < j then xn (ll (rs.take (k + 1))) i else xn (ll (rs.take k)) i) q) (j : Int) = ((xn (ll (rs.take k)) j : Nat) : Int) := by
                rw [rd_getD, rowOf_getD _ _ _ (by omega), if_neg (by omega)]
              rw [hrd3, Int.toNat_natCast] at hc3
              rw [Int.toNat_natCast] at hf3
              have hu : xn (ll (rs.take k)) j < 256 := xn_lt (fun l hl => by
                simp only [ll, List.mem_map] at hl
                obtain ⟨r, hr, rfl⟩ := hl
                obtain ⟨i, hi, rfl⟩ := List.getElem_of_mem (List.take_subset _ _ hr)
                have := (HR.out.2 i hi).choose_spec.2.2.2.2
                rwa [List.getD_eq_getElem?_getD, List.getElem?_eq_getElem hi] at this) j
              have hnew := HXS.out j
              rw [hb0, Int.toNat_natCast] at hnew
              obtain ⟨u, hu0⟩ : ∃ u, xn (ll (rs.take k)) j = u := ⟨_, rfl⟩
              rw [hu0] at hc3 hu hnew
              have hx3 : Go.bits .xor .u8 (u : Int) (b : Int) = ((u ^^^ b : Nat) : Int) := u8_xor_nat u b hu (by rw [hb0] at hbx; omega)
              have HNEW := Lib.hid hnew
              clear hr1 he2 hb0 hrd3 hu0 hnew hbx
              go_wp2
              go_region
              go_wp2

              go_roundw
              case rel =>
                refine ⟨j + 1, by omega, by go_num, ?_, Lib.hid (HB2.out.setCell (p := ⟨g1, j, none⟩) hgb _).drew⟩
                have h_ := (own_store HO2.out (j : Int) ((u ^^^ b : Nat) : Int)).1
                rw [Int.toNat_natCast, rowOf_set] at h_
                rw [rowOf_congr (g := fun i => if i < j + 1 then xn (ll (rs.take (k + 1))) i else xn (ll (rs.take k)) i) (fun i _ => by
                  by_cases e1 : i = j
                  · subst e1; simp [HNEW.out]
                  · rw [if_neg e1]
                    by_cases e2 : i < j
                    · rw [if_pos e2, if_pos (by omega)]
                    · rw [if_neg e2, if_neg (by omega)])] at h_
                exact Lib.hid h_
              case measure => simp [intOf]; omega
            · have hfin : rowOf (fun i => if i < j then xn (ll (rs.take (k + 1))) i else xn (ll (rs.take k)) i) q = rowOf (xn (ll (rs.take (k + 1)))) q := by
                refine rowOf_congr fun i _ => ?_
                by_cases e2 : i < j
                · rw [if_pos e2]
                · rw [if_neg e2, HXS.out i, List.getD_eq_getElem?_getD, List.getElem?_eq_none (by omega)]
                  simp
              rw [hfin] at HO2
              clear hfin
              go_wp2
              go_roundw
              case rel => exact ⟨k + 1, by omega, by go_num, HO2, HB2⟩
              case measure => simp [intOf]; omega
        · have hfin : rowOf (xn (ll (rs.take k))) q = xorL (ll rs) := by rw [List.take_of_length_le (by omega), xorL, HN.out]; rfl
          rw [hfin] at HO
          have hl : (xorL (ll rs)).length = q := by rw [xorL_length]; exact HN.out
          have HL := Lib.hid hl
          clear hfin hl
          go_wp2
          go_ret
          exact ⟨_, rfl, by rw [HL.out]; exact HO.out, HB.out⟩
end Go.Proofs.Ytkbjndfmbimjiaa

/-! Rows of slices; summed. -/
namespace Go.Proofs.Ytkbjndfmbimjiaa
open Go.RowKit Go.Proofs.YtkbjndfmbimjiaaW.PrintWords
def encR (r : Row) : Value := .slice r.A r.l.length r.c
def RowOk (w : World) (r : Row) : Prop := r.l.length ≤ r.c ∧ ReadsInt w .u8 r.A r.l.length r.l ∧ Byt r.l
theorem RowOk.below {w w1 : World} {r : Row} (h : RowOk w r) (hb : Below w.heap.size w w1) : RowOk w1 r := ⟨h.1, h.2.1.below hb, h.2.2⟩
theorem RdRows.of {w : World} {A : Option Addr} {n : Nat} {rs : List Row} (h : ReadsOf encR default w A n rs) (hok : ∀ r ∈ rs, RowOk w r) : RdRows w A rs := by
  refine ⟨by rw [h.1]; exact h.2.1, fun i hi => ?_⟩
  obtain ⟨ad, e, hc⟩ := h.2.2 (by rw [← h.1]; omega)
  have h2 := hok (rs.getD i default) (by rw [List.getD_eq_getElem?_getD, List.getElem?_eq_getElem hi]; simp)
  exact ⟨ad, e, hc i (by rw [← h.1]; exact hi), h2.1, h2.2.1, h2.2.2⟩
theorem RdRows.ok {w : World} {A : Option Addr} {rs : List Row} (h : RdRows w A rs) : ∀ r ∈ rs, RowOk w r := by
  intro r hr
  obtain ⟨i, hi, rfl⟩ := List.getElem_of_mem hr
  obtain ⟨_, _, _, h1, h2, h3⟩ := h.2 i hi
  rw [List.getD_eq_getElem?_getD, List.getElem?_eq_getElem hi] at h1 h2 h3
  exact ⟨h1, h2, h3⟩
theorem New.rowOk {w w' : World} {A : Option Addr} {n c : Nat} {xs : List Int} (h : New w w' (.slice A n c) xs) (hc : xs.length ≤ c) (hb : Byt xs) : RowOk w' ⟨A, c, xs⟩ := ⟨hc, h.reads, hb⟩
/-- A literal of slices. -/
theorem rows_lit (w : World) (rs : List Row) (hm : rs.length ≤ 9223372036854775807) : ReadsOf encR default (w.alloc (.cells (encs encR rs).toArray 24)) (some ⟨w.heap.size, 0, none⟩) rs.length rs :=
  own_reads_of' (own_lit_of (enc := encR) w w.heap.size 24 rs (Nat.le_refl _) hm)
theorem lit_ok (w : World) (xs : List Int) (hm : xs.length ≤ 9223372036854775807) (hb : Byt xs) : RowOk (w.alloc (.cells (nums .u8 xs).toArray 5)) ⟨some ⟨w.heap.size, 0, none⟩, xs.length, xs⟩ :=
  ⟨Nat.le_refl _, reads_box w .u8 xs _ _ rfl hm, hb⟩
set_option maxHeartbeats 2000000 in
theorem summed_any (w : World) : Calls Try.prog 9 #[] w fun e w' => e = .returned (.bool true) ∧ Below w.heap.size w w' := by
  go_enter Try.func9, Try.ntmps9
  go_wp2_with fail
  have k1 := lit_ok w [1, 2] (by decide) (Byt.of (by decide))
  obtain ⟨w1, hw1⟩ : ∃ w1, w1 = w.alloc (.cells #[.int .u8 1, .int .u8 2] 5) := ⟨_, rfl⟩
  have k2 := lit_ok w1 [1] (by decide) (Byt.of (by decide))
  obtain ⟨w2, hw2⟩ : ∃ w2, w2 = w1.alloc (.cells #[.int .u8 1] 5) := ⟨_, rfl⟩
  have k3 := rows_lit w2 [⟨some ⟨w.heap.size, 0, none⟩, 2, [1, 2]⟩, ⟨some ⟨w1.heap.size, 0, none⟩, 1, [1]⟩] (by simp)
  have b1 : Below w.heap.size w w1 := by rw [hw1]; exact bl_alloc (Below.refl _ _) _
  have b2 : Below w1.heap.size w1 w2 := by rw [hw2]; exact bl_alloc (Below.refl _ _) _
  have s1 : w1.heap.size = w.heap.size + 1 := by rw [hw1]; simp
  have s2 : w2.heap.size = w.heap.size + 1 + 1 := by rw [hw2]; simp [s1]
  have hR : RdRows (w2.alloc (.cells (encs encR [⟨some ⟨w.heap.size, 0, none⟩, 2, [1, 2]⟩, ⟨some ⟨w1.heap.size, 0, none⟩, 1, [1]⟩]).toArray 24)) (some ⟨w2.heap.size, 0, none⟩) [⟨some ⟨w.heap.size, 0, none⟩, 2, [1, 2]⟩, ⟨some ⟨w1.heap.size, 0, none⟩, 1, [1]⟩] := by
    refine RdRows.of k3 ?_
    intro r hr
    simp only [List.mem_cons, List.mem_nil_iff, or_false] at hr
    rcases hr with rfl | rfl
    · have k1' : RowOk w1 ⟨some ⟨w.heap.size, 0, none⟩, 2, [1, 2]⟩ := by rw [hw1]; exact k1
      exact (k1'.below b2).below (bl_alloc (Below.refl _ _) _)
    · have k2' : RowOk w2 ⟨some ⟨w1.heap.size, 0, none⟩, 1, [1]⟩ := by rw [hw2]; exact k2
      exact k2'.below (bl_alloc (Below.refl _ _) _)
  have hc := Xor_any _ _ 2 _ hR (by simp [ll, mlen])
  rw [s1, s2, hw2, hw1] at hc
  refine hc.mono ?_
  rintro e w3 ⟨v3, rfl, hn3⟩
  have hn3 : New _ w3 v3 (xorL [[1, 2], [1]]) := hn3
  rw [show xorL [[1, 2], [1]] = [0, 2] from by decide] at hn3
  obtain ⟨A3, c3, rfl, _⟩ := hn3.slice
  have H3 := Lib.hid hn3
  have T3 : Hid (Below w.heap.size w w3) := Lib.hid (bl_seq (bl_alloc (bl_alloc (bl_alloc (Below.refl _ _) _) _) _) hn3.bel)
  clear hc hR k3 k2 k1 b1 b2 s1 s2 hw1 hw2 hn3
  go_wp2_with fail
  refine (rSame_any [0, 2] [0, 2] A3 _ 2 2 c3 2 _ (H3.out.reads.below (bl_alloc (Below.refl _ _) _)) (reads_box w3 .u8 [0, 2] 2 5 rfl (by omega)) (Byt.of (by decide)) (Byt.of (by decide))).mono ?_
  rintro e w4 ⟨rfl, hd4⟩
  have H4 := Lib.hid hd4.below
  clear hd4
  go_wp2_with fail
  go_ret
  exact ⟨by simp, bl_seq (bl_alloc T3.out _) H4.out⟩
theorem infoR : (Try.prog.info? 24).map (fun i => (i.zero, i.size, i.bytes)) = some (some (.slice none 0 0), 1, 24) := by kernel_rfl
/-- What is owned is read. -/
theorem reads_k {W : World} {base k : Nat} {e : TypeId} {A : Option Addr} {n c : Nat} {rs : List Row} (h : W.ownsRow base e 1 (.slice A n c) k (encs encR rs)) (_hk : rs.length = k) : ReadsOf encR default W A n rs := by
  obtain ⟨A', c', e', hr⟩ := own_reads_of (d := default) h
  injection e' with e1 e2 e3
  subst e1 e2 e3
  exact hr
theorem own_n {W : World} {base k : Nat} {e : TypeId} {A : Option Addr} {n c : Nat} {rs : List Row} (h : W.ownsRow base e 1 (.slice A n c) k (encs encR rs)) (_hk : rs.length = k) : n = k := by
  obtain ⟨A', c', e'⟩ := own_slice h
  injection e'
theorem ll_length (rs : List Row) : (ll rs).length = rs.length := by simp [ll]
theorem mlen_bound {ls : List (List Int)} {b : Nat} (h : ∀ l ∈ ls, l.length ≤ b) : mlen ls ≤ b := by
  induction ls with
  | nil => simp [mlen]
  | cons x ls ih =>
    have h1 := h x (by simp)
    have h2 := ih fun l hl => h l (by simp [hl])
    simp only [mlen]; omega
set_option maxHeartbeats 4000000 in
set_option maxRecDepth 100000 in
theorem xors_walk (rs : List Row) (A : Option Addr) (c : Nat) (w : World) (hr : RdRows w A rs) :
    Calls Try.prog 3 #[.slice A rs.length c] w fun e w' => e = .returned (.bool true) ∧ Below w.heap.size w w' := by
  have hlen := hr.1
  have HR := Lib.hid hr
  clear hr
  by_cases h12 : 12 < rs.length
  · go_enter Try.func3, Try.ntmps3
    go_wp2_with fail
    refine (summed_any _).mono ?_
    rintro e w1 ⟨rfl, hb1⟩
    go_wp2_with fail
    go_ret
    exact ⟨rfl, hb1⟩
  · go_enter Try.func3, Try.ntmps3
    go_wp2
    go_loopw [3, 4] (fun v i wr => ∃ k : Nat, k ≤ rs.length ∧ i = .int .i64 (k : Int) ∧ Hid (∀ l ∈ ll (rs.take k), l.length ≤ 300) ∧ Hid (wr.ownsRow w.heap.size 24 1 v k (encs encR (rs.take k).reverse)) ∧ Hid (Below w.heap.size w wr)) (fun _ i _ => rs.length - (intOf i).toNat)
    case atStart => exact ⟨0, Nat.zero_le _, rfl, Lib.hid (by simp [ll]), Lib.hid (own_nil _ _ _ _), Lib.hid (Below.refl _ _)⟩
    case round =>
      obtain ⟨k, hk, rfl, HL, HO, HB⟩ := hrel
      by_cases hlt : k < rs.length
      · obtain ⟨ad, he, hc, _, _, _⟩ := (HR.out.below HB.out).2 k hlt
        subst he
        have hm := ll_take_succ rs k hlt
        have hrv : (rs.take (k + 1)).reverse = [rs.getD k default] ++ (rs.take k).reverse := by
          rw [List.take_succ_eq_append_getElem hlt, List.reverse_append, List.getD_eq_getElem?_getD, List.getElem?_eq_getElem hlt]; rfl
        obtain ⟨r0, hr0⟩ : ∃ r0, rs.getD k default = r0 := ⟨_, rfl⟩
        rw [hr0] at hc hm hrv
        clear hr0
        by_cases h300 : 300 < r0.l.length
        · go_wp2_with fail
          refine (summed_any _).mono ?_
          rintro e w1 ⟨rfl, hb1⟩
          have H1 := Lib.hid (bl_seq HB.out hb1)
          clear hb1
          go_wp2_with fail
          go_ret
          exact ⟨rfl, H1.out⟩
        · have HM := Lib.hid hm
          have HV := Lib.hid hrv
          obtain ⟨A7, n7, c7, rfl⟩ := own_slice' HO.out
          clear hm hrv
          go_wp2_with (at_builtin; refine print_append_row_of (w0 := w) encR default w.heap.size rfl (.tmp 27) (.tmp 28) 22 24 (.slice none 0 0) 24 rfl Try.underlying22 infoR rfl (by decide) (fun _ => rfl) _ [r0] (rs.take k).reverse A7 n7 c7 rfl rfl ?aO ?aR (bl_alloc HB.out _) (by have := HB.out.size; simp; omega) ?aL ?_; (case aO => exact own_lit_of (enc := encR) wr w.heap.size 24 [r0] HB.out.size (by simp)); (case aR => exact (reads_k (HO.out.alloc _) (by simp; omega))); (case aL => have := own_n HO.out (by simp; omega); simp; omega); intro v9 w9 ho hb hg hat; obtain ⟨A9, n9, c9, rfl⟩ := own_slice' ho; have O9 := Lib.hid (And.intro ho hb); clear ho hb hg hat)
          go_roundw
          case rel =>
            refine ⟨k + 1, by omega, by go_num, ?_, ?_, Lib.hid O9.out.2⟩
            · rw [HM.out]
              refine Lib.hid fun l hl => ?_
              rcases List.mem_append.1 hl with hl | hl
              · exact HL.out l hl
              · rw [List.mem_singleton.1 hl]; omega
            · have h_ := O9.out.1
              rw [HV.out]
              have e : ([r0] ++ (rs.take k).reverse).length = k + 1 := by simp; omega
              rw [e] at h_
              exact Lib.hid h_
          case measure => simp [intOf]; omega
      · have hkn : rs.take k = rs := List.take_of_length_le (by omega)
        rw [hkn] at HL HO
        have hkl : k = rs.length := by omega
        subst hkl
        obtain ⟨A7, c7, rfl⟩ := own_slice HO.out
        have hml := mlen_bound HL.out
        have HRB := Lib.hid (RdRows.of (reads_k HO.out (by simp)) (fun r hr => ((HR.out.below HB.out).ok) r (List.mem_reverse.1 hr)))
        have hrl : rs.reverse.length = rs.length := by simp
        have hll : ll rs.reverse = (ll rs).reverse := by simp [ll]
        have HLL := Lib.hid hll
        have hby : Byt (xorL (ll rs)) := xorL_byt (fun l hl => by
          obtain ⟨r, hr, rfl⟩ := List.mem_map.1 hl
          exact (HR.out.ok r hr).2.2)
        have HBY := Lib.hid hby
        clear hkn hll hby
        go_wp2_with fail
        refine (Xor_any rs A c _ (HR.out.below HB.out) (by omega)).mono ?_
        rintro e w1 ⟨v1, rfl, hn1⟩
        obtain ⟨A1, c1, rfl, hc1⟩ := hn1.slice
        have N1 := Lib.hid hn1
        have T1 := Lib.hid (bl_seq HB.out hn1.bel)
        clear hn1
        go_wp2_with fail
        refine (summed_any _).mono ?_
        rintro e w2 ⟨rfl, hb2⟩
        have R2 := Lib.hid (N1.out.reads.below hb2)
        have B12 := Lib.hid hb2
        have T2 := Lib.hid (bl_seq T1.out hb2)
        clear hb2
        go_wp2_with fail
        refine (rXor_any rs A c _ (HR.out.below T2.out) (by omega)).mono ?_
        rintro e w3 ⟨v3, rfl, hn3⟩
        obtain ⟨A3, c3, rfl, hc3⟩ := hn3.slice
        have N3 := Lib.hid hn3
        have T3 := Lib.hid (bl_seq T2.out hn3.bel)
        have R3 := Lib.hid (R2.out.below hn3.bel)
        clear hn3
        go_wp2_with fail
        refine (rSame_any _ _ A1 A3 _ _ c1 c3 _ R3.out N3.out.reads HBY.out HBY.out).mono ?_
        rintro e w4 ⟨rfl, hd4⟩
        have T4 := Lib.hid (bl_seq T3.out hd4.below)
        have R4 := Lib.hid (R3.out.below hd4.below)
        have B4 := Lib.hid (bl_seq B12.out (bl_seq N3.out.bel hd4.below))
        clear hd4
        simp only [decide_true]
        go_wp2_with fail
        have HX := Xor_any rs.reverse A7 c7 w4 ((HRB.out.below N1.out.bel).below B4.out) (by rw [HLL.out, mlen_reverse]; omega)
        rw [hrl, HLL.out, xorL_reverse] at HX
        refine HX.mono ?_
        clear HX
        rintro e w5 ⟨v5, rfl, hn5⟩
        obtain ⟨A5, c5, rfl, hc5⟩ := hn5.slice
        have N5 := Lib.hid hn5
        have T5 := Lib.hid (bl_seq T4.out hn5.bel)
        have R5 := Lib.hid (R4.out.below hn5.bel)
        clear hn5
        go_wp2_with fail
        refine (rSame_any _ _ A5 A1 _ _ c5 c1 _ N5.out.reads R5.out HBY.out HBY.out).mono ?_
        rintro e w6 ⟨rfl, hd6⟩
        have T6 := Lib.hid (bl_seq T5.out hd6.below)
        have R6 := Lib.hid (R5.out.below hd6.below)
        clear hd6
        simp only [decide_true]
        go_wp2_with fail
        obtain ⟨X, hX⟩ : ∃ X, xorL (ll rs) = X := ⟨_, rfl⟩
        have htw := xorL_twice X
        have hXl : X.length ≤ 300 := by rw [← hX, xorL_length]; exact hml
        rw [hX] at HBY R6 hc1
        rw [hX]
        have HT := Lib.hid htw
        have hrows : RdRows (w6.alloc (.cells (encs encR [⟨A1, c1, X⟩, ⟨A1, c1, X⟩]).toArray 24)) (some ⟨w6.heap.size, 0, none⟩) [⟨A1, c1, X⟩, ⟨A1, c1, X⟩] := by
          refine RdRows.of (rows_lit w6 [⟨A1, c1, X⟩, ⟨A1, c1, X⟩] (by simp)) ?_
          intro r hr
          simp only [List.mem_cons, List.mem_nil_iff, or_false, or_self] at hr
          subst hr
          exact RowOk.below (w := w6) ⟨hc1, R6.out, HBY.out⟩ (bl_alloc (Below.refl _ _) _)
        have HX := Xor_any _ _ 2 _ hrows (by simp [ll, mlen]; omega)
        clear hrows htw hX
        refine HX.mono ?_
        clear HX
        rintro e w7 ⟨v7, rfl, hn7⟩
        obtain ⟨A7', c7', rfl, hc7⟩ := hn7.slice
        have N7 := Lib.hid hn7
        have T7 := Lib.hid (bl_seq (bl_alloc T6.out _) hn7.bel)
        clear hn7
        go_wp2_with fail
        refine (rIsZero_any _ A7' c7' _ N7.out.reads).mono ?_
        rintro e w8 ⟨rfl, hd8⟩
        have T8 := Lib.hid (bl_seq T7.out hd8.below)
        clear hd8
        rw [show (xorL (ll [⟨A1, c1, X⟩, ⟨A1, c1, X⟩])).all (· == 0) = true from HT.out]
        go_wp2_with fail
        have HX := Xor_any [] none 0 w8 ⟨by simp, fun i hi => by simp at hi⟩ (by simp [ll, mlen])
        refine HX.mono ?_
        clear HX
        rintro e w9 ⟨v9, rfl, hn9⟩
        obtain ⟨A9, c9, rfl, hc9⟩ := hn9.slice
        have T9 := Lib.hid (bl_seq T8.out hn9.bel)
        rw [show xorL (ll []) = [] from rfl]
        clear hn9 hc9
        go_wp2_with fail
        go_ret
        exact ⟨rfl, T9.out⟩
end Go.Proofs.Ytkbjndfmbimjiaa
