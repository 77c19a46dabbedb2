import Derived.Test.YtkbjndfmbimjiaaReg
import Derived.Laws.BitsAllLaws
/-! Parts together (gabion/parity.Xor, gabionref09.Xor). -/
namespace Go.Proofs.Ytkbjndfmbimjiaa
open Go.RowKit Go.Proofs.YtkbjndfmbimjiaaW.PrintWords
/-- A slice of bytes as it stands in a row of slices. -/
structure Row where
  A : Option Addr
  c : Nat
  l : List Int
instance : Inhabited Row := ⟨⟨none, 0, []⟩⟩
def RdRows (w : World) (A : Option Addr) (rs : List Row) : Prop :=
  rs.length ≤ 9223372036854775807 ∧ ∀ i, i < rs.length → ∃ a, A = some a ∧ w.cell? (a.add i) = some (.slice (rs.getD i default).A (rs.getD i default).l.length (rs.getD i default).c) ∧ (rs.getD i default).l.length ≤ (rs.getD i default).c ∧
    ReadsInt w .u8 (rs.getD i default).A (rs.getD i default).l.length (rs.getD i default).l ∧ Byt (rs.getD i default).l
theorem RdRows.below {w w1 : World} {A : Option Addr} {rs : List Row} (h : RdRows w A rs) (hb : Below w.heap.size w w1) : RdRows w1 A rs :=
  ⟨h.1, fun i hi => by
    obtain ⟨a, e, hc, hl, hr, hB⟩ := h.2 i hi
    exact ⟨a, e, pw_cell_below hb hc, hl, hr.below hb, hB⟩⟩
def ll (rs : List Row) : List (List Int) := rs.map (·.l)
def mlen : List (List Int) → Nat
  | [] => 0
  | l :: ls => max l.length (mlen ls)
def xn : List (List Int) → Nat → Nat
  | [], _ => 0
  | l :: ls, i => (l.getD i 0).toNat ^^^ xn ls i
/-- All parts together. -/
def xorL (ls : List (List Int)) : List Int := (List.range (mlen ls)).map fun i => (xn ls i : Int)
theorem mlen_append (a b : List (List Int)) : mlen (a ++ b) = max (mlen a) (mlen b) := by
  induction a with
  | nil => simp [mlen]
  | cons x a ih => simp [mlen, ih, Nat.max_assoc]
theorem xn_append (a b : List (List Int)) (i : Nat) : xn (a ++ b) i = xn a i ^^^ xn b i := by
  induction a with
  | nil => simp [xn]
  | cons x a ih => simp [xn, ih, Nat.xor_assoc]
theorem mlen_reverse (a : List (List Int)) : mlen a.reverse = mlen a := by
  induction a with
  | nil => rfl
  | cons x a ih => simp [mlen_append, mlen, ih, Nat.max_comm]
theorem xn_reverse (a : List (List Int)) (i : Nat) : xn a.reverse i = xn a i := by
  induction a with
  | nil => rfl
  | cons x a ih => simp [xn_append, xn, ih, Nat.xor_comm]
theorem mlen_le {ls : List (List Int)} {l : List Int} (h : l ∈ ls) : l.length ≤ mlen ls := by
  induction ls with
  | nil => cases h
  | cons x ls ih =>
    rcases List.mem_cons.1 h with rfl | h
    · simp [mlen]; omega
    · have := ih h; simp [mlen]; omega
theorem xn_out {ls : List (List Int)} {i : Nat} (h : mlen ls ≤ i) : xn ls i = 0 := by
  induction ls with
  | nil => rfl
  | cons x ls ih =>
    simp only [mlen] at h
    rw [xn, ih (by omega), List.getD_eq_getElem?_getD, List.getElem?_eq_none (by omega)]
    rfl
theorem xn_lt {ls : List (List Int)} (h : ∀ l ∈ ls, Byt l) (i : Nat) : xn ls i < 256 := by
  induction ls with
  | nil => simp [xn]
  | cons x ls ih =>
    have h1 : (x.getD i 0).toNat < 2 ^ 8 := by
      rw [List.getD_eq_getElem?_getD]
      rcases Nat.lt_or_ge i x.length with hi | hi
      · rw [List.getElem?_eq_getElem hi]
        have := h x (by simp) x[i] (List.getElem_mem _)
        simp; omega
      · rw [List.getElem?_eq_none hi]; simp
    exact Nat.xor_lt_two_pow h1 (ih fun l hl => h l (by simp [hl]))
theorem xorL_length (ls : List (List Int)) : (xorL ls).length = mlen ls := by simp [xorL]
theorem xorL_byt {ls : List (List Int)} (h : ∀ l ∈ ls, Byt l) : Byt (xorL ls) := by
  intro x hx
  simp only [xorL, List.mem_map] at hx
  obtain ⟨i, _, rfl⟩ := hx
  have := xn_lt h i
  omega
theorem xorL_getD (ls : List (List Int)) (i : Nat) : (xorL ls).getD i 0 = (xn ls i : Int) := by
  rcases Nat.lt_or_ge i (mlen ls) with h | h
  · simp [xorL, List.getD_eq_getElem?_getD, h]
  · rw [List.getD_eq_getElem?_getD, List.getElem?_eq_none (by rw [xorL_length]; exact h), xn_out h]; rfl
theorem xorL_reverse (ls : List (List Int)) : xorL ls.reverse = xorL ls := by
  rw [xorL, xorL, mlen_reverse]
  exact List.map_congr_left fun i _ => by rw [xn_reverse]
/-- Parts are put together in any way. -/
theorem xorL_parts (a b : List (List Int)) : xorL [xorL a, xorL b] = xorL (a ++ b) := by
  have h : mlen [xorL a, xorL b] = mlen (a ++ b) := by simp [mlen, mlen_append, xorL_length]
  have e : xorL [xorL a, xorL b] = (List.range (mlen [xorL a, xorL b])).map fun i => (xn [xorL a, xorL b] i : Int) := rfl
  have e2 : xorL (a ++ b) = (List.range (mlen (a ++ b))).map fun i => (xn (a ++ b) i : Int) := rfl
  rw [e, e2, h]
  refine List.map_congr_left fun i _ => ?_
  rw [xn_append]
  simp only [xn, xorL_getD, Int.toNat_natCast, Nat.xor_zero]
/-- Twice the same are nothing. -/
theorem xorL_twice (x : List Int) : (xorL [x, x]).all (· == 0) = true := by
  rw [List.all_eq_true]
  intro y hy
  simp only [xorL, List.mem_map] at hy
  obtain ⟨i, _, rfl⟩ := hy
  simp [xn]
/-- A row by its places. -/
def rowOf (f : Nat → Nat) (n : Nat) : List Int := (List.range n).map fun i => (f i : Int)
theorem rowOf_length (f : Nat → Nat) (n : Nat) : (rowOf f n).length = n := by simp [rowOf]
theorem rowOf_getD (f : Nat → Nat) (n i : Nat) (h : i < n) : (rowOf f n).getD i 0 = (f i : Int) := by simp [rowOf, List.getD_eq_getElem?_getD, h]
theorem rowOf_set (f : Nat → Nat) (n j v : Nat) : (rowOf f n).set j (v : Int) = rowOf (fun i => if i = j then v else f i) n := by
  apply List.ext_getElem
  · simp [rowOf]
  · intro i h1 h2
    rw [List.getElem_set]
    simp only [rowOf, List.getElem_map, List.getElem_range]
    split
    · rename_i h; subst h; simp
    · rename_i h; rw [if_neg (fun e => h e.symm)]
theorem rowOf_congr {f g : Nat → Nat} {n : Nat} (h : ∀ i, i < n → f i = g i) : rowOf f n = rowOf g n := List.map_congr_left fun i hi => by rw [h i (List.mem_range.1 hi)]
theorem rowOf_zero (n : Nat) : rowOf (fun _ => 0) n = List.replicate n 0 := by
  apply List.ext_getElem
  · simp [rowOf]
  · intro i h1 h2; simp [rowOf]
theorem ll_take_succ (rs : List Row) (k : Nat) (h : k < rs.length) : ll (rs.take (k + 1)) = ll (rs.take k) ++ [(rs.getD k default).l] := by
  rw [List.take_succ_eq_append_getElem h, ll, List.map_append, List.getD_eq_getElem?_getD, List.getElem?_eq_getElem h]
  rfl
set_option maxHeartbeats 4000000 in
set_option maxRecDepth 100000 in
theorem Xor_any (rs : List Row) (A : Option Addr) (c : Nat) (w : World) (hr : RdRows w A rs) (hb : mlen (ll rs) ≤ 1099511627776) :
    Calls Try.prog 10 #[.slice A rs.length c] w fun e w' => ∃ v, e = .returned v ∧ New w w' v (xorL (ll rs)) := by
  have hlen := hr.1
  have HR := Lib.hid hr
  obtain ⟨N, hN⟩ : ∃ N, mlen (ll rs) = N := ⟨_, rfl⟩
  rw [hN] at hb
  have HN := Lib.hid hN
  have hmk := print_make (P := Try.prog) 24 5 .u8 1 Try.underlying24 info5' (by decide) N (by omega)
  clear hr hN
  go_enter Try.func10, Try.ntmps10
  go_wp2
  go_loopw [3, 13] (fun m i wr => ∃ k q : Nat, k ≤ rs.length ∧ q ≤ 1099511627776 ∧ i = .int .i64 (k : Int) ∧ m = .int .i64 (q : Int) ∧ Hid (q = mlen (ll (rs.take k))) ∧ Hid (Drawn0 w wr)) (fun _ i _ => rs.length - (intOf i).toNat)
  case atStart => exact ⟨0, 0, Nat.zero_le _, Nat.zero_le _, rfl, rfl, rfl, Lib.hid (Drawn0.refl _)⟩
  case round =>
    obtain ⟨k, q, hk, hq, rfl, rfl, HQ, HD⟩ := hrel
    by_cases hlt : k < rs.length
    · obtain ⟨ad, he, hc, _, _, _⟩ := (HR.out.below HD.out.below).2 k hlt
      subst he
      have hm := ll_take_succ rs k hlt
      have hm2 : mlen (ll (rs.take (k + 1))) = max q (rs.getD k default).l.length := by rw [hm, mlen_append, ← HQ.out]; simp [mlen]
      have hm3 : (rs.getD k default).l.length ≤ N := by
        rw [← HN.out]
        exact mlen_le (List.mem_map.2 ⟨rs.getD k default, by rw [List.getD_eq_getElem?_getD, List.getElem?_eq_getElem hlt]; simp, rfl⟩)
      obtain ⟨r0, hr0⟩ : ∃ r0, rs.getD k default = r0 := ⟨_, rfl⟩
      rw [hr0] at hc hm2 hm3
      have H2 := Lib.hid hm2
      clear hm hm2 hr0
      go_wp2
      go_roundw
      case rel =>
        refine ⟨k + 1, max q r0.l.length, by omega, by omega, by go_num, ?_, Lib.hid H2.out.symm, ?_⟩
        · by_cases hqq : q < r0.l.length
          · rw [if_pos hqq, Nat.max_eq_right (by omega)]
          · rw [if_neg hqq, Nat.max_eq_left (by omega)]
        · first | exact HD | exact Lib.hid (HD.out.step _)
      case measure => simp [intOf]; omega
    · have hqN : q = N := by have h_ := HQ.out; rw [List.take_of_length_le (by omega), HN.out] at h_; exact h_
      subst hqN
      obtain ⟨nd, rfl⟩ := HD.out.out
      clear HQ HD hq
      go_wp2
      go_loopw [26] (fun i wr => ∃ k : Nat, k ≤ rs.length ∧ i = .int .i64 (k : Int) ∧ Hid (wr.ownsRow w.heap.size 5 1 (.slice (some ⟨w.heap.size, 0, none⟩) q q) q (nums .u8 (rowOf (xn (ll (rs.take k))) q))) ∧ Hid (Below w.heap.size w wr)) (fun i _ => rs.length - (intOf i).toNat)
      case atStart =>
        refine ⟨0, Nat.zero_le _, rfl, Lib.hid ?_, Lib.hid (by repeat (first | exact Below.refl _ _ | assumption | apply bl_alloc | apply bl_drew | apply bl_drewN | (refine bl_seq ?_ (by assumption))))⟩
        have h_ := own_made (w.drewN nd) w.heap.size 5 .u8 q (by simp) (by omega)
        rw [← rowOf_zero] at h_
        exact h_
      case round =>
        obtain ⟨k, hk, rfl, HO, HB⟩ := hrel
        by_cases hlt : k < rs.length
        · obtain ⟨ad, he, hc, hcl, hrd, hby⟩ := (HR.out.below HB.out).2 k hlt
          subst he
          have hm := ll_take_succ rs k hlt
          have hm3 : (rs.getD k default).l.length ≤ q := by
            rw [← HN.out]
            exact mlen_le (List.mem_map.2 ⟨rs.getD k default, by rw [List.getD_eq_getElem?_getD, List.getElem?_eq_getElem hlt]; simp, rfl⟩)
          have hR0 := ((HR.out.2 k hlt).choose_spec.2.2.2.1)
          obtain ⟨r0, hr0⟩ : ∃ r0, rs.getD k default = r0 := ⟨_, rfl⟩
          rw [hr0] at hc hm3 hrd hby hm hR0
          have hxs : ∀ i, xn (ll (rs.take (k + 1))) i = xn (ll (rs.take k)) i ^^^ (r0.l.getD i 0).toNat := by
            intro i
            rw [hm, xn_append]
            simp [xn]
          have HXS := Lib.hid hxs
          have HR0 := Lib.hid hR0
          have HBY := Lib.hid hby
          clear hm hr0 hcl hrd hby hxs hR0
          go_wp2
          go_loopw [32] (fun i wr2 => ∃ j : Nat, j ≤ r0.l.length ∧ i = .int .i64 (j : Int) ∧ Hid (wr2.ownsRow w.heap.size 5 1 (.slice (some ⟨w.heap.size, 0, none⟩) q q) q (nums .u8 (rowOf (fun i => if i < j then xn (ll (rs.take (k + 1))) i else xn (ll (rs.take k)) i) q))) ∧ Hid (Below w.heap.size w wr2)) (fun i _ => r0.l.length - (intOf i).toNat)
          case atStart => exact ⟨0, Nat.zero_le _, rfl, by have h_ := HO.out; rw [rowOf_congr (g := fun i => if i < 0 then xn (ll (rs.take (k + 1))) i else xn (ll (rs.take k)) i) (fun i _ => by simp)] at h_; exact Lib.hid h_, HB⟩
          case round =>
            obtain ⟨j, hj, rfl, HO2, HB2⟩ := hrel
            clear HO HB
            by_cases hlt2 : j < r0.l.length
            · have hr1 := HR0.out.below HB2.out
              obtain ⟨ad2, he2, hc2⟩ := hr1.at_ (j : Int) (by omega) (by omega)
              have hbx := HBY.out (r0.l.getD j 0) (by rw [List.getD_eq_getElem?_getD, List.getElem?_eq_getElem hlt2]; simp)
              obtain ⟨b, hb0⟩ : ∃ b : Nat, r0.l.getD j 0 = (b : Int) := ⟨(r0.l.getD j 0).toNat, by omega⟩
              have hA2 : r0.A = some ad2 := he2
              rw [Int.toNat_natCast, rd_getD, hb0] at hc2
              obtain ⟨hc3, hf3⟩ := own_at HO2.out (j : Int) (by omega) (by omega)
              have hrd3 : rd (rowOf (fun i => if i < j then xn (ll (rs.take (k + 1))) i else xn (ll (rs.take k)) i) q) (j : Int) = ((xn (ll (rs.take k)) j : Nat) : Int) := by
                rw [rd_getD, rowOf_getD _ _ _ (by omega), if_neg (by omega)]
              rw [hrd3, Int.toNat_natCast] at hc3
              rw [Int.toNat_natCast] at hf3
              have hu : xn (ll (rs.take k)) j < 256 := xn_lt (fun l hl => by
                simp only [ll, List.mem_map] at hl
                obtain ⟨r, hr, rfl⟩ := hl
                obtain ⟨i, hi, rfl⟩ := List.getElem_of_mem (List.take_subset _ _ hr)
                have := (HR.out.2 i hi).choose_spec.2.2.2.2
                rwa [List.getD_eq_getElem?_getD, List.getElem?_eq_getElem hi] at this) j
              have hnew := HXS.out j
              rw [hb0, Int.toNat_natCast] at hnew
              obtain ⟨u, hu0⟩ : ∃ u, xn (ll (rs.take k)) j = u := ⟨_, rfl⟩
              rw [hu0] at hc3 hu hnew
              have hx3 : Go.bits .xor .u8 (u : Int) (b : Int) = ((u ^^^ b : Nat) : Int) := u8_xor_nat u b hu (by rw [hb0] at hbx; omega)
              have HNEW := Lib.hid hnew
              clear hr1 he2 hb0 hrd3 hu0 hnew hbx
              go_wp2
              go_roundw
              case rel =>
                refine ⟨j + 1, by omega, by go_num, ?_, Lib.hid (HB2.out.setCell (by simp) _)⟩
                have h_ := (own_store HO2.out (j : Int) ((u ^^^ b : Nat) : Int)).1
                rw [Int.toNat_natCast, rowOf_set] at h_
                rw [rowOf_congr (g := fun i => if i < j + 1 then xn (ll (rs.take (k + 1))) i else xn (ll (rs.take k)) i) (fun i _ => by
                  by_cases e1 : i = j
                  · subst e1; simp [HNEW.out]
                  · rw [if_neg e1]
                    by_cases e2 : i < j
                    · rw [if_pos e2, if_pos (by omega)]
                    · rw [if_neg e2, if_neg (by omega)])] at h_
                exact Lib.hid h_
              case measure => simp [intOf]; omega
            · have hfin : rowOf (fun i => if i < j then xn (ll (rs.take (k + 1))) i else xn (ll (rs.take k)) i) q = rowOf (xn (ll (rs.take (k + 1)))) q := by
                refine rowOf_congr fun i _ => ?_
                by_cases e2 : i < j
                · rw [if_pos e2]
                · rw [if_neg e2, HXS.out i, List.getD_eq_getElem?_getD, List.getElem?_eq_none (by omega)]
                  simp
              rw [hfin] at HO2
              clear hfin
              go_wp2
              go_roundw
              case rel => exact ⟨k + 1, by omega, by go_num, HO2, HB2⟩
              case measure => simp [intOf]; omega
        · have hfin : rowOf (xn (ll (rs.take k))) q = xorL (ll rs) := by rw [List.take_of_length_le (by omega), xorL, HN.out]; rfl
          rw [hfin] at HO
          have hl : (xorL (ll rs)).length = q := by rw [xorL_length]; exact HN.out
          have HL := Lib.hid hl
          clear hfin hl
          go_wp2
          go_ret
          exact ⟨_, rfl, by rw [HL.out]; exact HO.out, HB.out⟩
end Go.Proofs.Ytkbjndfmbimjiaa
