/- What the proof of TopSealed leans on: Row Sum Far2 Seal To Tp Tq. -/
import Derived.Test.YtffalemndjampaaQan
import Derived.Test.YtffalemndjampaaQar
import Derived.Laws.BitsAllLaws
import Derived.Test.YtffalemndjampaaQas
import Derived.Deep.DeepAppendWide
section
namespace Go.Proofs.Ytffalemndjampaa
open Go.RowKit Go.Proofs.YtffalemndjampaaW.PrintWords
structure Row where
 A : Option Addr
 c : Nat
 l : List Int
instance : Inhabited Row := ⟨⟨none, 0, []⟩⟩
def RdRows (w : World) (A : Option Addr) (rs : List Row) : Prop :=
 rs.length ≤ 9223372036854775807 ∧ ∀ i, i < rs.length → ∃ a, A = some a ∧ w.cell? (a.add i) = some (.slice (rs.getD i default).A (rs.getD i default).l.length (rs.getD i default).c) ∧ (rs.getD i default).l.length ≤ (rs.getD i default).c ∧
  ReadsInt w .u8 (rs.getD i default).A (rs.getD i default).l.length (rs.getD i default).l ∧ Byt (rs.getD i default).l
theorem RdRows.below {w w1 : World} {A : Option Addr} {rs : List Row} (h : RdRows w A rs) (hb : Below w.heap.size w w1) : RdRows w1 A rs :=
 ⟨h.1, fun i hi => by
  obtain ⟨a, e, hc, hl, hr, hB⟩ := h.2 i hi
  exact ⟨a, e, pw_cell_below hb hc, hl, hr.below hb, hB⟩⟩
def ll (rs : List Row) : List (List Int) := rs.map (·.l)
theorem ll_take_succ (rs : List Row) (k : Nat) (h : k < rs.length) : ll (rs.take (k + 1)) = ll (rs.take k) ++ [(rs.getD k default).l] := by
 rw [List.take_succ_eq_append_getElem h, ll, List.map_append, List.getD_eq_getElem?_getD, List.getElem?_eq_getElem h]
 rfl
end Go.Proofs.Ytffalemndjampaa
end
section
set_option linter.unusedVariables false
set_option linter.unusedSimpArgs false
namespace Go.Proofs.Ytffalemndjampaa
open Go.RowKit Go.Proofs.YtffalemndjampaaW.PrintWords
theorem crc_and (x : BitVec 32) : Go.bits .and .u32 (x.toNat : Int) 1 = if x.getLsbD 0 then 1 else 0 := by
 rw [show (1 : Int) = ((1 : Nat) : Int) from rfl, u32_and_nat _ 1 x.isLt (by decide), nat_mask1]
 have h : x.getLsbD 0 = decide (x.toNat % 2 = 1) := by rw [BitVec.getLsbD, Nat.testBit_zero]
 rw [h]
 rcases Nat.mod_two_eq_zero_or_one x.toNat with e | e <;> simp [e]
theorem crc_half (x : BitVec 32) : (x >>> 1).toNat = x.toNat / 2 := by rw [BitVec.toNat_ushiftRight, Nat.shiftRight_eq_div_pow]
theorem crc_odd {x : BitVec 32} (h : x.getLsbD 0 = true) : Go.bits .xor .u32 ((x.toNat : Int) / 2) 2197175160 = ((crcT x).toNat : Int) := by
 have hx := x.isLt
 rw [show ((x.toNat : Int) / 2) = ((x.toNat / 2 : Nat) : Int) from by omega, show (2197175160 : Int) = ((2197175160 : Nat) : Int) from rfl, u32_xor_nat _ _ (by omega) (by decide), crcT, h, if_pos rfl, BitVec.toNat_xor, crc_half]
 rfl
theorem crc_even {x : BitVec 32} (h : x.getLsbD 0 = false) : ((x.toNat : Int) / 2) = ((crcT x).toNat : Int) := by
 rw [crcT, h, if_neg (by simp), BitVec.xor_zero, crc_half]
 omega
theorem crc_in (x : BitVec 32) (c : Int) (h : 0 ≤ c ∧ c < 256) : Go.bits .xor .u32 (x.toNat : Int) c = ((x ^^^ crcV c).toNat : Int) := by
 obtain ⟨n, rfl⟩ := Int.eq_ofNat_of_zero_le h.1
 rw [u32_xor_nat _ _ x.isLt (by omega), BitVec.toNat_xor, crcV, Int.toNat_natCast, BitVec.toNat_ofNat, Nat.mod_eq_of_lt (by omega)]
theorem crc_out (x : BitVec 32) : Go.bits .xor .u32 IntKind.u32.max (x.toNat : Int) = ((~~~ x).toNat : Int) := by
 rw [show IntKind.u32.max = ((4294967295 : Nat) : Int) from rfl, u32_xor_nat _ _ (by decide) x.isLt, Nat.xor_comm]
 congr 1
 have e : (~~~ x) = x ^^^ 4294967295#32 := by
  apply BitVec.eq_of_getLsbD_eq
  intro i hi
  rw [BitVec.getLsbD_not, BitVec.getLsbD_xor, show (4294967295#32).getLsbD i = true from by
   have h : 4294967295#32 = BitVec.allOnes 32 := by decide
   rw [h, BitVec.getLsbD_allOnes]; simpa using hi]
  simp [hi]
 rw [e, BitVec.toNat_xor]
 rfl
theorem crcS_cons (s : BitVec 32) (l : List Int) (k : Nat) (h : k < l.length) : crcS s (l.take (k + 1)) = crcN 8 (crcS s (l.take k) ^^^ crcV (l.getD k 0)) := by
 rw [List.take_succ_eq_append_getElem h, crcS, List.map_append, crcB_append, List.getD_eq_getElem?_getD, List.getElem?_eq_getElem h]
 rfl
theorem crcS_app (s : BitVec 32) (a b : List Int) : crcS s (a ++ b) = crcS (crcS s a) b := by rw [crcS, List.map_append, crcB_append]; rfl
set_option maxHeartbeats 4000000 in
set_option maxRecDepth 100000 in
theorem Sum_any (rs : List Row) (A : Option Addr) (c n : Nat) (w : World) (hn : n = rs.length) (hr : RdRows w A rs) :
  Calls Try.prog 8 #[.slice A n c] w fun e w' => e = .returned (.int .u32 (crcOf (ll rs).flatten)) ∧ Drawn0 w w' := by
 subst hn
 have hlen := hr.1
 have HR := Lib.hid hr
 clear hr
 go_enter Try.func8, Try.ntmps8
 go_wp2
 go_loopw [3, 10] (fun a i wr => ∃ (k : Nat) (S : BitVec 32), k ≤ rs.length ∧ i = .int .i64 (k : Int) ∧ a = .int .u32 (S.toNat : Int) ∧ Hid (S = crcS (~~~ 0#32) (ll (rs.take k)).flatten) ∧ Hid (Drawn0 w wr)) (fun _ i _ => rs.length - (intOf i).toNat)
 case atStart => exact ⟨0, ~~~ 0#32, Nat.zero_le _, rfl, by rfl, Lib.hid rfl, Lib.hid (by exact_mod_cast Drawn0.refl _)⟩
 case round =>
  obtain ⟨k, S, hk, rfl, rfl, HS, HD⟩ := hrel
  by_cases hlt : k < rs.length
  ·obtain ⟨ad, he, hc, hcl, hrd, hby⟩ := (HR.out.below HD.out.below).2 k hlt
   subst he
   have hm := ll_take_succ rs k hlt
   obtain ⟨r0, hr0⟩ : ∃ r0, rs.getD k default = r0 := ⟨_, rfl⟩
   rw [hr0] at hc hm hcl hrd hby
   have HM := Lib.hid hm
   have hrl := hrd.2.1
   have HRD := Lib.hid (show ReadsInt w .u8 r0.A r0.l.length r0.l from by have h_ := (HR.out.2 k hlt).choose_spec.2.2.2.1; rwa [hr0] at h_)
   have HBY := Lib.hid hby
   clear hm hr0 hrd hby
   go_wp2
   go_loopw [3, 16] (fun a i wr2 => ∃ (j : Nat) (T : BitVec 32), j ≤ r0.l.length ∧ i = .int .i64 (j : Int) ∧ a = .int .u32 (T.toNat : Int) ∧ Hid (T = crcS S (r0.l.take j)) ∧ Hid (Drawn0 w wr2)) (fun _ i _ => r0.l.length - (intOf i).toNat)
   case atStart => exact ⟨0, S, Nat.zero_le _, rfl, rfl, Lib.hid rfl, by first | exact HD | exact Lib.hid (HD.out.step _)⟩
   case round =>
    obtain ⟨j, T, hj, rfl, rfl, HT, HD2⟩ := hrel
    clear HD
    by_cases hlt2 : j < r0.l.length
    ·have hr1 := HRD.out.below HD2.out.below
     obtain ⟨ad2, he2, hc2⟩ := hr1.at_ (j : Int) (by omega) (by omega)
     have hbx := HBY.out (r0.l.getD j 0) (by rw [List.getD_eq_getElem?_getD, List.getElem?_eq_getElem hlt2]; simp)
     have hA2 : r0.A = some ad2 := he2
     rw [Int.toNat_natCast, rd_getD] at hc2
     have hnx := crcS_cons S r0.l j hlt2
     rw [← HT.out] at hnx
     obtain ⟨x, hx⟩ : ∃ x, r0.l.getD j 0 = x := ⟨_, rfl⟩
     rw [hx] at hc2 hbx hnx
     have hin := crc_in T x hbx
     obtain ⟨U, hU⟩ : ∃ U, T ^^^ crcV x = U := ⟨_, rfl⟩
     rw [hU] at hin hnx
     have HNX := Lib.hid hnx
     obtain ⟨hbx1, hbx2⟩ := hbx
     clear hr1 he2 hx hU hnx
     go_wp2
     go_loopw [3, 24] (fun a i wr3 => ∃ (t : Nat) (V : BitVec 32), t ≤ 8 ∧ i = .int .i64 (t : Int) ∧ a = .int .u32 (V.toNat : Int) ∧ Hid (V = crcN t U) ∧ Hid (Drawn0 w wr3)) (fun _ i _ => 8 - (intOf i).toNat)
     case atStart => exact ⟨0, U, Nat.zero_le _, rfl, rfl, Lib.hid rfl, by first | exact HD2 | exact Lib.hid (HD2.out.step _)⟩
     case round =>
      obtain ⟨t, V, ht, rfl, rfl, HV, HD3⟩ := hrel
      by_cases hlt3 : t < 8
      ·cases hbit : V.getLsbD 0
       ·have ha := crc_and V
        rw [hbit, if_neg (by simp)] at ha
        have hs := crc_even hbit
        clear hbit
        go_wp2
        go_roundw
        case rel => exact ⟨t + 1, crcT V, by omega, by go_num, by first | rfl | (simp only [hs]; done) | (rw [← hs]; rfl), Lib.hid (by rw [HV.out, ← crcN_T]; rfl), by first | exact HD3 | exact Lib.hid (HD3.out.step _)⟩
        case measure => simp [intOf]; omega
       ·have ha := crc_and V
        rw [hbit, if_pos rfl] at ha
        have hs := crc_odd hbit
        clear hbit
        go_wp2
        go_roundw
        case rel => exact ⟨t + 1, crcT V, by omega, by go_num, by first | rfl | (simp only [hs]; done) | (rw [← hs]; rfl), Lib.hid (by rw [HV.out, ← crcN_T]; rfl), by first | exact HD3 | exact Lib.hid (HD3.out.step _)⟩
        case measure => simp [intOf]; omega
      ·obtain rfl : t = 8 := by omega
       go_wp2
       go_roundw
       case rel => exact ⟨j + 1, V, by omega, by go_num, rfl, Lib.hid (by rw [HNX.out]; exact HV.out), by first | exact HD3 | exact Lib.hid (HD3.out.step _)⟩
       case measure => simp [intOf]; omega
    ·have hfin : r0.l.take j = r0.l := List.take_of_length_le (by omega)
     rw [hfin] at HT
     clear hfin
     go_wp2
     go_roundw
     case rel => exact ⟨k + 1, T, by omega, by go_num, rfl, Lib.hid (by rw [HT.out, HM.out, HS.out, List.flatten_append, crcS_app]; simp), by first | exact HD2 | exact Lib.hid (HD2.out.step _)⟩
     case measure => simp [intOf]; omega
  ·have hfin : rs.take k = rs := List.take_of_length_le (by omega)
   rw [hfin] at HS
   have ho : Go.bits .xor .u32 IntKind.u32.max (S.toNat : Int) = crcOf (ll rs).flatten := (crc_out S).trans (by rw [HS.out]; rfl)
   clear hfin
   go_wp2
   go_ret
   exact ⟨rfl, by first | exact HD.out | exact HD.out.step _⟩
end Go.Proofs.Ytffalemndjampaa
end
section
set_option linter.unusedVariables false
set_option linter.unusedSimpArgs false
namespace Go.Proofs.Ytffalemndjampaa
open Go.RowKit Go.Proofs.YtffalemndjampaaW.PrintWords
def FarO (v : Value) (k : Nat) : Prop := v.ownBlock = none ∨ ∃ b, v.ownBlock = some b ∧ k ≤ b
theorem FarO.nil (k : Nat) : FarO (.slice none 0 0) k := .inl rfl
theorem FarO.any (v : Value) : FarO v 0 := by
 rcases h : v.ownBlock with _ | b
 ·exact .inl h
 ·exact .inr ⟨b, h, Nat.zero_le _⟩
theorem WrS.next {w w' : World} {base p : Nat} {v : Value} {l : List Int} (h : WrS w base p v l w') (k : Nat) (hk : k ≤ w.heap.size) (hf : FarO v k) :
  ∃ v', WrV w' base p v' l ∧ FarO v' k ∧ Below base w w' ∧ (∀ {q A n xs}, ReadsInt w q A n xs → (0 < n → ∀ a, A = some a → a.block ≠ p ∧ a.block < k) → ReadsInt w' q A n xs) ∧ k ≤ w'.heap.size := by
 obtain ⟨v', h1, h2, h3, h4⟩ := h
 refine ⟨v', h1, ?_, h4, ?_, Nat.le_trans hk h2.1⟩
 ·rcases h3 with h3 | ⟨b, h3, hb⟩
  ·rw [FarO, h3]; exact hf
  ·exact .inr ⟨b, h3, Nat.le_trans hk hb⟩
 ·intro q A n xs hr hA
  refine reads_keep hr h2 fun hn a ha => ⟨(hA hn a ha).1, fun e => ?_⟩
  have hlt := (hA hn a ha).2
  rcases hf with hf | ⟨b, hf, hb⟩
  ·rw [hf] at e; cases e
  ·rw [hf] at e; injection e with e; omega
theorem New.place {w w' : World} {A : Option Addr} {n c : Nat} {xs : List Int} (h : New w w' (.slice A n c) xs) : ∀ a, A = some a → w.heap.size ≤ a.block ∧ a.block < w'.heap.size := by
 intro a ha
 subst ha
 exact h.1.lt a.block rfl
theorem reads_lt {w : World} {k : IntKind} {A : Option Addr} {n : Nat} {xs : List Int} (h : ReadsInt w k A n xs) (hn : 0 < n) : ∀ a, A = some a → a.block < w.heap.size := by
 intro a ha
 obtain ⟨ad, e2, hc2⟩ := h.2.2 hn
 obtain rfl := Option.some.inj (ha.symm.trans e2)
 have h_ := World.block_lt_of_cell? w _ (hc2 0 hn)
 have hb0 : (a.add 0).block = a.block := by unfold Addr.add; split <;> rfl
 rwa [hb0] at h_
theorem rows3 {w : World} {b : Nat} {t : TypeId} {A1 A2 A3 : Option Addr} {n1 n2 n3 c1 c2 c3 : Nat} {l1 l2 l3 : List Int} (h : w.heap[b]? = some (.cells #[.slice A1 n1 c1, .slice A2 n2 c2, .slice A3 n3 c3] t (0, 0)))
  (r1 : ReadsInt w .u8 A1 n1 l1) (r2 : ReadsInt w .u8 A2 n2 l2) (r3 : ReadsInt w .u8 A3 n3 l3) (k1 : n1 ≤ c1) (k2 : n2 ≤ c2) (k3 : n3 ≤ c3) (b1 : Byt l1) (b2 : Byt l2) (b3 : Byt l3) :
  RdRows w (some ⟨b, 0, none⟩) [⟨A1, c1, l1⟩, ⟨A2, c2, l2⟩, ⟨A3, c3, l3⟩] := by
 have e1 := r1.1
 have e2 := r2.1
 have e3 := r3.1
 subst e1 e2 e3
 refine ⟨by simp, fun i hi => ⟨_, rfl, ?_⟩⟩
 have hi3 : i = 0 ∨ i = 1 ∨ i = 2 := by simp at hi; omega
 rcases hi3 with rfl | rfl | rfl
 ·exact ⟨(blk_cell h 0).trans rfl, k1, r1, b1⟩
 ·exact ⟨(blk_cell h 1).trans rfl, k2, r2, b2⟩
 ·exact ⟨(blk_cell h 2).trans rfl, k3, r3, b3⟩
end Go.Proofs.Ytffalemndjampaa
end
section
set_option linter.unusedVariables false
set_option linter.unusedSimpArgs false
namespace Go.Proofs.Ytffalemndjampaa
open Go.RowKit Go.Proofs.YtffalemndjampaaW.PrintWords Go.Proofs.YtffalemndjampaaW.PrintLast
theorem New.read {w w' : World} {A : Option Addr} {n c : Nat} {xs : List Int} (h : New w w' (.slice A n c) xs) (hn : xs.length = n) : ReadsInt w' .u8 A n xs ∧ n ≤ c := by
 subst hn
 obtain ⟨A', c', e, hc⟩ := h.slice
 injection e with e1 e2 e3
 exact ⟨h.reads, e3 ▸ hc⟩
theorem New.shape {w w' : World} {v : Value} {xs : List Int} (h : New w w' v xs) (n : Nat) (hn : xs.length = n) : ∃ A c, v = .slice A n c ∧ n ≤ c := by
 subst hn
 exact h.slice
set_option maxHeartbeats 8000000 in
set_option maxRecDepth 100000 in
theorem Seal_any (h : Hd) (A B : Option Addr) (c d n m : Nat) (xs ys : List Int) (w : World) (ho : h.ok) (hr : ReadsInt w .u8 A n xs) (hc : n ≤ c) (bx : Byt xs) (hl : n ≤ 1099511627776) (hs : ReadsInt w .u8 B m ys) (hd : m ≤ d) (by_ : Byt ys) :
  Calls Try.prog 24 #[.agg (hdC h), .slice A n c, .slice B m d] w fun e w' => ∃ v, e = .returned v ∧ New w w' v (sealL h xs ys) := by
 have HR := Lib.hid hr
 have HS := Lib.hid hs
 have HO := Lib.hid ho
 have hm := hs.2.1
 have HX := Lib.hid (And.intro bx by_)
 have HM := Lib.hid hs.1
 clear hr hs ho bx by_
 go_enter Try.func24, Try.ntmps24
 go_wp2_with fail
 have S0_ : WrV ((w.alloc (.cells (hdC h) 65)).alloc (.cells #[.slice none 0 0] 29)) w.heap.size (w.heap.size + 1) (.slice none 0 0) [] := WrV.first _ _ (by have h_ := heap_alloc_new (w.alloc (.cells (hdC h) 65)) (.cells #[.slice none 0 0] 29); simpa using h_) _
 have B0_ : Below w.heap.size w ((w.alloc (.cells (hdC h) 65)).alloc (.cells #[.slice none 0 0] 29)) := bl_alloc (bl_alloc (Below.refl _ _) _) _
 have Z0_ : ((w.alloc (.cells (hdC h) 65)).alloc (.cells #[.slice none 0 0] 29)).heap.size = w.heap.size + 2 := by simp
 refine (fields_any h _ HO.out).mono ?_
 rintro e w1 ⟨v1, rfl, hn1⟩
 obtain ⟨A1, c1, rfl, hc1⟩ := hn1.shape 24 (fieldsL_length h)
 have G1 := Lib.hid (show WrV w1 w.heap.size (w.heap.size + 1) (.slice none 0 0) [] from S0_.below hn1.bel)
 have B1 := Lib.hid (bl_seq B0_ hn1.bel)
 have R1 := Lib.hid (hn1.read (fieldsL_length h)).1
 have P1 := Lib.hid (show ∀ a, A1 = some a → a.block ≠ w.heap.size + 1 ∧ a.block < w1.heap.size from fun a ha => by have h_ := hn1.place a ha; rw [Z0_] at h_; omega)
 have Y1 := Lib.hid (show w.heap.size + 2 ≤ w1.heap.size from by have h_ := hn1.bel.size; rw [Z0_] at h_; exact h_)
 clear S0_ B0_ Z0_ hn1
 by_cases hlt : (32 : Int) < (m : Int)
 ·have hs32 : ReadsInt w .u8 B 32 (ys.take 32) := HS.out.take_ 32 (by omega)
  have HZ := Lib.hid hs32
  have HQ : Hid (ys.take 32 = ys.take 32) := Lib.hid rfl
  have hq32 : (ys.take 32).length = 32 := hs32.1
  clear hs32
  go_wp2_with fail
  have W2_ : WrV (w1.alloc (.cells #[.slice none 0 0] 29)) w1.heap.size w1.heap.size (.slice none 0 0) [] := WrV.first _ _ (heap_alloc_new _ _) _
  have T0_ : Below w1.heap.size w1 (w1.alloc (.cells #[.slice none 0 0] 29)) := bl_alloc (Below.refl _ _) _
  refine (Raw_any w1.heap.size w1.heap.size (.slice none 0 0) [] (ys.take 32) B 32 d _ W2_ (Nat.le_refl _) (by simp) (HZ.out.below (bl_seq B1.out T0_)) (by simp <;> omega)).mono ?_
  rintro e w2 ⟨rfl, hw2⟩
  obtain ⟨v2, g2, f2, b2, r2, z2⟩ := hw2.next w1.heap.size (by simp) (FarO.nil _)
  have G2 := Lib.hid (And.intro g2 (T0_.trans b2))
  clear W2_ T0_ hw2 g2 f2 b2 r2
  go_wp2_with fail
  refine (Pad_any w1.heap.size w1.heap.size v2 _ 32 _ G2.out.1 (Nat.le_refl _) z2 (by decide) (by simp <;> omega)).mono ?_
  rintro e w3 ⟨rfl, hw3⟩
  obtain ⟨v3, g3, f3, b3, r3, z3⟩ := hw3.next 0 (Nat.zero_le _) (FarO.any _)
  have hT : ([] ++ ys.take 32) ++ List.replicate ((32 : Int).toNat - ([] ++ ys.take 32).length) 0 = tailL ys := by rw [tailL, padL]; simp
  rw [hT] at g3
  have G3 := Lib.hid (And.intro g3 (G2.out.2.trans b3))
  clear hT hw3 g3 f3 b3 r3
  go_wp2_with fail
  refine (Bytes_any _ _ v3 _ w3 G3.out.1 (by rw [tailL_length]; decide)).mono ?_
  rintro e w4 ⟨v4, rfl, h4, h5⟩
  have hn4 : New w3 w4 v4 (tailL ys) := ⟨h4, h5⟩
  obtain ⟨A4, c4, rfl, hc4⟩ := hn4.shape 32 (tailL_length ys)
  have B4_ : Below w1.heap.size w1 w4 := bl_seq G3.out.2 h5
  have G4 := Lib.hid (G1.out.below B4_)
  have B4 := Lib.hid (bl_seq B1.out B4_)
  have R4 := Lib.hid (hn4.read (tailL_length ys)).1
  have P4 := Lib.hid (show ∀ a, A4 = some a → a.block ≠ w.heap.size + 1 ∧ a.block < w4.heap.size from fun a ha => by have h_ := hn4.place a ha; have h2_ := G3.out.2.size; have h3_ := Y1.out; omega)
  have Q4 := Lib.hid (R1.out.below B4_)
  have P1b := Lib.hid (show ∀ a, A1 = some a → a.block ≠ w.heap.size + 1 ∧ a.block < w4.heap.size from fun a ha => by have h_ := P1.out a ha; have h2_ := B4_.size; omega)
  clear h4 h5 hn4 B4_ G2 G3 R1 P1 G1
  go_wp2_with fail
  refine (Raw_any w.heap.size (w.heap.size + 1) (.slice none 0 0) [] (fieldsL h) A1 24 c1 w4 G4.out (by omega) B4.out.size Q4.out (by simp)).mono ?_
  rintro e w5 ⟨rfl, hw5⟩
  obtain ⟨v5, g5, f5, b5, r5, z5⟩ := hw5.next w4.heap.size (Nat.le_refl _) (FarO.nil _)
  have G5 := Lib.hid (And.intro g5 (And.intro f5 z5))
  have B5 := Lib.hid (B4.out.trans b5)
  have R5 := Lib.hid (And.intro (r5 Q4.out (fun _ => P1b.out)) (r5 R4.out (fun _ => P4.out)))
  clear hw5 g5 f5 b5 r5 z5 R4 Q4 G4 B4
  go_wp2_with fail
  have hs_ := Sum_any [⟨A1, c1, fieldsL h⟩, ⟨A, c, xs⟩, ⟨A4, c4, tailL ys⟩] (some ⟨w5.heap.size, 0, none⟩) 3 3 (w5.alloc (.cells #[.slice A1 24 c1, .slice A n c, .slice A4 32 c4] 27)) rfl
   (rows3 (heap_alloc_new _ _) (R5.out.1.below (bl_alloc (Below.refl _ _) _)) ((HR.out.below B5.out).below (bl_alloc (Below.refl _ _) _)) (R5.out.2.below (bl_alloc (Below.refl _ _) _)) hc1 hc hc4 (fieldsL_byt h) HX.out.1 (tailL_byt HX.out.2))
  have hcr : crcOf (ll [⟨A1, c1, fieldsL h⟩, ⟨A, c, xs⟩, ⟨A4, c4, tailL ys⟩]).flatten = sumL h xs ys := by simp [ll, sumL]
  rw [hcr] at hs_
  refine hs_.mono ?_
  rintro e w6 ⟨rfl, hd6⟩
  have D6_ : Below w5.heap.size w5 w6 := bl_seq (bl_alloc (Below.refl _ _) _) hd6.below
  have G6 := Lib.hid (And.intro (G5.out.1.below D6_) (And.intro G5.out.2.1 (Nat.le_trans G5.out.2.2 D6_.size)))
  have B6 := Lib.hid (bl_seq B5.out D6_)
  have R6 := Lib.hid (R5.out.2.below D6_)
  have C6 := Lib.hid (show 0 ≤ sumL h xs ys ∧ sumL h xs ys < 4294967296 from crcOf_bound _)
  clear hs_ hcr hd6 D6_ G5 B5 R5
  go_wp2_with fail
  refine (U32_box w.heap.size (w.heap.size + 1) v5 _ [sumL h xs ys] 1 w6.heap.size w6 _ rfl rfl G6.out.1 (by omega) B6.out.size rfl (fun x hx => by rw [List.mem_singleton] at hx; subst hx; exact C6.out) (by simp [fieldsL_length])).mono ?_
  rintro e w7 ⟨rfl, hw7⟩
  obtain ⟨v7, g7, f7, b7, r7, z7⟩ := hw7.next w4.heap.size G6.out.2.2 G6.out.2.1
  have G7 := Lib.hid (And.intro g7 (And.intro f7 z7))
  have B7 := Lib.hid (B6.out.trans b7)
  have R7 := Lib.hid (r7 R6.out (fun _ => P4.out))
  clear hw7 g7 f7 b7 r7 z7 G6 B6 R6
  go_wp2_with fail
  refine (Pad_any w.heap.size (w.heap.size + 1) v7 _ 32 w7 G7.out.1 (by omega) B7.out.size (by decide) (by simp [fieldsL_length, les_length])).mono ?_
  rintro e w8 ⟨rfl, hw8⟩
  obtain ⟨v8, g8, f8, b8, r8, z8⟩ := hw8.next w4.heap.size G7.out.2.2 G7.out.2.1
  have G8 := Lib.hid g8
  have B8 := Lib.hid (B7.out.trans b8)
  have R8 := Lib.hid (r8 R7.out (fun _ => P4.out))
  clear hw8 g8 f8 b8 r8 z8 G7 B7 R7
  go_wp2_with fail
  refine (Raw_any w.heap.size (w.heap.size + 1) v8 _ (tailL ys) A4 32 c4 w8 G8.out (by omega) B8.out.size R8.out (by simp [fieldsL_length, les_length])).mono ?_
  rintro e w9 ⟨rfl, hw9⟩
  obtain ⟨v9, g9, f9, b9, r9, z9⟩ := hw9.next 0 (Nat.zero_le _) (FarO.any _)
  have hL : ([] ++ fieldsL h ++ les 4 [sumL h xs ys] ++ List.replicate ((32 : Int).toNat - ([] ++ fieldsL h ++ les 4 [sumL h xs ys]).length) 0) ++ tailL ys = sealL h xs ys := by
   simp [sealL, les, fieldsL_length, le_length]
   rfl
  rw [hL] at g9
  have G9 := Lib.hid g9
  have B9 := Lib.hid (B8.out.trans b9)
  clear hL hw9 g9 f9 b9 r9 z9 G8 B8 R8
  go_wp2_with fail
  refine (Bytes_any _ _ v9 _ w9 G9.out (by rw [sealL_length]; decide)).mono ?_
  rintro e w10 ⟨v10, rfl, h10, h11⟩
  have N10 := Lib.hid (And.intro (own_base h10 B9.out.size) (bl_seq B9.out h11))
  clear h10 h11 G9 B9
  go_wp2_with fail
  go_ret
  exact ⟨_, rfl, N10.out⟩
 ·have hys : ys.take 32 = ys := List.take_of_length_le (by have h_ := HM.out; omega)
  have HZ := HS
  have HQ := Lib.hid hys
  clear hys
  have hq32 : ys.length = m := HM.out
  go_wp2_with fail
  have W2_ : WrV (w1.alloc (.cells #[.slice none 0 0] 29)) w1.heap.size w1.heap.size (.slice none 0 0) [] := WrV.first _ _ (heap_alloc_new _ _) _
  have T0_ : Below w1.heap.size w1 (w1.alloc (.cells #[.slice none 0 0] 29)) := bl_alloc (Below.refl _ _) _
  refine (Raw_any w1.heap.size w1.heap.size (.slice none 0 0) [] (ys) B m d _ W2_ (Nat.le_refl _) (by simp) (HZ.out.below (bl_seq B1.out T0_)) (by simp <;> omega)).mono ?_
  rintro e w2 ⟨rfl, hw2⟩
  obtain ⟨v2, g2, f2, b2, r2, z2⟩ := hw2.next w1.heap.size (by simp) (FarO.nil _)
  have G2 := Lib.hid (And.intro g2 (T0_.trans b2))
  clear W2_ T0_ hw2 g2 f2 b2 r2
  go_wp2_with fail
  refine (Pad_any w1.heap.size w1.heap.size v2 _ 32 _ G2.out.1 (Nat.le_refl _) z2 (by decide) (by simp <;> omega)).mono ?_
  rintro e w3 ⟨rfl, hw3⟩
  obtain ⟨v3, g3, f3, b3, r3, z3⟩ := hw3.next 0 (Nat.zero_le _) (FarO.any _)
  have hT : ([] ++ ys) ++ List.replicate ((32 : Int).toNat - ([] ++ ys).length) 0 = tailL ys := by rw [tailL, padL, HQ.out]; simp
  rw [hT] at g3
  have G3 := Lib.hid (And.intro g3 (G2.out.2.trans b3))
  clear hT hw3 g3 f3 b3 r3
  go_wp2_with fail
  refine (Bytes_any _ _ v3 _ w3 G3.out.1 (by rw [tailL_length]; decide)).mono ?_
  rintro e w4 ⟨v4, rfl, h4, h5⟩
  have hn4 : New w3 w4 v4 (tailL ys) := ⟨h4, h5⟩
  obtain ⟨A4, c4, rfl, hc4⟩ := hn4.shape 32 (tailL_length ys)
  have B4_ : Below w1.heap.size w1 w4 := bl_seq G3.out.2 h5
  have G4 := Lib.hid (G1.out.below B4_)
  have B4 := Lib.hid (bl_seq B1.out B4_)
  have R4 := Lib.hid (hn4.read (tailL_length ys)).1
  have P4 := Lib.hid (show ∀ a, A4 = some a → a.block ≠ w.heap.size + 1 ∧ a.block < w4.heap.size from fun a ha => by have h_ := hn4.place a ha; have h2_ := G3.out.2.size; have h3_ := Y1.out; omega)
  have Q4 := Lib.hid (R1.out.below B4_)
  have P1b := Lib.hid (show ∀ a, A1 = some a → a.block ≠ w.heap.size + 1 ∧ a.block < w4.heap.size from fun a ha => by have h_ := P1.out a ha; have h2_ := B4_.size; omega)
  clear h4 h5 hn4 B4_ G2 G3 R1 P1 G1
  go_wp2_with fail
  refine (Raw_any w.heap.size (w.heap.size + 1) (.slice none 0 0) [] (fieldsL h) A1 24 c1 w4 G4.out (by omega) B4.out.size Q4.out (by simp)).mono ?_
  rintro e w5 ⟨rfl, hw5⟩
  obtain ⟨v5, g5, f5, b5, r5, z5⟩ := hw5.next w4.heap.size (Nat.le_refl _) (FarO.nil _)
  have G5 := Lib.hid (And.intro g5 (And.intro f5 z5))
  have B5 := Lib.hid (B4.out.trans b5)
  have R5 := Lib.hid (And.intro (r5 Q4.out (fun _ => P1b.out)) (r5 R4.out (fun _ => P4.out)))
  clear hw5 g5 f5 b5 r5 z5 R4 Q4 G4 B4
  go_wp2_with fail
  have hs_ := Sum_any [⟨A1, c1, fieldsL h⟩, ⟨A, c, xs⟩, ⟨A4, c4, tailL ys⟩] (some ⟨w5.heap.size, 0, none⟩) 3 3 (w5.alloc (.cells #[.slice A1 24 c1, .slice A n c, .slice A4 32 c4] 27)) rfl
   (rows3 (heap_alloc_new _ _) (R5.out.1.below (bl_alloc (Below.refl _ _) _)) ((HR.out.below B5.out).below (bl_alloc (Below.refl _ _) _)) (R5.out.2.below (bl_alloc (Below.refl _ _) _)) hc1 hc hc4 (fieldsL_byt h) HX.out.1 (tailL_byt HX.out.2))
  have hcr : crcOf (ll [⟨A1, c1, fieldsL h⟩, ⟨A, c, xs⟩, ⟨A4, c4, tailL ys⟩]).flatten = sumL h xs ys := by simp [ll, sumL]
  rw [hcr] at hs_
  refine hs_.mono ?_
  rintro e w6 ⟨rfl, hd6⟩
  have D6_ : Below w5.heap.size w5 w6 := bl_seq (bl_alloc (Below.refl _ _) _) hd6.below
  have G6 := Lib.hid (And.intro (G5.out.1.below D6_) (And.intro G5.out.2.1 (Nat.le_trans G5.out.2.2 D6_.size)))
  have B6 := Lib.hid (bl_seq B5.out D6_)
  have R6 := Lib.hid (R5.out.2.below D6_)
  have C6 := Lib.hid (show 0 ≤ sumL h xs ys ∧ sumL h xs ys < 4294967296 from crcOf_bound _)
  clear hs_ hcr hd6 D6_ G5 B5 R5
  go_wp2_with fail
  refine (U32_box w.heap.size (w.heap.size + 1) v5 _ [sumL h xs ys] 1 w6.heap.size w6 _ rfl rfl G6.out.1 (by omega) B6.out.size rfl (fun x hx => by rw [List.mem_singleton] at hx; subst hx; exact C6.out) (by simp [fieldsL_length])).mono ?_
  rintro e w7 ⟨rfl, hw7⟩
  obtain ⟨v7, g7, f7, b7, r7, z7⟩ := hw7.next w4.heap.size G6.out.2.2 G6.out.2.1
  have G7 := Lib.hid (And.intro g7 (And.intro f7 z7))
  have B7 := Lib.hid (B6.out.trans b7)
  have R7 := Lib.hid (r7 R6.out (fun _ => P4.out))
  clear hw7 g7 f7 b7 r7 z7 G6 B6 R6
  go_wp2_with fail
  refine (Pad_any w.heap.size (w.heap.size + 1) v7 _ 32 w7 G7.out.1 (by omega) B7.out.size (by decide) (by simp [fieldsL_length, les_length])).mono ?_
  rintro e w8 ⟨rfl, hw8⟩
  obtain ⟨v8, g8, f8, b8, r8, z8⟩ := hw8.next w4.heap.size G7.out.2.2 G7.out.2.1
  have G8 := Lib.hid g8
  have B8 := Lib.hid (B7.out.trans b8)
  have R8 := Lib.hid (r8 R7.out (fun _ => P4.out))
  clear hw8 g8 f8 b8 r8 z8 G7 B7 R7
  go_wp2_with fail
  refine (Raw_any w.heap.size (w.heap.size + 1) v8 _ (tailL ys) A4 32 c4 w8 G8.out (by omega) B8.out.size R8.out (by simp [fieldsL_length, les_length])).mono ?_
  rintro e w9 ⟨rfl, hw9⟩
  obtain ⟨v9, g9, f9, b9, r9, z9⟩ := hw9.next 0 (Nat.zero_le _) (FarO.any _)
  have hL : ([] ++ fieldsL h ++ les 4 [sumL h xs ys] ++ List.replicate ((32 : Int).toNat - ([] ++ fieldsL h ++ les 4 [sumL h xs ys]).length) 0) ++ tailL ys = sealL h xs ys := by
   simp [sealL, les, fieldsL_length, le_length]
   rfl
  rw [hL] at g9
  have G9 := Lib.hid g9
  have B9 := Lib.hid (B8.out.trans b9)
  clear hL hw9 g9 f9 b9 r9 z9 G8 B8 R8
  go_wp2_with fail
  refine (Bytes_any _ _ v9 _ w9 G9.out (by rw [sealL_length]; decide)).mono ?_
  rintro e w10 ⟨v10, rfl, h10, h11⟩
  have N10 := Lib.hid (And.intro (own_base h10 B9.out.size) (bl_seq B9.out h11))
  clear h10 h11 G9 B9
  go_wp2_with fail
  go_ret
  exact ⟨_, rfl, N10.out⟩
end Go.Proofs.Ytffalemndjampaa
end
section
set_option linter.unusedVariables false
set_option linter.unusedSimpArgs false
namespace Go.Proofs.Ytffalemndjampaa
open Go.RowKit Go.Proofs.YtffalemndjampaaW.PrintWords Go.Proofs.YtffalemndjampaaW.PrintLast
def tbD (T : Tb) : List Int := encL T ++ List.replicate (256 - (encL T).length) 0
def tbH (T : Tb) : Hd := ⟨1, T.seq, 0, 0, 1, 0, 0⟩
def tbO (T : Tb) : List Int := sealL (tbH T) (tbD T) []
def PagesQ (w : World) (T : Tb) (e : Ending) (w' : World) : Prop :=
 ∃ G c D cd O co, e = .returned (.tuple #[.slice (some ⟨G, 0, none⟩) 1 c, .int .i64 0]) ∧ Below w.heap.size w w' ∧ w'.cell? ⟨G, 0, none⟩ = some (.slice (some D) 256 cd) ∧ w'.cell? ⟨G, 1, none⟩ = some (.slice (some O) 64 co) ∧
  ReadsInt w' .u8 (some D) 256 (tbD T) ∧ ReadsInt w' .u8 (some O) 64 (tbO T) ∧ w.heap.size ≤ G ∧ w.heap.size ≤ D.block ∧ w.heap.size ≤ O.block ∧ 256 ≤ cd ∧ 64 ≤ co
theorem encL_byt {T : Tb} (h : TbOk T) (hn : T.spare.length ≤ 3) : Byt (encL T) := by
 have hr : ∀ x ∈ T.all, 0 ≤ x ∧ x < 256 := fun x hx => by have := h.rng x hx; omega
 have hs := Int.natCast_nonneg T.spare.length
 intro x hx
 simp only [encL, List.mem_append, List.mem_cons, List.not_mem_nil, or_false] at hx
 simp only [Tb.all, List.mem_append, List.mem_cons, List.not_mem_nil, or_false] at hr
 rcases hx with h1 | (rfl | h2) | (rfl | h3) | rfl | rfl
 ·exact le_byt _ _ x h1
 ·decide
 ·exact hr x (.inl h2)
 ·omega
 ·exact hr x (.inr (.inl h3))
 ·exact hr _ (.inr (.inr (.inl rfl)))
 ·exact hr _ (.inr (.inr (.inr rfl)))
theorem tbD_byt {w : World} {N : Nat → Prop} {C : Array Value} {T : Tb} (h : TbOk T) (ht : TbR w N C T) : Byt (tbD T) := by
 obtain ⟨_, _, _, _, _, _, _, hn, _⟩ := ht
 exact byt_append (encL_byt h hn) (byt_rep _)
theorem tbH_ok {T : Tb} (h : TbOk T) : (tbH T).ok := by
 have h0 := h.seq0
 have h1 := h.seq1
 constructor <;> simp only [tbH] <;> first | decide | assumption
theorem app_two (w : World) (a b : Value) (Z : Array Value) (t t2 : TypeId) : ((w.alloc (.cells #[a, b] t)).alloc (.cells (#[a, b] ++ Z) t2)).drew.cell? ⟨w.heap.size + 1, 0, none⟩ = some a ∧ ((w.alloc (.cells #[a, b] t)).alloc (.cells (#[a, b] ++ Z) t2)).drew.cell? ⟨w.heap.size + 1, 1, none⟩ = some b ∧ Below w.heap.size w ((w.alloc (.cells #[a, b] t)).alloc (.cells (#[a, b] ++ Z) t2)).drew := by
 have h := heap_alloc_new (w.alloc (.cells #[a, b] t)) (.cells (#[a, b] ++ Z) t2)
 simp only [World.size_alloc] at h
 have h2 : ((w.alloc (.cells #[a, b] t)).alloc (.cells (#[a, b] ++ Z) t2)).drew.heap[w.heap.size + 1]? = some (.cells (#[a, b] ++ Z) t2 (0, 0)) := h
 exact ⟨(blk_cell h2 0).trans (show (#[a, b] ++ Z)[0]? = some a by rw [Array.getElem?_append_left (by simp)]; rfl), (blk_cell h2 1).trans (show (#[a, b] ++ Z)[1]? = some b by rw [Array.getElem?_append_left (by simp)]; rfl), bl_drew (bl_alloc (bl_alloc (Below.refl _ _) _) _)⟩
theorem own_some_ {w : World} {base n : Nat} {e : TypeId} {v : Value} {l : List Int} (h : w.ownsRow base e 1 v l.length (nums .u8 l)) (hl : l.length = n) (hn : 0 < n) : ∃ x y, v = .slice (some ⟨x, 0, none⟩) n y ∧ base ≤ x ∧ n ≤ y ∧ ReadsInt w .u8 (some ⟨x, 0, none⟩) n l := by
 subst hl
 obtain ⟨h1, h2⟩ := h
 rcases h2 with ⟨_, h0⟩ | ⟨g, cap, cur, e1, hg, r1, r2, r3⟩
 ·omega
 ·subst e1
  exact ⟨g, cap, rfl, hg, r2, own_reads' (base := base) (e := e) ⟨h1, .inr ⟨g, cap, cur, rfl, hg, r1, r2, r3⟩⟩⟩
def ToR.T5 : Bool × List (List Nat × List Nat) := (true, [([], []), ([0], [0]), ([], []), ([1, 2], [1, 2]), ([], []), ([], []), ([5], [5]), ([4, 6], [4, 6]), ([3, 7, 3], [3, 7]), ([8, 8], [8]), ([9, 9, 0, 1, 2, 3, 4, 5, 6, 7, 8, 9], [2, 9])])
def ToR.B5 : List Nat := [0, 1, 0, 7, 0, 0, 32, 112, 255, 511, 1023]
theorem ToR.tab5 : rtab .any (opsOf Try.f60 5) = ToR.T5 := by kernel_rfl
theorem ToR.bits5 : waitsOk ToR.T5.2 ToR.B5 = true := by kernel_rfl
set_option maxHeartbeats 8000000 in
set_option maxRecDepth 100000 in
theorem pages_any (C : Array Value) (T : Tb) (N : Nat → Prop) (w : World) (h : TbR w N C T) (hT : TbOk T) : Calls Try.prog 60 #[.agg C, .agg #[.int .i64 3, .int .i64 16, .int .i64 6, .int .i64 256]] w (PagesQ w T) := by
 have HT := Lib.hid h
 have HOK := Lib.hid hT
 obtain ⟨PA, pc, SA, sc, rfl, hpc, hsc, hn3, hrp, hrs, -, -⟩ := h
 have hlp := hrp.1
 have hle : (encL T).length = 19 + T.spare.length := by simp only [encL, List.length_append, List.length_cons, le_length, hlp]; simp; omega
 have HLE := Lib.hid hle
 have HN3 := Lib.hid hn3
 clear hrp hrs hT hle hlp hn3 hpc hsc
 obtain ⟨seq, hsq⟩ : ∃ seq, T.seq = seq := ⟨_, rfl⟩
 obtain ⟨sn, hsn⟩ : ∃ sn, T.spare.length = sn := ⟨_, rfl⟩
 obtain ⟨t0, ht0⟩ : ∃ t0, T.t0 = t0 := ⟨_, rfl⟩
 obtain ⟨t1, ht1⟩ : ∃ t1, T.t1 = t1 := ⟨_, rfl⟩
 have hC : tbC PA pc SA sc T = #[.int .u32 seq, .slice (some PA) 11 pc, .slice SA sn sc, .int .i64 t0, .int .i64 t1] := by simp only [tbC]; rw [hsn, hsq, ht0, ht1]
 rw [hC] at HT ⊢
 have HSN := Lib.hid (And.intro hsn hsq)
 clear hC hsq hsn ht0 ht1
 have ha := al2_ w #[.int .u32 seq, .slice (some PA) 11 pc, .slice SA sn sc, .int .i64 t0, .int .i64 t1] #[.int .i64 3, .int .i64 16, .int .i64 6, .int .i64 256] 108 50
 go_enter Try.func60, Try.ntmps60
 go_wp2_with fail
 obtain ⟨w0, hw0⟩ : ∃ w0, (w.alloc (.cells #[.int .u32 seq, .slice (some PA) 11 pc, .slice SA sn sc, .int .i64 t0, .int .i64 t1] 108)).alloc (.cells #[.int .i64 3, .int .i64 16, .int .i64 6, .int .i64 256] 50) = w0 := ⟨_, rfl⟩
 rw [hw0] at ha ⊢
 obtain ⟨g2, hg2⟩ : ∃ g2, w.heap.size = g2 := ⟨_, rfl⟩
 obtain ⟨g3, hg3⟩ : ∃ g3, w.heap.size + 1 = g3 := ⟨_, rfl⟩
 rw [hg3] at ha
 rw [hg2] at ha
 try rw [hg3]
 try rw [hg2]
 have H0 := Lib.hid (And.intro (And.intro ha.1 ha.2.1) (show Below w.heap.size w w0 by rw [hg2]; exact ha.2.2))
 clear hw0 ha hg2 hg3
 refine (enc_any _ T N w0 (HT.out.below H0.out.2) HOK.out).mono ?_
 rintro e w1 ⟨vb, rfl, hb1⟩
 obtain ⟨Ab, cb, rfl, hcb⟩ := New.shape hb1 (19 + sn) (by rw [HLE.out, HSN.out.1])
 have H1 := Lib.hid (And.intro (And.intro (blk_below H0.out.1.1 hb1.2) (blk_below H0.out.1.2 hb1.2)) (bl_seq H0.out.2 hb1.2))
 have RB := Lib.hid (show ReadsInt w1 .u8 Ab (19 + sn) (encL T) from by have h_ := hb1.reads; rw [HLE.out, HSN.out.1] at h_; exact h_)
 have hx3 : w1.cell? ⟨g3, 3, none⟩ = some (.int .i64 256) := (blk_cell (blk_below H0.out.1.2 hb1.2) 3).trans rfl
 have hq1 : wrap64 ((wrap64 (wrap64 (19 + (sn : Int) + 256) - 1)).tdiv 256) = 1 := by
  have h1 := HN3.out
  rw [HSN.out.1] at h1
  rw [show wrap64 (19 + (sn : Int) + 256) = 19 + (sn : Int) + 256 by unfold wrap64; omega, show wrap64 (19 + (sn : Int) + 256 - 1) = 19 + (sn : Int) + 256 - 1 by unfold wrap64; omega, Int.tdiv_eq_ediv_of_nonneg (by omega), show (19 + (sn : Int) + 256 - 1) / 256 = 1 by omega]
  unfold wrap64; omega
 clear hb1 H0
 have HL1 := Lib.hid (show ([] : List Int).length + (19 + sn) ≤ 1099511627776 by have h1 := HN3.out; rw [HSN.out.1] at h1; simp; omega)
 have hel : (encL T).length = 19 + sn := by rw [HLE.out, HSN.out.1]
 have HL2 := Lib.hid (show (encL T).length ≤ 1099511627776 by have h1 := HN3.out; rw [HSN.out.1] at h1; omega)
 have htl : (tbD T).length = 256 := by have h1 := HN3.out; rw [HSN.out.1] at h1; simp only [tbD, List.length_append, List.length_replicate]; omega
 have HTD := Lib.hid (show (tbD T).length = 256 ∧ (tbD T).length ≤ 1099511627776 from ⟨htl, by omega⟩)
 have HEL := Lib.hid hel
 have HTB := Lib.hid (tbD_byt HOK.out HT.out)
 clear hel htl
 go_wp2_with fail
 rw [hq1]
 refine start_ (n := 11) (S := fun w' => True) (ds := []) _ (by kernel_rfl) rfl rfl trivial (fun hHeld => ?_)
 refine with_tabW ToR.tab5 ToR.bits5 (fun HT_ HW_ => ?_)
 have HGz := Lib.hid (show w1.drew.heap[g3]? = _ from H1.out.1.2)
 have RBz := Lib.hid (show ReadsInt w1.drew .u8 Ab (19 + sn) (encL T) from RB.out.below (bl_drew (Below.refl _ _)))
 have DZ := Lib.hid (show Below w1.heap.size w1 w1.drew from bl_drew (Below.refl _ _))
 have HLz := HL1
 have HL2z := HL2
 have HDz := HTD
 generalize w1.drew = wz at HGz RBz DZ hHeld ⊢
 have VB := Lib.hid (Below.refl wz.heap.size wz)
 refine pur_ 0 (some 31) HT_.out rfl rfl (by kernel_rfl) (fun _ _ _ h => h) (by rfl) (fun w' => by go_simp; with_reducible rfl) (by simp only [Act.put, List.setIfInBounds_toArray, List.set_cons_zero, List.set_cons_succ, i64_w, i32_w]; rfl) ?_
 refine pur_ 2 (some 33) HT_.out rfl rfl (by kernel_rfl) (fun _ _ _ h => h) (by rfl) (fun w' => by go_simp; with_reducible rfl) (by simp only [Act.put, List.setIfInBounds_toArray, List.set_cons_zero, List.set_cons_succ, i64_w, i32_w]; rfl) ?_
 refine pur_ 4 (some 35) HT_.out rfl rfl (by kernel_rfl) (fun _ _ _ h => h) (by rfl) (fun w' => by go_simp; with_reducible rfl) (by simp only [Act.put, List.setIfInBounds_toArray, List.set_cons_zero, List.set_cons_succ, i64_w, i32_w]; rfl) ?_
 refine pur_ 5 (some 36) HT_.out rfl rfl (by kernel_rfl) (fun _ _ _ h => h) (by rfl) (fun w' => by go_simp; with_reducible rfl) (by simp only [Act.put, List.setIfInBounds_toArray, List.set_cons_zero, List.set_cons_succ, i64_w, i32_w]; rfl) ?_
 refine inv_at [1, 3, 6, 7, 8, 9, 10] (fun a0_ b a w' => ∃ (x0 : Nat) (v1 : Value) (v2 : Value) (x1 : Nat) (y1 : Nat) (m1_ : Value) (m3_ : Value) (m8_ : Value) (m9_ : Value) (m10_ : Value), a = putSel a0_ b [(1, 32, m1_), (3, 34, m3_), (6, 37, .int .i64 256), (7, 38, .int .i64 256), (8, 39, m8_), (9, 40, m9_), (10, 6, m10_)] ∧ (Below wz.heap.size wz w') ∧ (b 1 = true → wz.heap.size ≤ x0) ∧ (b 1 = true → b 3 = false → WrV w' wz.heap.size x0 (.slice none 0 0) []) ∧ (b 3 = true → b 8 = false → WrV w' wz.heap.size x0 v1 (encL T)) ∧ (b 8 = true → b 9 = false → WrV w' wz.heap.size x0 v2 (tbD T)) ∧ (b 9 = true → ReadsInt w' .u8 (some ⟨x1, 0, none⟩) 256 (tbD T) ∧ wz.heap.size ≤ x1 ∧ 256 ≤ y1) ∧ (b 1 = true → (m1_ : Value) = .pointer (some ⟨x0, 0, none⟩)) ∧ (b 3 = true → (m3_ : Value) = .pointer (some ⟨x0, 0, none⟩)) ∧ (b 8 = true → (m8_ : Value) = .pointer (some ⟨x0, 0, none⟩)) ∧ (b 9 = true → (m9_ : Value) = .slice (some ⟨x1, 0, none⟩) 256 y1) ∧ (b 10 = true → (m10_ : Value) = .slice (some ⟨x1, 0, none⟩) 256 y1)) HT_.out HW_.out (by kernel_rfl) (by kernel_rfl) ?_ ?_ ?_
 ·exact ⟨0, .bool false, .bool false, 0, 0, .bool false, .bool false, .bool false, .bool false, .bool false, by simp only [putSel, Bool.false_eq_true, if_false], VB.out, fun h_ => absurd h_ (by decide), fun h_ => absurd h_ (by decide), fun h_ => absurd h_ (by decide), fun h_ => absurd h_ (by decide), fun h_ => absurd h_ (by decide), fun h_ => absurd h_ (by decide), fun h_ => absurd h_ (by decide), fun h_ => absurd h_ (by decide), fun h_ => absurd h_ (by decide), fun h_ => absurd h_ (by decide)⟩
 ·skip
  clear VB
  refine steps_cons ?_ ?_
  ·rintro b a w' ⟨x0, v1, v2, x1, y1, m1_, m3_, m8_, m9_, m10_, ha, Q_VB, Q_WX, Q_WA, Q_WB, Q_WC, Q_WO, Q_X1_, Q_X3_, Q_X8_, Q_X9_, Q_X10_⟩ hb_ hon hoff
   refine ⟨_, rfl, fun K hK => ?_⟩
   have e31 : a.tmps[31]? = some (.agg #[.slice none 0 0]) := by rw [ha]; exact (putSel_off rfl).trans rfl
   replace ha := Aside0.mk ha
   have VB := Aside0.mk Q_VB
   refine value_ (w1 := w'.alloc (.cells #[.slice none 0 0] 29)) (v := .pointer (some ⟨w'.heap.size, 0, none⟩)) (by rfl) rfl ?_ ?_
   ·go_simp
    try rfl
   refine hK.out _ _ ⟨w'.heap.size, v1, v2, x1, y1, (.pointer (some ⟨w'.heap.size, 0, none⟩)), m3_, m8_, m9_, m10_, (ptup_ ha.out 0 hb_ rfl rfl rfl), bl_alloc VB.out _, fun _ => VB.out.size, fun _ _ => ⟨heap_alloc_new w' _, own_nil _ _ _ _⟩, fun h0_ _ => off_ (hoff 3 (by kernel_rfl)) h0_, fun h0_ _ => off_ (hoff 8 (by kernel_rfl)) h0_, off_ (hoff 9 (by kernel_rfl)), fun _ => rfl, off_ (hoff 3 (by kernel_rfl)), off_ (hoff 8 (by kernel_rfl)), off_ (hoff 9 (by kernel_rfl)), off_ (hoff 10 (by kernel_rfl))⟩
  refine steps_cons ?_ ?_
  ·rintro b a w' ⟨x0, v1, v2, x1, y1, m1_, m3_, m8_, m9_, m10_, ha, Q_VB, Q_WX, Q_WA, Q_WB, Q_WC, Q_WO, Q_X1_, Q_X3_, Q_X8_, Q_X9_, Q_X10_⟩ hb_ hon hoff
   refine ⟨_, rfl, fun K hK => ?_⟩
   have e32 : a.tmps[32]? = some (m1_) := pton_ ha 0 rfl rfl (hon 1 (by kernel_rfl)) rfl
   rw [Q_X1_ (hon 1 (by kernel_rfl))] at e32
   have e33 : a.tmps[33]? = some (.slice Ab (19 + sn) cb) := by rw [ha]; exact (putSel_off rfl).trans rfl
   replace ha := Aside0.mk ha
   have VB := Aside0.mk Q_VB
   have WX := Aside0.mk (Q_WX (hon 1 (by kernel_rfl)))
   have WA := Aside0.mk (Q_WA (hon 1 (by kernel_rfl)) hb_)
   refine goes_ Try.func9 (by kernel_rfl) rfl #[.pointer (some ⟨x0, 0, none⟩), .slice Ab (19 + sn) cb] (by rfl) rfl rfl (by first | (simp only [List.map_toArray, List.map_cons, List.map_nil, Act.eval, Array.getD_eq_getD_getElem?, Option.getD_some, e32, e33]; done) | (simp only [List.map_toArray, List.map_cons, List.map_nil, Act.eval, Array.getD_eq_getD_getElem?, Option.getD_some, e32, e33]; rfl)) ?_
   refine (Raw_any wz.heap.size x0 (.slice none 0 0) [] (encL T) Ab (19 + sn) cb w' WA.out WX.out VB.out.size (RBz.out.below VB.out) HLz.out).mono ?_
   rintro e w1 ⟨rfl, v_, g1, g2, g3_, g4⟩
   refine ⟨_, rfl, ?_⟩
   refine hK.out _ _ ⟨x0, v_, v2, x1, y1, m1_, (.pointer (some ⟨x0, 0, none⟩)), m8_, m9_, m10_, (ptup_ ha.out 1 hb_ rfl rfl rfl), bl_step VB.out g4 (Nat.le_refl _), fun _ => WX.out, fun _ h1_ => absurd ((up_self b 3).symm.trans h1_) (by decide), fun _ _ => g1, fun h0_ _ => off_ (hoff 8 (by kernel_rfl)) h0_, off_ (hoff 9 (by kernel_rfl)), Q_X1_, fun _ => rfl, off_ (hoff 8 (by kernel_rfl)), off_ (hoff 9 (by kernel_rfl)), off_ (hoff 10 (by kernel_rfl))⟩
  refine steps_cons ?_ ?_
  ·rintro b a w' ⟨x0, v1, v2, x1, y1, m1_, m3_, m8_, m9_, m10_, ha, Q_VB, Q_WX, Q_WA, Q_WB, Q_WC, Q_WO, Q_X1_, Q_X3_, Q_X8_, Q_X9_, Q_X10_⟩ hb_ hon hoff
   refine ⟨_, rfl, fun K hK => ?_⟩
   have e36 : a.tmps[36]? = some (.pointer (some ⟨g3, 3, none⟩)) := by rw [ha]; exact (putSel_off rfl).trans rfl
   replace ha := Aside0.mk ha
   have VB := Aside0.mk Q_VB
   have hc_ : w'.cell? ⟨g3, 3, none⟩ = some (.int .i64 256) := (blk_cell (blk_below HGz.out VB.out) 3).trans rfl
   refine value_ (w1 := w') (v := .int .i64 256) (by rfl) rfl ?_ ?_
   ·go_simp
    (try simp only [i64_w])
    try rfl
   refine hK.out _ _ ⟨x0, v1, v2, x1, y1, m1_, m3_, m8_, m9_, m10_, (ptup_ ha.out 2 hb_ rfl rfl rfl), Q_VB, Q_WX, Q_WA, Q_WB, fun h0_ _ => off_ (hoff 8 (by kernel_rfl)) h0_, off_ (hoff 9 (by kernel_rfl)), Q_X1_, Q_X3_, off_ (hoff 8 (by kernel_rfl)), off_ (hoff 9 (by kernel_rfl)), off_ (hoff 10 (by kernel_rfl))⟩
  refine steps_cons ?_ ?_
  ·rintro b a w' ⟨x0, v1, v2, x1, y1, m1_, m3_, m8_, m9_, m10_, ha, Q_VB, Q_WX, Q_WA, Q_WB, Q_WC, Q_WO, Q_X1_, Q_X3_, Q_X8_, Q_X9_, Q_X10_⟩ hb_ hon hoff
   refine ⟨_, rfl, fun K hK => ?_⟩
   have e35 : a.tmps[35]? = some (.int .i64 1) := by rw [ha]; exact (putSel_off rfl).trans rfl
   have e37 : a.tmps[37]? = some (.int .i64 256) := pton_ ha 2 rfl rfl (hon 6 (by kernel_rfl)) rfl
   replace ha := Aside0.mk ha
   have VB := Aside0.mk Q_VB
   refine value_ (w1 := w') (v := .int .i64 256) (by rfl) rfl ?_ ?_
   ·go_simp
    try simp only [i64_w]
    first | rfl | (unfold wrap64; rfl) | (simp [wrap64])
   refine hK.out _ _ ⟨x0, v1, v2, x1, y1, m1_, m3_, m8_, m9_, m10_, (ptup_ ha.out 3 hb_ rfl rfl rfl), VB.out, fun h0_ => (Q_WX h0_), fun h0_ h1_ => (Q_WA h0_ h1_), fun h0_ h1_ => (Q_WB h0_ h1_), fun h0_ _ => off_ (hoff 8 (by kernel_rfl)) h0_, off_ (hoff 9 (by kernel_rfl)), Q_X1_, Q_X3_, off_ (hoff 8 (by kernel_rfl)), off_ (hoff 9 (by kernel_rfl)), off_ (hoff 10 (by kernel_rfl))⟩
  refine steps_cons ?_ ?_
  ·rintro b a w' ⟨x0, v1, v2, x1, y1, m1_, m3_, m8_, m9_, m10_, ha, Q_VB, Q_WX, Q_WA, Q_WB, Q_WC, Q_WO, Q_X1_, Q_X3_, Q_X8_, Q_X9_, Q_X10_⟩ hb_ hon hoff
   refine ⟨_, rfl, fun K hK => ?_⟩
   have e34 : a.tmps[34]? = some (m3_) := pton_ ha 1 rfl rfl (hon 3 (by kernel_rfl)) rfl
   rw [Q_X3_ (hon 3 (by kernel_rfl))] at e34
   have e38 : a.tmps[38]? = some (.int .i64 256) := pton_ ha 3 rfl rfl (hon 7 (by kernel_rfl)) rfl
   replace ha := Aside0.mk ha
   have VB := Aside0.mk Q_VB
   have WX := Aside0.mk (Q_WX (hon 1 (by kernel_rfl)))
   have WB := Aside0.mk (Q_WB (hon 3 (by kernel_rfl)) hb_)
   refine goes_ Try.func45 (by kernel_rfl) rfl #[.pointer (some ⟨x0, 0, none⟩), .int .i64 256] (by rfl) rfl rfl (by first | (simp only [List.map_toArray, List.map_cons, List.map_nil, Act.eval, Array.getD_eq_getD_getElem?, Option.getD_some, e34, e38]; done) | (simp only [List.map_toArray, List.map_cons, List.map_nil, Act.eval, Array.getD_eq_getD_getElem?, Option.getD_some, e34, e38]; rfl)) ?_
   refine (Pad_any wz.heap.size x0 v1 (encL T) 256 w' WB.out WX.out VB.out.size (by decide) HL2z.out).mono ?_
   rintro e w1 ⟨rfl, v_, g1, g2, g3_, g4⟩
   refine ⟨_, rfl, ?_⟩
   refine hK.out _ _ ⟨x0, v1, v_, x1, y1, m1_, m3_, (.pointer (some ⟨x0, 0, none⟩)), m9_, m10_, (ptup_ ha.out 4 hb_ rfl rfl rfl), bl_step VB.out g4 (Nat.le_refl _), fun _ => WX.out, fun _ h1_ => absurd ((hon 3 (by kernel_rfl)).symm.trans h1_) (by decide), fun _ h1_ => absurd ((up_self b 8).symm.trans h1_) (by decide), fun _ _ => g1, off_ (hoff 9 (by kernel_rfl)), Q_X1_, Q_X3_, fun _ => rfl, off_ (hoff 9 (by kernel_rfl)), off_ (hoff 10 (by kernel_rfl))⟩
  refine steps_cons ?_ ?_
  ·rintro b a w' ⟨x0, v1, v2, x1, y1, m1_, m3_, m8_, m9_, m10_, ha, Q_VB, Q_WX, Q_WA, Q_WB, Q_WC, Q_WO, Q_X1_, Q_X3_, Q_X8_, Q_X9_, Q_X10_⟩ hb_ hon hoff
   refine ⟨_, rfl, fun K hK => ?_⟩
   have e39 : a.tmps[39]? = some (m8_) := pton_ ha 4 rfl rfl (hon 8 (by kernel_rfl)) rfl
   rw [Q_X8_ (hon 8 (by kernel_rfl))] at e39
   replace ha := Aside0.mk ha
   have VB := Aside0.mk Q_VB
   have WX := Aside0.mk (Q_WX (hon 1 (by kernel_rfl)))
   have WC := Aside0.mk (Q_WC (hon 8 (by kernel_rfl)) hb_)
   refine goes_ Try.func6 (by kernel_rfl) rfl #[.pointer (some ⟨x0, 0, none⟩)] (by rfl) rfl rfl (by first | (simp only [List.map_toArray, List.map_cons, List.map_nil, Act.eval, Array.getD_eq_getD_getElem?, Option.getD_some, e39]; done) | (simp only [List.map_toArray, List.map_cons, List.map_nil, Act.eval, Array.getD_eq_getD_getElem?, Option.getD_some, e39]; rfl)) ?_
   refine (Bytes_any wz.heap.size x0 v2 (tbD T) w' WC.out HDz.out.2).mono ?_
   rintro e w1 ⟨v_, rfl, g1, g4⟩
   obtain ⟨x_, y_, rfl, g2, g3_, g5⟩ := own_some_ g1 HDz.out.1 (by decide)
   refine ⟨_, rfl, ?_⟩
   refine hK.out _ _ ⟨x0, v1, v2, x_, y_, m1_, m3_, m8_, (.slice (some ⟨x_, 0, none⟩) 256 y_), m10_, (ptup_ ha.out 5 hb_ rfl rfl rfl), bl_seq VB.out g4, fun _ => WX.out, fun _ h1_ => absurd ((hon 3 (by kernel_rfl)).symm.trans h1_) (by decide), fun _ h1_ => absurd ((hon 8 (by kernel_rfl)).symm.trans h1_) (by decide), fun _ h1_ => absurd ((up_self b 9).symm.trans h1_) (by decide), fun _ => ⟨g5, Nat.le_trans VB.out.size g2, g3_⟩, Q_X1_, Q_X3_, Q_X8_, fun _ => rfl, off_ (hoff 10 (by kernel_rfl))⟩
  refine steps_cons ?_ ?_
  ·rintro b a w' ⟨x0, v1, v2, x1, y1, m1_, m3_, m8_, m9_, m10_, ha, Q_VB, Q_WX, Q_WA, Q_WB, Q_WC, Q_WO, Q_X1_, Q_X3_, Q_X8_, Q_X9_, Q_X10_⟩ hb_ hon hoff
   refine ⟨_, rfl, fun K hK => ?_⟩
   have e40 : a.tmps[40]? = some (m9_) := pton_ ha 5 rfl rfl (hon 9 (by kernel_rfl)) rfl
   rw [Q_X9_ (hon 9 (by kernel_rfl))] at e40
   replace ha := Aside0.mk ha
   have VB := Aside0.mk Q_VB
   have WX := Aside0.mk (Q_WX (hon 1 (by kernel_rfl)))
   have WO := Aside0.mk (Q_WO (hon 9 (by kernel_rfl)))
   refine value_ (w1 := w') (v := .slice (some ⟨x1, 0, none⟩) 256 y1) (by rfl) rfl ?_ ?_
   ·go_simp
    (try simp only [i64_w])
    try rfl
   refine hK.out _ _ ⟨x0, v1, v2, x1, y1, m1_, m3_, m8_, m9_, (.slice (some ⟨x1, 0, none⟩) 256 y1), (ptup_ ha.out 6 hb_ rfl rfl rfl), Q_VB, Q_WX, fun _ h1_ => absurd ((hon 3 (by kernel_rfl)).symm.trans h1_) (by decide), fun _ h1_ => absurd ((hon 8 (by kernel_rfl)).symm.trans h1_) (by decide), fun _ h1_ => absurd ((hon 9 (by kernel_rfl)).symm.trans h1_) (by decide), Q_WO, Q_X1_, Q_X3_, Q_X8_, Q_X9_, fun _ => rfl⟩
  exact steps_nil
 ·rintro b a w' hall ⟨x0, v1, v2, x1, y1, m1_, m3_, m8_, m9_, m10_, ha, Q_VB, Q_WX, Q_WA, Q_WB, Q_WC, Q_WO, Q_X1_, Q_X3_, Q_X8_, Q_X9_, Q_X10_⟩
  clear VB
  have hb1_ := hall 1 (by kernel_rfl)
  have hb3_ := hall 3 (by kernel_rfl)
  have hb6_ := hall 6 (by kernel_rfl)
  have hb7_ := hall 7 (by kernel_rfl)
  have hb8_ := hall 8 (by kernel_rfl)
  have hb9_ := hall 9 (by kernel_rfl)
  have hb10_ := hall 10 (by kernel_rfl)
  subst ha
  obtain rfl := Q_X1_ hb1_
  obtain rfl := Q_X3_ hb3_
  obtain rfl := Q_X8_ hb8_
  obtain rfl := Q_X9_ hb9_
  obtain rfl := Q_X10_ hb10_
  simp only [putSel, hb1_, hb3_, hb6_, hb7_, hb8_, hb9_, hb10_, if_true, Act.put, List.setIfInBounds_toArray, List.set_cons_zero, List.set_cons_succ]
  have VB := Aside0.mk Q_VB
  clear Q_VB
  have WX := Aside0.mk (Q_WX hb1_)
  clear Q_WX
  clear Q_WA
  clear Q_WB
  clear Q_WC
  have WO := Aside0.mk (Q_WO hb9_)
  clear Q_WO
  clear hall hb1_ hb3_ hb6_ hb7_ hb8_ hb9_ hb10_
  clear hq1 HGz RBz HLz HL2z HDz
  have HF := Lib.hid (show Below w.heap.size w w' ∧ w'.heap[g2]? = some (.cells #[.int .u32 seq, .slice (some PA) 11 pc, .slice SA sn sc, .int .i64 t0, .int .i64 t1] 108 (0, 0)) ∧ w'.heap[g3]? = some (.cells #[.int .i64 3, .int .i64 16, .int .i64 6, .int .i64 256] 50 (0, 0)) ∧ w.heap.size ≤ x1 ∧ 256 ≤ y1 ∧ ReadsInt w' .u8 (some ⟨x1, 0, none⟩) 256 (tbD T) from by
   have hb := bl_seq DZ.out VB.out
   exact ⟨bl_seq H1.out.2 hb, blk_below H1.out.1.1 hb, blk_below H1.out.1.2 hb, Nat.le_trans (Nat.le_trans H1.out.2.size DZ.out.size) WO.out.2.1, WO.out.2.2, WO.out.1⟩)
  clear VB WX WO DZ H1 RB HL1 HL2
  generalize w' = wb at HF ⊢
  have hseq := And.intro HOK.out.seq0 HOK.out.seq1
  have hseq0 : 0 ≤ (tbH T).e := hseq.1
  have hseq1 : (tbH T).e < 4294967296 := hseq.2
  clear hseq
  go_wp2_with fail
  go_loopw [9, 42] (fun l i wr => (i = .int .i64 0 ∧ l = .slice none 0 0 ∧ Hid (Below wb.heap.size wb wr)) ∨ (i = .int .i64 1 ∧ ∃ G c O co, l = .slice (some ⟨G, 0, none⟩) 1 c ∧ Hid (Below wb.heap.size wb wr ∧ wr.cell? ⟨G, 0, none⟩ = some (.slice (some ⟨x1, 0, none⟩) 256 y1) ∧ wr.cell? ⟨G, 1, none⟩ = some (.slice (some O) 64 co) ∧ ReadsInt wr .u8 (some O) 64 (tbO T) ∧ wb.heap.size ≤ G ∧ wb.heap.size ≤ O.block ∧ 64 ≤ co))) (fun _ i _ => 1 - (intOf i).toNat)
  case atStart => exact .inl ⟨rfl, rfl, Lib.hid (Below.refl _ _)⟩
  case round =>
   rcases hrel with ⟨rfl, rfl, HB⟩ | ⟨rfl, G, c, O, co, rfl, HX⟩
   ·have hb2 := blk_below HF.out.2.1 HB.out
    have hb3 := blk_below HF.out.2.2.1 HB.out
    have y0 : wr.cell? ⟨g2, 0, none⟩ = some (.int .u32 seq) := (blk_cell hb2 0).trans rfl
    have y3 : wr.cell? ⟨g3, 3, none⟩ = some (.int .i64 256) := (blk_cell hb3 3).trans rfl
    have hy1 := HF.out.2.2.2.2.1
    go_wp2_with fail
    have hba : Below wr.heap.size wr (wr.alloc (.cells (hdC (tbH T)) 65)) := bl_alloc (Below.refl _ _) _
    have hC2 : #[Value.int .u8 1, .int .u32 seq, .int .u32 0, .int .u16 0, .int .u16 1, .int .u32 0, .int .u32 0] = hdC (tbH T) := by simp only [hdC, tbH]; rw [HSN.out.2]
    rw [hC2]
    obtain ⟨w3, hw3⟩ : ∃ w3, wr.alloc (.cells (hdC (tbH T)) 65) = w3 := ⟨_, rfl⟩
    rw [hw3] at hba ⊢
    have B3 := Lib.hid (bl_seq HB.out hba)
    clear hba hw3 hC2 hb2 hb3 y0 y3
    refine (Seal_any (tbH T) _ _ _ _ 256 0 (tbD T) [] w3 (tbH_ok HOK.out) (HF.out.2.2.2.2.2.below B3.out) hy1 HTB.out (by decide) ⟨rfl, by decide, fun h_ => absurd h_ (by decide)⟩ (Nat.le_refl _) (fun x hx => by simp at hx)).mono ?_
    rintro e w4 ⟨v4, rfl, hn4⟩
    obtain ⟨x4, y4, rfl, h4a, h4b, h4c⟩ := own_some_ (n := 64) hn4.1 (sealL_length _ _ _) (by decide)
    have H4 := Lib.hid (And.intro (bl_seq B3.out hn4.2) (And.intro (Nat.le_trans B3.out.size h4a) (And.intro h4b h4c)))
    clear hn4 h4a h4b h4c
    go_wp2_with fail
    go_roundw
    case rel =>
     refine .inr ⟨rfl, _, _, ⟨x4, 0, none⟩, y4, rfl, Lib.hid ?_⟩
     obtain ⟨e1, e2, e3⟩ := app_two w4 (.slice (some ⟨x1, 0, none⟩) 256 y1) (.slice (some ⟨x4, 0, none⟩) 64 y4) (Builtin.zeroCells #[Value.slice none 0 0, Value.slice none 0 0] ((Question.appendCap 1 0 131).cut (w4.tape w4.drawn (Question.appendCap 1 0 131)) - 1)) 131 131
     exact ⟨bl_seq H4.out.1 e3, e1, e2, H4.out.2.2.2.below e3, Nat.le_succ_of_le H4.out.1.size, H4.out.2.1, H4.out.2.2.1⟩
    case measure => simp [intOf]
   ·go_wp2_with fail
    go_ret2
    have hz := HF.out.1.size
    exact ⟨G, c, _, _, O, co, rfl, bl_seq HF.out.1 HX.out.1, HX.out.2.1, HX.out.2.2.1, HF.out.2.2.2.2.2.below HX.out.1, HX.out.2.2.2.1, Nat.le_trans hz HX.out.2.2.2.2.1, HF.out.2.2.2.1, Nat.le_trans hz HX.out.2.2.2.2.2.1, HF.out.2.2.2.2.1, HX.out.2.2.2.2.2.2⟩
end Go.Proofs.Ytffalemndjampaa
end
section
set_option linter.unusedVariables false
set_option linter.unusedSimpArgs false
namespace Go.Proofs.Ytffalemndjampaa
open Go.RowKit Go.Proofs.YtffalemndjampaaW.PrintWords Go.Proofs.YtffalemndjampaaW.PrintLast
theorem readS_ops (ar : Ar) (s : St) : s.ops ≤ (readS ar s).1.ops ∧ (readS ar s).1.ops ≤ s.ops + 1 := by
 unfold readS; repeat' split
 all_goals (simp <;> omega)
theorem progS_ops (ar : Ar) (s : St) (kb p : Nat) (x : List Int × List Int) : s.ops ≤ (progS ar s kb p x).1.ops ∧ (progS ar s kb p x).1.ops ≤ s.ops + 1 := by
 unfold progS; repeat' split
 all_goals (simp [St.go, St.setPg, St.setNx, St.setBad] <;> omega)
theorem eraseS_ops (ar : Ar) (s : St) (kb : Nat) : s.ops ≤ (eraseS ar s kb).1.ops ∧ (eraseS ar s kb).1.ops ≤ s.ops + 1 := by
 unfold eraseS; repeat' split
 all_goals (simp [St.go, St.setPgs, St.setNx, St.setBad, St.setOff, St.lf] <;> omega)
theorem tbO_byt (T : Tb) : Byt (tbO T) := sealL_byt _ _ (fun x hx => by simp at hx)
def layS (ar : Ar) (s : St) (kb : Nat) (T : Tb) : St × Int := if (eraseS ar s kb).2 = 0 then progS ar (eraseS ar s kb).1 kb 0 (tbD T, tbO T) else eraseS ar s kb
theorem layS_ops (ar : Ar) (s : St) (kb : Nat) (T : Tb) : s.ops ≤ (layS ar s kb T).1.ops ∧ (layS ar s kb T).1.ops ≤ s.ops + 2 := by
 have h1 := eraseS_ops ar s kb
 have h2 := progS_ops ar (eraseS ar s kb).1 kb 0 (tbD T, tbO T)
 unfold layS
 split <;> omega
def StQ (w : World) (ar : Ar) (ok : Nat → Prop) (r : St × Int) (e : Ending) (w' : World) : Prop := e = .returned (.int .i64 r.2) ∧ Arr w' ar ok r.1 ∧ Mods ar.M w w'
def TpA.T1 : Bool × List (List Nat × List Nat) := (true, [([], []), ([0], [0]), ([1], [1]), ([2], [2]), ([], []), ([4], [4]), ([5], [5]), ([6], [6]), ([3, 7], [3, 7]), ([8], [8]), ([9], [9]), ([9], [9]), ([10, 8, 0, 1, 2, 3, 4, 5, 6, 7, 8, 9, 10], [10]), ([11, 12, 0, 1, 2, 3, 4, 5, 6, 7, 8, 9, 10, 11, 12], [11])])
def TpA.B1 : List Nat := [0, 1, 3, 7, 0, 16, 48, 112, 255, 511, 1023, 1023, 2047, 8191]
theorem TpA.tab1 : rtab .any (opsOf Try.f55 1) = TpA.T1 := by kernel_rfl
theorem TpA.bits1 : waitsOk TpA.T1.2 TpA.B1 = true := by kernel_rfl
def TpB.T4 : Bool × List (List Nat × List Nat) := (true, [([], []), ([0], [0]), ([1], [1]), ([2], [2]), ([], []), ([4], [4]), ([5], [5]), ([6], [6]), ([], []), ([3, 7, 8], [3, 7, 8]), ([9, 9, 0, 1, 2, 3, 4, 5, 6, 7, 8, 9], [9])])
def TpB.B4 : List Nat := [0, 1, 3, 7, 0, 16, 48, 112, 0, 511, 1023]
theorem TpB.tab4 : rtab .any (opsOf Try.f55 4) = TpB.T4 := by kernel_rfl
theorem TpB.bits4 : waitsOk TpB.T4.2 TpB.B4 = true := by kernel_rfl
def TpC.T10 : Bool × List (List Nat × List Nat) := (true, [([], []), ([0], [0]), ([1], [1]), ([2], [2]), ([], []), ([4], [4]), ([5], [5]), ([6], [6]), ([], []), ([], []), ([], []), ([10], [10]), ([], []), ([12], [12]), ([3, 7, 8, 9, 11, 13], [3, 7, 8, 9, 11, 13]), ([14, 14, 0, 1, 2, 3, 4, 5, 6, 7, 8, 9, 10, 11, 12, 13, 14], [14])])
def TpC.B10 : List Nat := [0, 1, 3, 7, 0, 16, 48, 112, 0, 0, 0, 1024, 0, 4096, 16383, 32767]
theorem TpC.tab10 : rtab .any (opsOf Try.f55 10) = TpC.T10 := by kernel_rfl
theorem TpC.bits10 : waitsOk TpC.T10.2 TpC.B10 = true := by kernel_rfl
set_option maxHeartbeats 16000000 in
set_option maxRecDepth 100000 in
theorem lay_any (ar : Ar) (ok : Nat → Prop) (s : St) (vp kb : Nat) (N : Nat → Prop) (T : Tb) (w : World) (hf : ar.Fix) (hok : ∀ k, ok k → ¬ ar.M k) (hnew : ∀ k, w.heap.size ≤ k → ok k) (h : Arr w ar ok s) (hv : VolR w vp ar.p N T) (hN : ∀ k, N k → ¬ ar.M k) (hvp : ¬ ar.M vp) (hT : TbOk T) (hb : kb < 16) (h0 : 0 ≤ s.ops) (h1 : s.ops + 2 ≤ 1000000) :
  Calls Try.prog 55 #[.pointer (some ⟨vp, 0, none⟩), .int .i64 (kb : Int)] w (StQ w ar ok (layS ar s kb T)) := by
 obtain ⟨PA, pc, SA, sc, hv1, hv2⟩ := hv
 simp only [tbC] at hv2
 simp only [volC] at hv1
 have HK := Lib.hid hT
 have HA := Lib.hid h
 have HF := Lib.hid (And.intro hf (And.intro hok hnew))
 have HNV := Lib.hid (And.intro hN hvp)
 have HDO := Lib.hid (show Byt (tbD T) ∧ Byt (tbO T) from ⟨tbD_byt hT hv2, tbO_byt T⟩)
 have HOP := Lib.hid (eraseS_ops ar s kb)
 have HM := Lib.hid (show ∀ k, ar.M k → k < w.heap.size from fun k hk => h.M_lt hk)
 obtain ⟨seq, hsq⟩ : ∃ seq, T.seq = seq := ⟨_, rfl⟩
 obtain ⟨sn, hsn⟩ : ∃ sn, T.spare.length = sn := ⟨_, rfl⟩
 obtain ⟨t0, ht0⟩ : ∃ t0, T.t0 = t0 := ⟨_, rfl⟩
 obtain ⟨t1, ht1⟩ : ∃ t1, T.t1 = t1 := ⟨_, rfl⟩
 rw [hsq, hsn, ht0, ht1] at hv1 hv2
 have HV := Lib.hid hv1
 have HT := Lib.hid hv2
 clear hv1 hv2 h hf hok hnew hN hvp hT hsq hsn ht0 ht1
 go_enter Try.func55, Try.ntmps55
 go_wp2_with fail
 refine start_ (n := 14) (S := fun w' => True) (ds := []) _ (by kernel_rfl) rfl rfl trivial (fun hHeld => ?_)
 refine with_tabW TpA.tab1 TpA.bits1 (fun HT_ HW_ => ?_)
 have HVz := Lib.hid (show w.drew.heap[vp]? = _ from HV.out)
 have HTz := Lib.hid (HT.out.below (show Below w.heap.size w w.drew from bl_drew (Below.refl _ _)))
 have HKz := Lib.hid HK.out
 have DZ := Lib.hid (show Below w.heap.size w w.drew from bl_drew (Below.refl _ _))
 generalize w.drew = wz at HVz HTz DZ hHeld ⊢
 have VB := Lib.hid (Below.refl wz.heap.size wz)
 refine pur_ 0 (some 12) HT_.out rfl rfl (by kernel_rfl) (fun _ _ _ h => h) (by rfl) (fun w' => by go_simp; with_reducible rfl) (by simp only [Act.put, List.setIfInBounds_toArray, List.set_cons_zero, List.set_cons_succ, i64_w, i32_w]; rfl) ?_
 refine pur_ 1 (some 13) HT_.out rfl rfl (by kernel_rfl) (fun _ _ _ h => h) (by rfl) (fun w' => by go_simp; with_reducible rfl) (by simp only [Act.put, List.setIfInBounds_toArray, List.set_cons_zero, List.set_cons_succ, i64_w, i32_w]; rfl) ?_
 refine pur_ 2 (some 14) HT_.out rfl rfl (by kernel_rfl) (fun _ _ _ h => h) (by rfl) (fun w' => by go_simp; with_reducible rfl) (by simp only [Act.put, List.setIfInBounds_toArray, List.set_cons_zero, List.set_cons_succ, i64_w, i32_w]; rfl) ?_
 refine pur_ 4 (some 16) HT_.out rfl rfl (by kernel_rfl) (fun _ _ _ h => h) (by rfl) (fun w' => by go_simp; with_reducible rfl) (by simp only [Act.put, List.setIfInBounds_toArray, List.set_cons_zero, List.set_cons_succ, i64_w, i32_w]; rfl) ?_
 refine pur_ 5 (some 17) HT_.out rfl rfl (by kernel_rfl) (fun _ _ _ h => h) (by rfl) (fun w' => by go_simp; with_reducible rfl) (by simp only [Act.put, List.setIfInBounds_toArray, List.set_cons_zero, List.set_cons_succ, i64_w, i32_w]; rfl) ?_
 refine pur_ 6 (some 18) HT_.out rfl rfl (by kernel_rfl) (fun _ _ _ h => h) (by rfl) (fun w' => by go_simp; with_reducible rfl) (by simp only [Act.put, List.setIfInBounds_toArray, List.set_cons_zero, List.set_cons_succ, i64_w, i32_w]; rfl) ?_
 refine inv_at [3, 7, 8, 9, 10, 11, 12, 13] (fun a0_ b a w' => ∃ (xG : Nat) (xc : Nat) (xD : Addr) (xd : Nat) (xO : Addr) (xo : Nat) (m8_ : Value) (m9_ : Value) (m10_ : Value) (m12_ : Value), a = putSel a0_ b [(3, 15, .agg #[.int .u32 seq, .slice (some PA) 11 pc, .slice SA sn sc, .int .i64 t0, .int .i64 t1]), (7, 19, .agg #[.int .i64 3, .int .i64 16, .int .i64 6, .int .i64 256]), (8, 20, m8_), (9, 11, m9_), (10, 21, m10_), (11, 22, .int .i64 0), (12, 5, m12_), (13, 6, .int .i64 0)] ∧ (b 8 = false → Below wz.heap.size wz w') ∧ (b 8 = true → Below wz.heap.size wz w' ∧ w'.cell? ⟨xG, 0, none⟩ = some (.slice (some xD) 256 xd) ∧ w'.cell? ⟨xG, 1, none⟩ = some (.slice (some xO) 64 xo) ∧ ReadsInt w' .u8 (some xD) 256 (tbD T) ∧ ReadsInt w' .u8 (some xO) 64 (tbO T) ∧ wz.heap.size ≤ xG ∧ wz.heap.size ≤ xD.block ∧ wz.heap.size ≤ xO.block) ∧ (b 8 = true → (m8_ : Value) = .tuple #[.slice (some ⟨xG, 0, none⟩) 1 xc, .int .i64 0]) ∧ (b 9 = true → (m9_ : Value) = .tuple #[.slice (some ⟨xG, 0, none⟩) 1 xc, .int .i64 0]) ∧ (b 10 = true → (m10_ : Value) = .slice (some ⟨xG, 0, none⟩) 1 xc) ∧ (b 12 = true → (m12_ : Value) = .slice (some ⟨xG, 0, none⟩) 1 xc)) HT_.out HW_.out (by kernel_rfl) (by kernel_rfl) ?_ ?_ ?_
 ·exact ⟨0, 0, ⟨0, 0, none⟩, 0, ⟨0, 0, none⟩, 0, .bool false, .bool false, .bool false, .bool false, by simp only [putSel, Bool.false_eq_true, if_false], fun _ => VB.out, fun h_ => absurd h_ (by decide), fun h_ => absurd h_ (by decide), fun h_ => absurd h_ (by decide), fun h_ => absurd h_ (by decide), fun h_ => absurd h_ (by decide)⟩
 ·skip
  clear VB
  refine steps_cons ?_ ?_
  ·rintro b a w' ⟨xG, xc, xD, xd, xO, xo, m8_, m9_, m10_, m12_, ha, Q_VB, Q_VQ, Q_X8_, Q_X9_, Q_X10_, Q_X12_⟩ hb_ hon hoff
   refine ⟨_, rfl, fun K hK => ?_⟩
   have e14 : a.tmps[14]? = some (.pointer (some ⟨vp, 6, none⟩)) := by rw [ha]; exact (putSel_off rfl).trans rfl
   replace ha := Aside0.mk ha
   have VB := Aside0.mk (Q_VB (hoff 8 (by kernel_rfl)))
   have hc6_ : w'.cell? ⟨vp, 6, none⟩ = some (.int .u32 seq) := (blk_cell (blk_below HVz.out VB.out) 6).trans rfl
   have hc7_ : w'.cell? ⟨vp, 7, none⟩ = some (.slice (some PA) 11 pc) := (blk_cell (blk_below HVz.out VB.out) 7).trans rfl
   have hc8_ : w'.cell? ⟨vp, 8, none⟩ = some (.slice SA sn sc) := (blk_cell (blk_below HVz.out VB.out) 8).trans rfl
   have hc9_ : w'.cell? ⟨vp, 9, none⟩ = some (.int .i64 t0) := (blk_cell (blk_below HVz.out VB.out) 9).trans rfl
   have hc10_ : w'.cell? ⟨vp, 10, none⟩ = some (.int .i64 t1) := (blk_cell (blk_below HVz.out VB.out) 10).trans rfl
   refine value_ (w1 := w') (v := .agg #[.int .u32 seq, .slice (some PA) 11 pc, .slice SA sn sc, .int .i64 t0, .int .i64 t1]) (by rfl) rfl ?_ ?_
   ·go_simp
    (try simp only [i64_w])
    try rfl
   refine hK.out _ _ ⟨xG, xc, xD, xd, xO, xo, m8_, m9_, m10_, m12_, (ptup_ ha.out 0 hb_ rfl rfl rfl), Q_VB, off_ (hoff 8 (by kernel_rfl)), off_ (hoff 8 (by kernel_rfl)), off_ (hoff 9 (by kernel_rfl)), off_ (hoff 10 (by kernel_rfl)), off_ (hoff 12 (by kernel_rfl))⟩
  refine steps_cons ?_ ?_
  ·rintro b a w' ⟨xG, xc, xD, xd, xO, xo, m8_, m9_, m10_, m12_, ha, Q_VB, Q_VQ, Q_X8_, Q_X9_, Q_X10_, Q_X12_⟩ hb_ hon hoff
   refine ⟨_, rfl, fun K hK => ?_⟩
   have e18 : a.tmps[18]? = some (.pointer (some ⟨vp, 2, none⟩)) := by rw [ha]; exact (putSel_off rfl).trans rfl
   replace ha := Aside0.mk ha
   have VB := Aside0.mk (Q_VB (hoff 8 (by kernel_rfl)))
   have hc2_ : w'.cell? ⟨vp, 2, none⟩ = some (.int .i64 3) := (blk_cell (blk_below HVz.out VB.out) 2).trans rfl
   have hc3_ : w'.cell? ⟨vp, 3, none⟩ = some (.int .i64 16) := (blk_cell (blk_below HVz.out VB.out) 3).trans rfl
   have hc4_ : w'.cell? ⟨vp, 4, none⟩ = some (.int .i64 6) := (blk_cell (blk_below HVz.out VB.out) 4).trans rfl
   have hc5_ : w'.cell? ⟨vp, 5, none⟩ = some (.int .i64 256) := (blk_cell (blk_below HVz.out VB.out) 5).trans rfl
   refine value_ (w1 := w') (v := .agg #[.int .i64 3, .int .i64 16, .int .i64 6, .int .i64 256]) (by rfl) rfl ?_ ?_
   ·go_simp
    (try simp only [i64_w])
    try rfl
   refine hK.out _ _ ⟨xG, xc, xD, xd, xO, xo, m8_, m9_, m10_, m12_, (ptup_ ha.out 1 hb_ rfl rfl rfl), Q_VB, off_ (hoff 8 (by kernel_rfl)), off_ (hoff 8 (by kernel_rfl)), off_ (hoff 9 (by kernel_rfl)), off_ (hoff 10 (by kernel_rfl)), off_ (hoff 12 (by kernel_rfl))⟩
  refine steps_cons ?_ ?_
  ·rintro b a w' ⟨xG, xc, xD, xd, xO, xo, m8_, m9_, m10_, m12_, ha, Q_VB, Q_VQ, Q_X8_, Q_X9_, Q_X10_, Q_X12_⟩ hb_ hon hoff
   refine ⟨_, rfl, fun K hK => ?_⟩
   have e15 : a.tmps[15]? = some (.agg #[.int .u32 seq, .slice (some PA) 11 pc, .slice SA sn sc, .int .i64 t0, .int .i64 t1]) := pton_ ha 0 rfl rfl (hon 3 (by kernel_rfl)) rfl
   have e19 : a.tmps[19]? = some (.agg #[.int .i64 3, .int .i64 16, .int .i64 6, .int .i64 256]) := pton_ ha 1 rfl rfl (hon 7 (by kernel_rfl)) rfl
   replace ha := Aside0.mk ha
   have VB := Aside0.mk (Q_VB hb_)
   refine goes_ Try.func60 (by kernel_rfl) rfl #[.agg #[.int .u32 seq, .slice (some PA) 11 pc, .slice SA sn sc, .int .i64 t0, .int .i64 t1], .agg #[.int .i64 3, .int .i64 16, .int .i64 6, .int .i64 256]] (by rfl) rfl rfl (by first | (simp only [List.map_toArray, List.map_cons, List.map_nil, Act.eval, Array.getD_eq_getD_getElem?, Option.getD_some, e15, e19]; done) | (simp only [List.map_toArray, List.map_cons, List.map_nil, Act.eval, Array.getD_eq_getD_getElem?, Option.getD_some, e15, e19]; rfl)) ?_
   refine (pages_any _ T N w' (HTz.out.below VB.out) HKz.out).mono ?_
   rintro e w1 ⟨G_, c_, D_, cd_, O_, co_, rfl, q1, q2, q3, q4, q5, q6, q7, q8, q9, q10⟩
   refine ⟨_, rfl, ?_⟩
   refine hK.out _ _ ⟨G_, c_, D_, cd_, O_, co_, (.tuple #[.slice (some ⟨G_, 0, none⟩) 1 c_, .int .i64 0]), m9_, m10_, m12_, (ptup_ ha.out 2 hb_ rfl rfl rfl), fun h0_ => absurd ((up_self b 8).symm.trans h0_) (by decide), fun _ => ⟨bl_seq VB.out q1, q2, q3, q4, q5, Nat.le_trans VB.out.size q6, Nat.le_trans VB.out.size q7, Nat.le_trans VB.out.size q8⟩, fun _ => rfl, off_ (hoff 9 (by kernel_rfl)), off_ (hoff 10 (by kernel_rfl)), off_ (hoff 12 (by kernel_rfl))⟩
  refine steps_cons ?_ ?_
  ·rintro b a w' ⟨xG, xc, xD, xd, xO, xo, m8_, m9_, m10_, m12_, ha, Q_VB, Q_VQ, Q_X8_, Q_X9_, Q_X10_, Q_X12_⟩ hb_ hon hoff
   refine ⟨_, rfl, fun K hK => ?_⟩
   have e20 : a.tmps[20]? = some (m8_) := pton_ ha 2 rfl rfl (hon 8 (by kernel_rfl)) rfl
   rw [Q_X8_ (hon 8 (by kernel_rfl))] at e20
   replace ha := Aside0.mk ha
   have VQ := Aside0.mk (Q_VQ (hon 8 (by kernel_rfl)))
   refine value_ (w1 := w') (v := .tuple #[.slice (some ⟨xG, 0, none⟩) 1 xc, .int .i64 0]) (by rfl) rfl ?_ ?_
   ·go_simp
    (try simp only [i64_w])
    try rfl
   refine hK.out _ _ ⟨xG, xc, xD, xd, xO, xo, m8_, (.tuple #[.slice (some ⟨xG, 0, none⟩) 1 xc, .int .i64 0]), m10_, m12_, (ptup_ ha.out 3 hb_ rfl rfl rfl), fun h0_ => absurd ((hon 8 (by kernel_rfl)).symm.trans h0_) (by decide), Q_VQ, Q_X8_, fun _ => rfl, off_ (hoff 10 (by kernel_rfl)), off_ (hoff 12 (by kernel_rfl))⟩
  refine steps_cons ?_ ?_
  ·rintro b a w' ⟨xG, xc, xD, xd, xO, xo, m8_, m9_, m10_, m12_, ha, Q_VB, Q_VQ, Q_X8_, Q_X9_, Q_X10_, Q_X12_⟩ hb_ hon hoff
   refine ⟨_, rfl, fun K hK => ?_⟩
   have e11 : a.tmps[11]? = some (m9_) := pton_ ha 3 rfl rfl (hon 9 (by kernel_rfl)) rfl
   rw [Q_X9_ (hon 9 (by kernel_rfl))] at e11
   replace ha := Aside0.mk ha
   have VQ := Aside0.mk (Q_VQ (hon 8 (by kernel_rfl)))
   refine value_ (w1 := w') (v := .slice (some ⟨xG, 0, none⟩) 1 xc) (by rfl) rfl ?_ ?_
   ·go_simp
    (try simp only [i64_w])
    try rfl
   refine hK.out _ _ ⟨xG, xc, xD, xd, xO, xo, m8_, m9_, (.slice (some ⟨xG, 0, none⟩) 1 xc), m12_, (ptup_ ha.out 4 hb_ rfl rfl rfl), fun h0_ => absurd ((hon 8 (by kernel_rfl)).symm.trans h0_) (by decide), Q_VQ, Q_X8_, Q_X9_, fun _ => rfl, off_ (hoff 12 (by kernel_rfl))⟩
  refine steps_cons ?_ ?_
  ·rintro b a w' ⟨xG, xc, xD, xd, xO, xo, m8_, m9_, m10_, m12_, ha, Q_VB, Q_VQ, Q_X8_, Q_X9_, Q_X10_, Q_X12_⟩ hb_ hon hoff
   refine ⟨_, rfl, fun K hK => ?_⟩
   have e11 : a.tmps[11]? = some (m9_) := pton_ ha 3 rfl rfl (hon 9 (by kernel_rfl)) rfl
   rw [Q_X9_ (hon 9 (by kernel_rfl))] at e11
   replace ha := Aside0.mk ha
   have VQ := Aside0.mk (Q_VQ (hon 8 (by kernel_rfl)))
   refine value_ (w1 := w') (v := .int .i64 0) (by rfl) rfl ?_ ?_
   ·go_simp
    (try simp only [i64_w])
    try rfl
   refine hK.out _ _ ⟨xG, xc, xD, xd, xO, xo, m8_, m9_, m10_, m12_, (ptup_ ha.out 5 hb_ rfl rfl rfl), fun h0_ => absurd ((hon 8 (by kernel_rfl)).symm.trans h0_) (by decide), Q_VQ, Q_X8_, Q_X9_, Q_X10_, Q_X12_⟩
  refine steps_cons ?_ ?_
  ·rintro b a w' ⟨xG, xc, xD, xd, xO, xo, m8_, m9_, m10_, m12_, ha, Q_VB, Q_VQ, Q_X8_, Q_X9_, Q_X10_, Q_X12_⟩ hb_ hon hoff
   refine ⟨_, rfl, fun K hK => ?_⟩
   have e21 : a.tmps[21]? = some (m10_) := pton_ ha 4 rfl rfl (hon 10 (by kernel_rfl)) rfl
   rw [Q_X10_ (hon 10 (by kernel_rfl))] at e21
   replace ha := Aside0.mk ha
   have VQ := Aside0.mk (Q_VQ (hon 8 (by kernel_rfl)))
   refine value_ (w1 := w') (v := .slice (some ⟨xG, 0, none⟩) 1 xc) (by rfl) rfl ?_ ?_
   ·go_simp
    (try simp only [i64_w])
    try rfl
   refine hK.out _ _ ⟨xG, xc, xD, xd, xO, xo, m8_, m9_, m10_, (.slice (some ⟨xG, 0, none⟩) 1 xc), (ptup_ ha.out 6 hb_ rfl rfl rfl), fun h0_ => absurd ((hon 8 (by kernel_rfl)).symm.trans h0_) (by decide), Q_VQ, Q_X8_, Q_X9_, Q_X10_, fun _ => rfl⟩
  refine steps_cons ?_ ?_
  ·rintro b a w' ⟨xG, xc, xD, xd, xO, xo, m8_, m9_, m10_, m12_, ha, Q_VB, Q_VQ, Q_X8_, Q_X9_, Q_X10_, Q_X12_⟩ hb_ hon hoff
   refine ⟨_, rfl, fun K hK => ?_⟩
   have e22 : a.tmps[22]? = some (.int .i64 0) := pton_ ha 5 rfl rfl (hon 11 (by kernel_rfl)) rfl
   replace ha := Aside0.mk ha
   have VQ := Aside0.mk (Q_VQ (hon 8 (by kernel_rfl)))
   refine value_ (w1 := w') (v := .int .i64 0) (by rfl) rfl ?_ ?_
   ·go_simp
    (try simp only [i64_w])
    try rfl
   refine hK.out _ _ ⟨xG, xc, xD, xd, xO, xo, m8_, m9_, m10_, m12_, (ptup_ ha.out 7 hb_ rfl rfl rfl), fun h0_ => absurd ((hon 8 (by kernel_rfl)).symm.trans h0_) (by decide), Q_VQ, Q_X8_, Q_X9_, Q_X10_, Q_X12_⟩
  exact steps_nil
 ·rintro b a w' hall ⟨xG, xc, xD, xd, xO, xo, m8_, m9_, m10_, m12_, ha, Q_VB, Q_VQ, Q_X8_, Q_X9_, Q_X10_, Q_X12_⟩
  clear VB
  have hb3_ := hall 3 (by kernel_rfl)
  have hb7_ := hall 7 (by kernel_rfl)
  have hb8_ := hall 8 (by kernel_rfl)
  have hb9_ := hall 9 (by kernel_rfl)
  have hb10_ := hall 10 (by kernel_rfl)
  have hb11_ := hall 11 (by kernel_rfl)
  have hb12_ := hall 12 (by kernel_rfl)
  have hb13_ := hall 13 (by kernel_rfl)
  subst ha
  obtain rfl := Q_X8_ hb8_
  obtain rfl := Q_X9_ hb9_
  obtain rfl := Q_X10_ hb10_
  obtain rfl := Q_X12_ hb12_
  simp only [putSel, hb3_, hb7_, hb8_, hb9_, hb10_, hb11_, hb12_, hb13_, if_true, Act.put, List.setIfInBounds_toArray, List.set_cons_zero, List.set_cons_succ]
  clear Q_VB
  have VQ := Aside0.mk (Q_VQ hb8_)
  clear Q_VQ
  clear hall hb3_ hb7_ hb8_ hb9_ hb10_ hb11_ hb12_ hb13_
  clear HVz HTz HKz
  have H1 := Lib.hid (show Below w.heap.size w w' ∧ w.heap.size ≤ xG ∧ w.heap.size ≤ xD.block ∧ w.heap.size ≤ xO.block from ⟨bl_seq DZ.out VQ.out.1, Nat.le_trans DZ.out.size VQ.out.2.2.2.2.2.1, Nat.le_trans DZ.out.size VQ.out.2.2.2.2.2.2.1, Nat.le_trans DZ.out.size VQ.out.2.2.2.2.2.2.2⟩)
  have HG1 := Lib.hid (show w'.cell? ⟨xG, 0, none⟩ = some (.slice (some xD) 256 xd) ∧ w'.cell? ⟨xG, 1, none⟩ = some (.slice (some xO) 64 xo) ∧ ReadsInt w' .u8 (some xD) 256 (tbD T) ∧ ReadsInt w' .u8 (some xO) 64 (tbO T) from ⟨VQ.out.2.1, VQ.out.2.2.1, VQ.out.2.2.2.1, VQ.out.2.2.2.2.1⟩)
  have HV1 := Lib.hid (blk_below HV.out H1.out.1)
  have HA1 := Lib.hid (HA.out.below H1.out.1)
  clear VQ DZ HV HA HT
  generalize w' = w1 at H1 HG1 HV1 HA1 ⊢
  go_wp2_with fail
  refine start_ (n := 11) (S := fun w' => True) (ds := []) _ (by kernel_rfl) rfl rfl trivial (fun hHeld => ?_)
  refine with_tabW TpB.tab4 TpB.bits4 (fun HT_ HW_ => ?_)
  have HVz := Lib.hid (show w1.drew.heap[vp]? = _ from HV1.out)
  have HAz := Lib.hid (HA1.out.below (show Below w1.heap.size w1 w1.drew from bl_drew (Below.refl _ _)))
  have HFz := Lib.hid (show ar.Fix ∧ (∀ k, ok k → ¬ ar.M k) ∧ ∀ k, w1.drew.heap.size ≤ k → ok k from ⟨HF.out.1, HF.out.2.1, fun k hk => HF.out.2.2 k (Nat.le_trans H1.out.1.size hk)⟩)
  have DZ := Lib.hid (show Mods ar.M w1 w1.drew from (Mods.refl _ w1).drewN 1)
  generalize w1.drew = wz at HVz HAz HFz DZ hHeld ⊢
  have VB := Lib.hid (Below.refl wz.heap.size wz)
  refine pur_ 0 (some 26) HT_.out rfl rfl (by kernel_rfl) (fun _ _ _ h => h) (by rfl) (fun w' => by go_simp; with_reducible rfl) (by simp only [Act.put, List.setIfInBounds_toArray, List.set_cons_zero, List.set_cons_succ, i64_w, i32_w]; rfl) ?_
  refine pur_ 1 (some 27) HT_.out rfl rfl (by kernel_rfl) (fun _ _ _ h => h) (by rfl) (fun w' => by go_simp; with_reducible rfl) (by simp only [Act.put, List.setIfInBounds_toArray, List.set_cons_zero, List.set_cons_succ, i64_w, i32_w]; rfl) ?_
  refine pur_ 2 (some 28) HT_.out rfl rfl (by kernel_rfl) (fun _ _ _ h => h) (by rfl) (fun w' => by go_simp; with_reducible rfl) (by simp only [Act.put, List.setIfInBounds_toArray, List.set_cons_zero, List.set_cons_succ, i64_w, i32_w]; rfl) ?_
  refine pur_ 4 (some 30) HT_.out rfl rfl (by kernel_rfl) (fun _ _ _ h => h) (by rfl) (fun w' => by go_simp; with_reducible rfl) (by simp only [Act.put, List.setIfInBounds_toArray, List.set_cons_zero, List.set_cons_succ, i64_w, i32_w]; rfl) ?_
  refine pur_ 5 (some 31) HT_.out rfl rfl (by kernel_rfl) (fun _ _ _ h => h) (by rfl) (fun w' => by go_simp; with_reducible rfl) (by simp only [Act.put, List.setIfInBounds_toArray, List.set_cons_zero, List.set_cons_succ, i64_w, i32_w]; rfl) ?_
  refine pur_ 6 (some 32) HT_.out rfl rfl (by kernel_rfl) (fun _ _ _ h => h) (by rfl) (fun w' => by go_simp; with_reducible rfl) (by simp only [Act.put, List.setIfInBounds_toArray, List.set_cons_zero, List.set_cons_succ, i64_w, i32_w]; rfl) ?_
  refine pur_ 8 (some 34) HT_.out rfl rfl (by kernel_rfl) (fun _ _ _ h => h) (by rfl) (fun w' => by go_simp; with_reducible rfl) (by simp only [Act.put, List.setIfInBounds_toArray, List.set_cons_zero, List.set_cons_succ, i64_w, i32_w]; rfl) ?_
  refine inv_at [3, 7, 9, 10] (fun a0_ b a w' => a = putSel a0_ b [(3, 29, .pointer (some ⟨ar.p, 0, none⟩)), (7, 33, .int .i64 0), (9, 35, .int .i64 (eraseS ar s kb).2), (10, 7, .int .i64 (eraseS ar s kb).2)] ∧ (b 9 = false → Below wz.heap.size wz w') ∧ (b 9 = true → Arr w' ar ok (eraseS ar s kb).1 ∧ Mods ar.M wz w')) HT_.out HW_.out (by kernel_rfl) (by kernel_rfl) ?_ ?_ ?_
  ·exact ⟨by simp only [putSel, Bool.false_eq_true, if_false], fun _ => VB.out, fun h_ => absurd h_ (by decide)⟩
  ·skip
   clear VB
   refine steps_cons ?_ ?_
   ·rintro b a w' ⟨ha, Q_VB, Q_VQ⟩ hb_ hon hoff
    refine ⟨_, rfl, fun K hK => ?_⟩
    have e28 : a.tmps[28]? = some (.pointer (some ⟨vp, 0, none⟩)) := by rw [ha]; exact (putSel_off rfl).trans rfl
    replace ha := Aside0.mk ha
    have VB := Aside0.mk (Q_VB (hoff 9 (by kernel_rfl)))
    have hc0_ : w'.cell? ⟨vp, 0, none⟩ = some (.pointer (some ⟨ar.p, 0, none⟩)) := (blk_cell (blk_below HVz.out VB.out) 0).trans rfl
    refine value_ (w1 := w') (v := .pointer (some ⟨ar.p, 0, none⟩)) (by rfl) rfl ?_ ?_
    ·go_simp
     (try simp only [i64_w])
     try rfl
    refine hK.out _ _ ⟨(ptup_ ha.out 0 hb_ rfl rfl rfl), Q_VB, off_ (hoff 9 (by kernel_rfl))⟩
   refine steps_cons ?_ ?_
   ·rintro b a w' ⟨ha, Q_VB, Q_VQ⟩ hb_ hon hoff
    refine ⟨_, rfl, fun K hK => ?_⟩
    have e32 : a.tmps[32]? = some (.pointer (some ⟨vp, 1, none⟩)) := by rw [ha]; exact (putSel_off rfl).trans rfl
    replace ha := Aside0.mk ha
    have VB := Aside0.mk (Q_VB (hoff 9 (by kernel_rfl)))
    have hc1_ : w'.cell? ⟨vp, 1, none⟩ = some (.int .i64 0) := (blk_cell (blk_below HVz.out VB.out) 1).trans rfl
    refine value_ (w1 := w') (v := .int .i64 0) (by rfl) rfl ?_ ?_
    ·go_simp
     (try simp only [i64_w])
     try rfl
    refine hK.out _ _ ⟨(ptup_ ha.out 1 hb_ rfl rfl rfl), Q_VB, off_ (hoff 9 (by kernel_rfl))⟩
   refine steps_cons ?_ ?_
   ·rintro b a w' ⟨ha, Q_VB, Q_VQ⟩ hb_ hon hoff
    refine ⟨_, rfl, fun K hK => ?_⟩
    have e29 : a.tmps[29]? = some (.pointer (some ⟨ar.p, 0, none⟩)) := pton_ ha 0 rfl rfl (hon 3 (by kernel_rfl)) rfl
    have e33 : a.tmps[33]? = some (.int .i64 0) := pton_ ha 1 rfl rfl (hon 7 (by kernel_rfl)) rfl
    have e34 : a.tmps[34]? = some (.int .i64 (kb : Int)) := by rw [ha]; exact (putSel_off rfl).trans rfl
    replace ha := Aside0.mk ha
    have VB := Aside0.mk (Q_VB hb_)
    refine goes_ Try.func36 (by kernel_rfl) rfl #[.pointer (some ⟨ar.p, 0, none⟩), .int .i64 0, .int .i64 (kb : Int)] (by rfl) rfl rfl (by first | (simp only [List.map_toArray, List.map_cons, List.map_nil, Act.eval, Array.getD_eq_getD_getElem?, Option.getD_some, e29, e33, e34]; done) | (simp only [List.map_toArray, List.map_cons, List.map_nil, Act.eval, Array.getD_eq_getD_getElem?, Option.getD_some, e29, e33, e34]; rfl)) ?_
    refine (nerase_any ar ok s kb w' HFz.out.1 HFz.out.2.1 (fun k hk => HFz.out.2.2 k (Nat.le_trans VB.out.size hk)) (HAz.out.below VB.out) hb h0 (by omega)).mono ?_
    rintro e w1 ⟨rfl, q1, q2⟩
    refine ⟨_, rfl, ?_⟩
    refine hK.out _ _ ⟨(ptup_ ha.out 2 hb_ rfl rfl rfl), fun h0_ => absurd ((up_self b 9).symm.trans h0_) (by decide), fun _ => ⟨q1, (Mods.of_below VB.out).trans q2⟩⟩
   refine steps_cons ?_ ?_
   ·rintro b a w' ⟨ha, Q_VB, Q_VQ⟩ hb_ hon hoff
    refine ⟨_, rfl, fun K hK => ?_⟩
    have e35 : a.tmps[35]? = some (.int .i64 (eraseS ar s kb).2) := pton_ ha 2 rfl rfl (hon 9 (by kernel_rfl)) rfl
    replace ha := Aside0.mk ha
    have VQ := Aside0.mk (Q_VQ (hon 9 (by kernel_rfl)))
    refine value_ (w1 := w') (v := .int .i64 (eraseS ar s kb).2) (by rfl) rfl ?_ ?_
    ·go_simp
     (try simp only [i64_w])
     try rfl
    refine hK.out _ _ ⟨(ptup_ ha.out 3 hb_ rfl rfl rfl), fun h0_ => absurd ((hon 9 (by kernel_rfl)).symm.trans h0_) (by decide), Q_VQ⟩
   exact steps_nil
  ·rintro b a w' hall ⟨ha, Q_VB, Q_VQ⟩
   clear VB
   have hb3_ := hall 3 (by kernel_rfl)
   have hb7_ := hall 7 (by kernel_rfl)
   have hb9_ := hall 9 (by kernel_rfl)
   have hb10_ := hall 10 (by kernel_rfl)
   subst ha
   simp only [putSel, hb3_, hb7_, hb9_, hb10_, if_true, Act.put, List.setIfInBounds_toArray, List.set_cons_zero, List.set_cons_succ]
   clear Q_VB
   have VQ := Aside0.mk (Q_VQ hb9_)
   clear Q_VQ
   clear hall hb3_ hb7_ hb9_ hb10_
   clear HVz HFz HAz
   have HQ := Lib.hid (show Arr w' ar ok (eraseS ar s kb).1 ∧ Mods ar.M w w' from ⟨VQ.out.1, (Mods.of_below H1.out.1).trans (DZ.out.trans VQ.out.2)⟩)
   have HV3 := Lib.hid ((show Mods ar.M w1 w' from DZ.out.trans VQ.out.2).blk HV1.out HNV.out.2)
   have HXM := Lib.hid (show ∀ k, w.heap.size ≤ k → ¬ ar.M k from fun k hk hm => Nat.not_le.2 (HM.out k hm) hk)
   have HR3 := Lib.hid (show w'.cell? ⟨xG, 0, none⟩ = some (.slice (some xD) 256 xd) ∧ w'.cell? ⟨xG, 1, none⟩ = some (.slice (some xO) 64 xo) ∧ ReadsInt w' .u8 (some xD) 256 (tbD T) ∧ ReadsInt w' .u8 (some xO) 64 (tbO T) from by
    have hm := DZ.out.trans VQ.out.2
    have hG := HXM.out _ H1.out.2.1
    exact ⟨hm.cell HG1.out.1 hG, hm.cell HG1.out.2.1 hG, hm.reads HG1.out.2.2.1 (fun x hx => by obtain rfl := Option.some.inj hx; exact HXM.out _ H1.out.2.2.1), hm.reads HG1.out.2.2.2 (fun x hx => by obtain rfl := Option.some.inj hx; exact HXM.out _ H1.out.2.2.2)⟩)
   clear VQ DZ HV1 HA1 HG1
   generalize w' = w2 at HQ HV3 HR3 ⊢
   obtain ⟨s1, hs1⟩ : ∃ s1, (eraseS ar s kb).1 = s1 := ⟨_, rfl⟩
   obtain ⟨e1, he1⟩ : ∃ e1, (eraseS ar s kb).2 = e1 := ⟨_, rfl⟩
   have HL := Lib.hid (show layS ar s kb T = if e1 = 0 then progS ar s1 kb 0 (tbD T, tbO T) else (s1, e1) by unfold layS; rw [he1, hs1, ← he1, ← hs1])
   rw [hs1] at HQ HOP
   rw [he1]
   clear hs1 he1
   by_cases hz : e1 = 0
   ·subst hz
    have y1 : w2.cell? ⟨xG, 0, none⟩ = some (.slice (some xD) 256 xd) := HR3.out.1
    have y2 : w2.cell? ⟨xG, 1, none⟩ = some (.slice (some xO) 64 xo) := HR3.out.2.1
    go_wp2_with fail
    go_loopw [41] (fun i wr => (i = .int .i64 0 ∧ wr = w2) ∨ (i = .int .i64 1 ∧ (progS ar s1 kb 0 (tbD T, tbO T)).2 = 0 ∧ Hid (Arr wr ar ok (progS ar s1 kb 0 (tbD T, tbO T)).1 ∧ Mods ar.M w wr))) (fun i _ => 1 - (intOf i).toNat)
    case atStart => exact .inl ⟨rfl, rfl⟩
    case round =>
     rcases hrel with ⟨rfl, rfl⟩ | ⟨rfl, hp0, HX⟩
     ·go_wp2_with fail
      have hg3 := heap_alloc_new wr (.cells #[.slice (some xD) 256 xd, .slice (some xO) 64 xo] 131)
      have hb3 : Below wr.heap.size wr (wr.alloc (.cells #[.slice (some xD) 256 xd, .slice (some xO) 64 xo] 131)) := bl_alloc (Below.refl _ _) _
      obtain ⟨w3, hw3⟩ : ∃ w3, wr.alloc (.cells #[.slice (some xD) 256 xd, .slice (some xO) 64 xo] 131) = w3 := ⟨_, rfl⟩
      obtain ⟨g9, hg9⟩ : ∃ g9, wr.heap.size = g9 := ⟨_, rfl⟩
      rw [hw3] at hg3 hb3 ⊢
      rw [hg9] at hg3 ⊢
      have HG3 := Lib.hid hg3
      have HA3 := Lib.hid (HQ.out.1.below hb3)
      have HV4 := Lib.hid (blk_below HV3.out hb3)
      have HR4 := Lib.hid (show ReadsInt w3 .u8 (some xD) 256 (tbD T) ∧ ReadsInt w3 .u8 (some xO) 64 (tbO T) ∧ ¬ ar.M xD.block ∧ ¬ ar.M xO.block ∧ Byt (tbD T) ∧ Byt (tbO T) from ⟨HR3.out.2.2.1.below hb3, HR3.out.2.2.2.below hb3, HXM.out _ H1.out.2.2.1, HXM.out _ H1.out.2.2.2, HDO.out.1, HDO.out.2⟩)
      have HM3 := Lib.hid (show Mods ar.M w w3 from HQ.out.2.trans (Mods.of_below hb3))
      have HS1 := Lib.hid (show 0 ≤ s1.ops ∧ s1.ops ≤ 1000000 from ⟨by have h_ := HOP.out.1; omega, by have h_ := HOP.out.2; omega⟩)
      clear hg3 hb3 hw3 hg9 y1 y2 HQ HV3 HR3
      refine start_ (n := 16) (S := fun w' => True) (ds := []) _ (by kernel_rfl) rfl rfl trivial (fun hHeld => ?_)
      refine with_tabW TpC.tab10 TpC.bits10 (fun HT_ HW_ => ?_)
      have HVz := Lib.hid (show w3.drew.heap[vp]? = _ from HV4.out)
      have HGz := Lib.hid (show w3.drew.heap[g9]? = _ from HG3.out)
      have HAz := Lib.hid (HA3.out.below (show Below w3.heap.size w3 w3.drew from bl_drew (Below.refl _ _)))
      have HFz := Lib.hid (show ar.Fix ∧ (∀ k, ok k → ¬ ar.M k) ∧ ∀ k, w3.drew.heap.size ≤ k → ok k from ⟨HF.out.1, HF.out.2.1, fun k hk => HF.out.2.2 k (Nat.le_trans HM3.out.size hk)⟩)
      have HRz := Lib.hid (show ReadsInt w3.drew .u8 (some xD) 256 (tbD T) ∧ ReadsInt w3.drew .u8 (some xO) 64 (tbO T) ∧ ¬ ar.M xD.block ∧ ¬ ar.M xO.block ∧ Byt (tbD T) ∧ Byt (tbO T) from ⟨HR4.out.1.below (bl_drew (Below.refl _ _)), HR4.out.2.1.below (bl_drew (Below.refl _ _)), HR4.out.2.2⟩)
      have DZ := Lib.hid (show Mods ar.M w3 w3.drew from (Mods.refl _ w3).drewN 1)
      generalize w3.drew = wz at HVz HGz HAz HFz HRz DZ hHeld ⊢
      have VB := Lib.hid (Below.refl wz.heap.size wz)
      refine pur_ 0 (some 46) HT_.out rfl rfl (by kernel_rfl) (fun _ _ _ h => h) (by rfl) (fun w' => by go_simp; with_reducible rfl) (by simp only [Act.put, List.setIfInBounds_toArray, List.set_cons_zero, List.set_cons_succ, i64_w, i32_w]; rfl) ?_
      refine pur_ 1 (some 47) HT_.out rfl rfl (by kernel_rfl) (fun _ _ _ h => h) (by rfl) (fun w' => by go_simp; with_reducible rfl) (by simp only [Act.put, List.setIfInBounds_toArray, List.set_cons_zero, List.set_cons_succ, i64_w, i32_w]; rfl) ?_
      refine pur_ 2 (some 48) HT_.out rfl rfl (by kernel_rfl) (fun _ _ _ h => h) (by rfl) (fun w' => by go_simp; with_reducible rfl) (by simp only [Act.put, List.setIfInBounds_toArray, List.set_cons_zero, List.set_cons_succ, i64_w, i32_w]; rfl) ?_
      refine pur_ 4 (some 50) HT_.out rfl rfl (by kernel_rfl) (fun _ _ _ h => h) (by rfl) (fun w' => by go_simp; with_reducible rfl) (by simp only [Act.put, List.setIfInBounds_toArray, List.set_cons_zero, List.set_cons_succ, i64_w, i32_w]; rfl) ?_
      refine pur_ 5 (some 51) HT_.out rfl rfl (by kernel_rfl) (fun _ _ _ h => h) (by rfl) (fun w' => by go_simp; with_reducible rfl) (by simp only [Act.put, List.setIfInBounds_toArray, List.set_cons_zero, List.set_cons_succ, i64_w, i32_w]; rfl) ?_
      refine pur_ 6 (some 52) HT_.out rfl rfl (by kernel_rfl) (fun _ _ _ h => h) (by rfl) (fun w' => by go_simp; with_reducible rfl) (by simp only [Act.put, List.setIfInBounds_toArray, List.set_cons_zero, List.set_cons_succ, i64_w, i32_w]; rfl) ?_
      refine pur_ 8 (some 54) HT_.out rfl rfl (by kernel_rfl) (fun _ _ _ h => h) (by rfl) (fun w' => by go_simp; with_reducible rfl) (by simp only [Act.put, List.setIfInBounds_toArray, List.set_cons_zero, List.set_cons_succ, i64_w, i32_w]; rfl) ?_
      refine pur_ 9 (some 55) HT_.out rfl rfl (by kernel_rfl) (fun _ _ _ h => h) (by rfl) (fun w' => by go_simp; with_reducible rfl) (by simp only [Act.put, List.setIfInBounds_toArray, List.set_cons_zero, List.set_cons_succ, i64_w, i32_w]; rfl) ?_
      refine pur_ 10 (some 56) HT_.out rfl rfl (by kernel_rfl) (fun _ _ _ h => h) (by rfl) (fun w' => by go_simp; with_reducible rfl) (by simp only [Act.put, List.setIfInBounds_toArray, List.set_cons_zero, List.set_cons_succ, i64_w, i32_w]; rfl) ?_
      refine pur_ 12 (some 58) HT_.out rfl rfl (by kernel_rfl) (fun _ _ _ h => h) (by rfl) (fun w' => by go_simp; with_reducible rfl) (by simp only [Act.put, List.setIfInBounds_toArray, List.set_cons_zero, List.set_cons_succ, i64_w, i32_w]; rfl) ?_
      refine inv_at [3, 7, 11, 13, 14, 15] (fun a0_ b a w' => a = putSel a0_ b [(3, 49, .pointer (some ⟨ar.p, 0, none⟩)), (7, 53, .int .i64 0), (11, 57, .slice (some xD) 256 xd), (13, 59, .slice (some xO) 64 xo), (14, 60, .int .i64 (progS ar s1 kb 0 (tbD T, tbO T)).2), (15, 10, .int .i64 (progS ar s1 kb 0 (tbD T, tbO T)).2)] ∧ (b 14 = false → Below wz.heap.size wz w') ∧ (b 14 = true → Arr w' ar ok (progS ar s1 kb 0 (tbD T, tbO T)).1 ∧ Mods ar.M wz w')) HT_.out HW_.out (by kernel_rfl) (by kernel_rfl) ?_ ?_ ?_
      ·exact ⟨by simp only [putSel, Bool.false_eq_true, if_false], fun _ => VB.out, fun h_ => absurd h_ (by decide)⟩
      ·skip
       clear VB
       refine steps_cons ?_ ?_
       ·rintro b a w' ⟨ha, Q_VB, Q_VQ⟩ hb_ hon hoff
        refine ⟨_, rfl, fun K hK => ?_⟩
        have e48 : a.tmps[48]? = some (.pointer (some ⟨vp, 0, none⟩)) := by rw [ha]; exact (putSel_off rfl).trans rfl
        replace ha := Aside0.mk ha
        have VB := Aside0.mk (Q_VB (hoff 14 (by kernel_rfl)))
        have hc0_ : w'.cell? ⟨vp, 0, none⟩ = some (.pointer (some ⟨ar.p, 0, none⟩)) := (blk_cell (blk_below HVz.out VB.out) 0).trans rfl
        refine value_ (w1 := w') (v := .pointer (some ⟨ar.p, 0, none⟩)) (by rfl) rfl ?_ ?_
        ·go_simp
         (try simp only [i64_w])
         try rfl
        refine hK.out _ _ ⟨(ptup_ ha.out 0 hb_ rfl rfl rfl), Q_VB, off_ (hoff 14 (by kernel_rfl))⟩
       refine steps_cons ?_ ?_
       ·rintro b a w' ⟨ha, Q_VB, Q_VQ⟩ hb_ hon hoff
        refine ⟨_, rfl, fun K hK => ?_⟩
        have e52 : a.tmps[52]? = some (.pointer (some ⟨vp, 1, none⟩)) := by rw [ha]; exact (putSel_off rfl).trans rfl
        replace ha := Aside0.mk ha
        have VB := Aside0.mk (Q_VB (hoff 14 (by kernel_rfl)))
        have hc1_ : w'.cell? ⟨vp, 1, none⟩ = some (.int .i64 0) := (blk_cell (blk_below HVz.out VB.out) 1).trans rfl
        refine value_ (w1 := w') (v := .int .i64 0) (by rfl) rfl ?_ ?_
        ·go_simp
         (try simp only [i64_w])
         try rfl
        refine hK.out _ _ ⟨(ptup_ ha.out 1 hb_ rfl rfl rfl), Q_VB, off_ (hoff 14 (by kernel_rfl))⟩
       refine steps_cons ?_ ?_
       ·rintro b a w' ⟨ha, Q_VB, Q_VQ⟩ hb_ hon hoff
        refine ⟨_, rfl, fun K hK => ?_⟩
        have e56 : a.tmps[56]? = some (.pointer (some ⟨g9, 0, none⟩)) := by rw [ha]; exact (putSel_off rfl).trans rfl
        replace ha := Aside0.mk ha
        have VB := Aside0.mk (Q_VB (hoff 14 (by kernel_rfl)))
        have hc0_ : w'.cell? ⟨g9, 0, none⟩ = some (.slice (some xD) 256 xd) := (blk_cell (blk_below HGz.out VB.out) 0).trans rfl
        refine value_ (w1 := w') (v := .slice (some xD) 256 xd) (by rfl) rfl ?_ ?_
        ·go_simp
         (try simp only [i64_w])
         try rfl
        refine hK.out _ _ ⟨(ptup_ ha.out 2 hb_ rfl rfl rfl), Q_VB, off_ (hoff 14 (by kernel_rfl))⟩
       refine steps_cons ?_ ?_
       ·rintro b a w' ⟨ha, Q_VB, Q_VQ⟩ hb_ hon hoff
        refine ⟨_, rfl, fun K hK => ?_⟩
        have e58 : a.tmps[58]? = some (.pointer (some ⟨g9, 1, none⟩)) := by rw [ha]; exact (putSel_off rfl).trans rfl
        replace ha := Aside0.mk ha
        have VB := Aside0.mk (Q_VB (hoff 14 (by kernel_rfl)))
        have hc1_ : w'.cell? ⟨g9, 1, none⟩ = some (.slice (some xO) 64 xo) := (blk_cell (blk_below HGz.out VB.out) 1).trans rfl
        refine value_ (w1 := w') (v := .slice (some xO) 64 xo) (by rfl) rfl ?_ ?_
        ·go_simp
         (try simp only [i64_w])
         try rfl
        refine hK.out _ _ ⟨(ptup_ ha.out 3 hb_ rfl rfl rfl), Q_VB, off_ (hoff 14 (by kernel_rfl))⟩
       refine steps_cons ?_ ?_
       ·rintro b a w' ⟨ha, Q_VB, Q_VQ⟩ hb_ hon hoff
        refine ⟨_, rfl, fun K hK => ?_⟩
        have e49 : a.tmps[49]? = some (.pointer (some ⟨ar.p, 0, none⟩)) := pton_ ha 0 rfl rfl (hon 3 (by kernel_rfl)) rfl
        have e53 : a.tmps[53]? = some (.int .i64 0) := pton_ ha 1 rfl rfl (hon 7 (by kernel_rfl)) rfl
        have e54 : a.tmps[54]? = some (.int .i64 (kb : Int)) := by rw [ha]; exact (putSel_off rfl).trans rfl
        have e55 : a.tmps[55]? = some (.int .i64 0) := by rw [ha]; exact (putSel_off rfl).trans rfl
        have e57 : a.tmps[57]? = some (.slice (some xD) 256 xd) := pton_ ha 2 rfl rfl (hon 11 (by kernel_rfl)) rfl
        have e59 : a.tmps[59]? = some (.slice (some xO) 64 xo) := pton_ ha 3 rfl rfl (hon 13 (by kernel_rfl)) rfl
        replace ha := Aside0.mk ha
        have VB := Aside0.mk (Q_VB hb_)
        refine goes_ Try.func42 (by kernel_rfl) rfl #[.pointer (some ⟨ar.p, 0, none⟩), .int .i64 0, .int .i64 (kb : Int), .int .i64 0, .slice (some xD) 256 xd, .slice (some xO) 64 xo] (by rfl) rfl rfl (by first | (simp only [List.map_toArray, List.map_cons, List.map_nil, Act.eval, Array.getD_eq_getD_getElem?, Option.getD_some, e49, e53, e54, e55, e57, e59]; done) | (simp only [List.map_toArray, List.map_cons, List.map_nil, Act.eval, Array.getD_eq_getD_getElem?, Option.getD_some, e49, e53, e54, e55, e57, e59]; rfl)) ?_
        refine (nprog_any ar ok s1 kb 0 xD xO xd xo (tbD T) (tbO T) w' HFz.out.1 HFz.out.2.1 (fun k hk => HFz.out.2.2 k (Nat.le_trans VB.out.size hk)) (HAz.out.below VB.out) hb (by decide) HS1.out.1 HS1.out.2 (HRz.out.1.below VB.out) (HRz.out.2.1.below VB.out) HRz.out.2.2.1 HRz.out.2.2.2.1 HRz.out.2.2.2.2.1 HRz.out.2.2.2.2.2).mono ?_
        rintro e w1 ⟨rfl, q1, q2⟩
        refine ⟨_, rfl, ?_⟩
        refine hK.out _ _ ⟨(ptup_ ha.out 4 hb_ rfl rfl rfl), fun h0_ => absurd ((up_self b 14).symm.trans h0_) (by decide), fun _ => ⟨q1, (Mods.of_below VB.out).trans q2⟩⟩
       refine steps_cons ?_ ?_
       ·rintro b a w' ⟨ha, Q_VB, Q_VQ⟩ hb_ hon hoff
        refine ⟨_, rfl, fun K hK => ?_⟩
        have e60 : a.tmps[60]? = some (.int .i64 (progS ar s1 kb 0 (tbD T, tbO T)).2) := pton_ ha 4 rfl rfl (hon 14 (by kernel_rfl)) rfl
        replace ha := Aside0.mk ha
        have VQ := Aside0.mk (Q_VQ (hon 14 (by kernel_rfl)))
        refine value_ (w1 := w') (v := .int .i64 (progS ar s1 kb 0 (tbD T, tbO T)).2) (by rfl) rfl ?_ ?_
        ·go_simp
         (try simp only [i64_w])
         try rfl
        refine hK.out _ _ ⟨(ptup_ ha.out 5 hb_ rfl rfl rfl), fun h0_ => absurd ((hon 14 (by kernel_rfl)).symm.trans h0_) (by decide), Q_VQ⟩
       exact steps_nil
      ·rintro b a w' hall ⟨ha, Q_VB, Q_VQ⟩
       clear VB
       have hb3_ := hall 3 (by kernel_rfl)
       have hb7_ := hall 7 (by kernel_rfl)
       have hb11_ := hall 11 (by kernel_rfl)
       have hb13_ := hall 13 (by kernel_rfl)
       have hb14_ := hall 14 (by kernel_rfl)
       have hb15_ := hall 15 (by kernel_rfl)
       subst ha
       simp only [putSel, hb3_, hb7_, hb11_, hb13_, hb14_, hb15_, if_true, Act.put, List.setIfInBounds_toArray, List.set_cons_zero, List.set_cons_succ]
       clear Q_VB
       have VQ := Aside0.mk (Q_VQ hb14_)
       clear Q_VQ
       clear hall hb3_ hb7_ hb11_ hb13_ hb14_ hb15_
       obtain ⟨e2, he2⟩ : ∃ e2, (progS ar s1 kb 0 (tbD T, tbO T)).2 = e2 := ⟨_, rfl⟩
       have HQ2 := Lib.hid (show Arr w' ar ok (progS ar s1 kb 0 (tbD T, tbO T)).1 ∧ Mods ar.M w w' from ⟨VQ.out.1, HM3.out.trans (DZ.out.trans VQ.out.2)⟩)
       clear VQ DZ HVz HGz HAz HFz HRz HA3 HV4 HR4 HM3 HG3
       rw [he2]
       by_cases hz : e2 = 0
       ·rw [hz] at he2 ⊢
        go_wp2_with fail
        go_roundw
        case rel => exact .inr ⟨rfl, he2, HQ2⟩
        case measure => simp [intOf]
       ·go_wp2_with fail
        go_ret
        rw [HL.out, if_pos trivial]
        exact ⟨by rw [he2]; rfl, HQ2.out.1, HQ2.out.2⟩
     ·go_wp2_with fail
      go_ret
      rw [HL.out, if_pos trivial]
      exact ⟨by rw [hp0]; rfl, HX.out.1, HX.out.2⟩
   ·go_wp2_with fail
    go_ret
    rw [HL.out, if_neg hz]
    exact ⟨rfl, HQ.out.1, HQ.out.2⟩
end Go.Proofs.Ytffalemndjampaa
end
section
set_option linter.unusedVariables false
set_option linter.unusedSimpArgs false
namespace Go.Proofs.Ytffalemndjampaa
open Go.RowKit Go.Proofs.YtffalemndjampaaW.PrintWords Go.Proofs.YtffalemndjampaaW.PrintLast
structure Env (w : World) (ar : Ar) (ok N : Nat → Prop) (vp : Nat) : Prop where
 fix : ar.Fix
 ok_M : ∀ k, ok k → ¬ ar.M k
 ok_n : ∀ k, w.heap.size ≤ k → ok k
 n_M : ∀ k, N k → ¬ ar.M k
 n_v : ∀ k, N k → k ≠ vp
 n_n : ∀ k, w.heap.size ≤ k → N k
 out : ar.Out ok vp
 e_lt : ∀ x, ar.EA = some x → x.block < w.heap.size
 l_lt : ∀ x, ar.LA = some x → 0 < ar.ln → x.block < w.heap.size
theorem Env.later {w w' : World} {ar : Ar} {ok N : Nat → Prop} {vp : Nat} (h : Env w ar ok N vp) (hs : w.heap.size ≤ w'.heap.size) : Env w' ar ok N vp :=
 ⟨h.fix, h.ok_M, fun k hk => h.ok_n k (Nat.le_trans hs hk), h.n_M, h.n_v, fun k hk => h.n_n k (Nat.le_trans hs hk), h.out, fun x hx => Nat.lt_of_lt_of_le (h.e_lt x hx) hs, fun x hx hp => Nat.lt_of_lt_of_le (h.l_lt x hx hp) hs⟩
theorem Env.vM {w : World} {ar : Ar} {ok N : Nat → Prop} {vp : Nat} (h : Env w ar ok N vp) : ¬ ar.M vp := h.out.1
theorem TbOk.take0 {T : Tb} (h : TbOk T) (hs : T.spare ≠ []) : TbOk T.take0 := by
 obtain ⟨seq, pl, sp, t0, t1⟩ := T
 cases sp with
 | nil => exact absurd rfl hs
 | cons x r =>
  obtain ⟨h1, h2, h3, h4⟩ := h
  simp only [Tb.all] at h1 h2
  refine ⟨?_, ?_, h3, h4⟩
  ·simp only [Tb.all, Tb.take0, Tb.rest, List.drop_one, List.tail_cons, List.getD_cons_zero]
   have hp : (pl ++ (r ++ [x, t1])).Perm (pl ++ ((x :: r) ++ [t1])) := by
    refine List.Perm.append_left pl ?_
    have e : r ++ [x, t1] = r ++ [x] ++ [t1] := by simp
    rw [e]
    exact List.Perm.append_right _ (List.perm_append_singleton x r)
   rw [hp.nodup_iff]
   refine List.Sublist.nodup ?_ h1
   exact List.Sublist.append_left (List.Sublist.append_left (List.Sublist.cons _ (List.Sublist.refl _)) _) _
  ·intro y hy
   simp only [Tb.all, Tb.take0, Tb.rest, List.drop_one, List.tail_cons, List.getD_cons_zero, List.mem_append, List.mem_cons, List.not_mem_nil, or_false] at hy
   refine h2 y ?_
   simp only [List.mem_append, List.mem_cons, List.not_mem_nil, or_false]
   rcases hy with h | h | h | h <;> simp [h]
theorem TbOk.take1 {T : Tb} (h : TbOk T) (hs : T.spare ≠ []) : TbOk T.take1 := by
 obtain ⟨seq, pl, sp, t0, t1⟩ := T
 cases sp with
 | nil => exact absurd rfl hs
 | cons x r =>
  obtain ⟨h1, h2, h3, h4⟩ := h
  simp only [Tb.all] at h1 h2
  refine ⟨?_, ?_, h3, h4⟩
  ·simp only [Tb.all, Tb.take1, Tb.rest, List.drop_one, List.tail_cons, List.getD_cons_zero]
   have hp : (pl ++ (r ++ [t0, x])).Perm (pl ++ ((x :: r) ++ [t0])) := by
    refine List.Perm.append_left pl ?_
    have e : r ++ [t0, x] = r ++ [t0] ++ [x] := by simp
    rw [e]
    exact List.perm_append_singleton x (r ++ [t0])
   rw [hp.nodup_iff]
   refine List.Sublist.nodup ?_ h1
   exact List.Sublist.append_left (List.Sublist.append_left (List.sublist_append_left [t0] [t1]) (x :: r)) pl
  ·intro y hy
   simp only [Tb.all, Tb.take1, Tb.rest, List.drop_one, List.tail_cons, List.getD_cons_zero, List.mem_append, List.mem_cons, List.not_mem_nil, or_false] at hy
   refine h2 y ?_
   simp only [List.mem_append, List.mem_cons, List.not_mem_nil, or_false]
   rcases hy with h | h | h | h <;> simp [h]
theorem TbOk.takeV {T : Tb} (h : TbOk T) (hs : T.spare ≠ []) (v : Nat) (hv : v < T.place.length) : TbOk (T.takeV v) := by
 obtain ⟨seq, pl, sp, t0, t1⟩ := T
 cases sp with
 | nil => exact absurd rfl hs
 | cons x r =>
  obtain ⟨h1, h2, h3, h4⟩ := h
  simp only [Tb.all] at h1 h2
  simp only at hv
  have hsub : (pl.set v x ++ (r ++ [t0, t1])).Perm (pl.take v ++ pl.drop (v + 1) ++ ((x :: r) ++ [t0, t1])) := by
   rw [List.set_eq_take_append_cons_drop, if_pos hv, List.append_assoc, List.append_assoc]
   refine List.Perm.append_left _ ?_
   rw [List.cons_append]
   have e : pl.drop (v + 1) ++ ((x :: r) ++ [t0, t1]) = pl.drop (v + 1) ++ x :: (r ++ [t0, t1]) := by simp
   rw [e]
   exact List.perm_middle.symm
  refine ⟨?_, ?_, h3, h4⟩
  ·simp only [Tb.all, Tb.takeV, Tb.rest, List.drop_one, List.tail_cons, List.getD_cons_zero]
   rw [hsub.nodup_iff]
   refine List.Sublist.nodup ?_ h1
   refine List.Sublist.append_right ?_ _
   conv => rhs; rw [← List.take_append_drop v pl]
   exact List.Sublist.append_left (by rw [← List.drop_drop]; exact List.drop_sublist 1 _) _
  ·intro y hy
   simp only [Tb.all, Tb.takeV, Tb.rest, List.drop_one, List.tail_cons, List.getD_cons_zero] at hy
   have h5 := hsub.mem_iff.1 hy
   refine h2 y ?_
   simp only [List.mem_append, List.mem_cons, List.not_mem_nil, or_false] at h5 ⊢
   rcases h5 with (h6 | h6) | h6
   ·exact .inl (List.mem_of_mem_take h6)
   ·exact .inl (List.mem_of_mem_drop h6)
   ·exact .inr h6
def Tb.tab (T : Tb) : Nat := (if T.seq % 2 = 0 then T.t0 else T.t1).toNat
def Tb.takeT (T : Tb) : Tb := if T.seq % 2 = 0 then T.take0 else T.take1
theorem TbOk.takeT {T : Tb} (h : TbOk T) (hs : T.spare ≠ []) : TbOk T.takeT := by
 unfold Tb.takeT; split
 ·exact h.take0 hs
 ·exact h.take1 hs
theorem Tb.takeT_seq (T : Tb) : T.takeT.seq = T.seq := by unfold Tb.takeT; split <;> rfl
theorem Tb.takeT_place (T : Tb) : T.takeT.place = T.place := by unfold Tb.takeT; split <;> rfl
def saveGo (ar : Ar) : Nat → St → Tb → St × Tb × Int
 | 0, s, T => ((layS ar s T.tab T).1, T, (layS ar s T.tab T).2)
 | n + 1, s, T => if (layS ar s T.tab T).2 = 70 then saveGo ar n (layS ar s T.tab T).1 T.takeT else ((layS ar s T.tab T).1, T, (layS ar s T.tab T).2)
def Tb.up (T : Tb) : Tb := { T with seq := T.seq + 1 }
def saveS (ar : Ar) (s : St) (T : Tb) : St × Tb × Int := saveGo ar T.spare.length s T.up
def VolQ (w : World) (ar : Ar) (ok N : Nat → Prop) (vp : Nat) (r : St × Tb × Int) (e : Ending) (w' : World) : Prop :=
 e = .returned (.int .i64 r.2.2) ∧ Arr w' ar ok r.1 ∧ VolR w' vp ar.p N r.2.1 ∧ Mods (fun k => ar.M k ∨ k = vp) w w'
theorem volput {w : World} {g : Nat} {t : TypeId} {c0 c1 c2 c3 c4 c5 c6 c7 c8 c9 c10 : Value} (h : w.heap[g]? = some (.cells #[c0, c1, c2, c3, c4, c5, c6, c7, c8, c9, c10] t (0, 0))) (v6 v7 v8 v9 v10 : Value) :
  (((((w.setCell ⟨g, 6, none⟩ v6).setCell ⟨g, 7, none⟩ v7).setCell ⟨g, 8, none⟩ v8).setCell ⟨g, 9, none⟩ v9).setCell ⟨g, 10, none⟩ v10).heap[g]? = some (.cells #[c0, c1, c2, c3, c4, c5, v6, v7, v8, v9, v10] t (0, 0)) := by
 have h1 := blk_put h 6 v6 rfl
 have h2 := blk_put h1 7 v7 rfl
 have h3 := blk_put h2 8 v8 rfl
 have h4 := blk_put h3 9 v9 rfl
 have h5 := blk_put h4 10 v10 rfl
 exact h5
theorem volmods {w w' : World} {S : Nat → Prop} {g : Nat} (h : Mods S w w') (hg : S g ∨ w.heap.size ≤ g) (v6 v7 v8 v9 v10 : Value) : Mods S w (((((w'.setCell ⟨g, 6, none⟩ v6).setCell ⟨g, 7, none⟩ v7).setCell ⟨g, 8, none⟩ v8).setCell ⟨g, 9, none⟩ v9).setCell ⟨g, 10, none⟩ v10) :=
 ((((h.at_ hg 6 v6).at_ hg 7 v7).at_ hg 8 v8).at_ hg 9 v9).at_ hg 10 v10
theorem saveGo_stop {ar : Ar} {n : Nat} {s : St} {T : Tb} (h : (layS ar s T.tab T).2 ≠ 70) : saveGo ar n s T = ((layS ar s T.tab T).1, T, (layS ar s T.tab T).2) := by
 cases n with
 | zero => rfl
 | succ n => rw [saveGo, if_neg h]
theorem saveGo_go {ar : Ar} {n : Nat} {s : St} {T : Tb} (h : (layS ar s T.tab T).2 = 70) : saveGo ar (n + 1) s T = saveGo ar n (layS ar s T.tab T).1 T.takeT := by rw [saveGo, if_pos h]
theorem TbR.shape {w : World} {N : Nat → Prop} {C : Array Value} {T : Tb} (h : TbR w N C T) : ∃ PA pc SA sc, C = tbC PA pc SA sc T := by
 obtain ⟨PA, pc, SA, sc, e, _⟩ := h
 exact ⟨PA, pc, SA, sc, e⟩
theorem VolR.up {w : World} {vp p : Nat} {N : Nat → Prop} {T : Tb} (h : VolR w vp p N T) (hn : ∀ k, N k → k ≠ vp) : VolR (w.setCell ⟨vp, 6, none⟩ (.int .u32 (T.seq + 1))) vp p N T.up := by
 obtain ⟨PA, pc, SA, sc, h1, h2⟩ := h
 have hm : Mods (fun k => k = vp) w (w.setCell ⟨vp, 6, none⟩ (.int .u32 (T.seq + 1))) := Mods.at_ (S := fun k => k = vp) (Mods.refl _ w) (.inl rfl) 6 _
 refine ⟨PA, pc, SA, sc, blk_put h1 6 _ rfl, ?_⟩
 obtain ⟨PA', pc', SA', sc', he, g⟩ := h2.mods hm (fun k hk => hn k hk)
 simp only [tbC, Array.mk.injEq, List.cons.injEq, Value.slice.injEq, Option.some.injEq] at he
 obtain ⟨-, ⟨rfl, -, rfl⟩, ⟨rfl, -, rfl⟩, -⟩ := he
 exact ⟨PA, pc, SA, sc, rfl, g⟩
def volSet (w : World) (vp : Nat) (o : Obj) (P3 : Addr) (p3 : Nat) (S3 : Option Addr) (q3 : Nat) (T : Tb) : World :=
 (((((w.alloc o).setCell ⟨vp, 6, none⟩ (.int .u32 T.seq)).setCell ⟨vp, 7, none⟩ (.slice (some P3) 11 p3)).setCell ⟨vp, 8, none⟩ (.slice S3 T.spare.length q3)).setCell ⟨vp, 9, none⟩ (.int .i64 T.t0)).setCell ⟨vp, 10, none⟩ (.int .i64 T.t1)
theorem vol_set {w w1 w2 : World} {ar : Ar} {ok N : Nat → Prop} {vp : Nat} {s : St} {T T3 : Tb} {PA P3 : Addr} {pc p3 : Nat} {SA S3 : Option Addr} {sc q3 : Nat} (hE : Env w1 ar ok N vp) (hA : Arr w1 ar ok s) (hv : w1.heap[vp]? = some (.cells (volC ar.p PA pc SA sc T) 110 (0, 0)))
  (hM : Mods (fun k => ar.M k ∨ k = vp) w w1) (hb : Below w1.heap.size w1 w2) (hT : TbR w2 (fun k => w1.heap.size ≤ k) (tbC P3 p3 S3 q3 T3) T3) (o : Obj) :
  Arr (volSet w2 vp o P3 p3 S3 q3 T3) ar ok s ∧ VolR (volSet w2 vp o P3 p3 S3 q3 T3) vp ar.p N T3 ∧ Mods (fun k => ar.M k ∨ k = vp) w (volSet w2 vp o P3 p3 S3 q3 T3) := by
 have hba : Below w2.heap.size w2 (w2.alloc o) := bl_alloc (Below.refl _ _) o
 have hv2 := blk_below (blk_below hv hb) hba
 have hm : Mods (fun k => k = vp) (w2.alloc o) (volSet w2 vp o P3 p3 S3 q3 T3) := by
  unfold volSet
  exact volmods (w := w2.alloc o) (w' := w2.alloc o) (S := fun k => k = vp) (Mods.refl _ _) (.inl rfl) _ _ _ _ _
 refine ⟨((hA.below hb).below hba).mods hm (fun k hk => by subst hk; exact hE.out), ⟨P3, p3, S3, q3, ?_, ?_⟩, ?_⟩
 ·simp only [volC] at hv2
  exact volput hv2 _ _ _ _ _
 ·exact ((hT.mono (fun k hk => hE.n_n k hk)).below hba).mods hm (fun k hk => hE.n_v k hk)
 ·exact (hM.trans ((Mods.of_below hb).trans (Mods.of_below hba))).trans (hm.mono (fun k hk => .inr hk))
theorem vol_facts {w1 w2 : World} {p vp : Nat} {T : Tb} {PA : Addr} {pc : Nat} {SA : Option Addr} {sc : Nat} (hv : w1.heap[vp]? = some (.cells (volC p PA pc SA sc T) 110 (0, 0))) (hb : Below w1.heap.size w1 w2) :
  (∀ o, (w2.alloc o).cell? ⟨vp, 6, none⟩ = some (.int .u32 T.seq)) ∧ (∀ o, (w2.alloc o).cell? ⟨vp, 7, none⟩ = some (.slice (some PA) 11 pc)) ∧ (∀ o, (w2.alloc o).cell? ⟨vp, 8, none⟩ = some (.slice SA T.spare.length sc)) ∧ (∀ o, (w2.alloc o).cell? ⟨vp, 9, none⟩ = some (.int .i64 T.t0)) ∧ (∀ o, (w2.alloc o).cell? ⟨vp, 10, none⟩ = some (.int .i64 T.t1)) ∧ (∀ o k, (w2.alloc o).frozen? ⟨vp, k, none⟩ = false) := by
 have h : ∀ o, (w2.alloc o).heap[vp]? = some (.cells (volC p PA pc SA sc T) 110 (0, 0)) := fun o => blk_below (blk_below hv hb) (bl_alloc (Below.refl _ _) o)
 exact ⟨fun o => blk_cell (h o) 6, fun o => blk_cell (h o) 7, fun o => blk_cell (h o) 8, fun o => blk_cell (h o) 9, fun o => blk_cell (h o) 10, fun o k => blk_frozen (h o) k⟩
set_option maxHeartbeats 16000000 in
set_option maxRecDepth 100000 in
theorem save_any (ar : Ar) (ok N : Nat → Prop) (s : St) (vp : Nat) (T : Tb) (w : World) (hE : Env w ar ok N vp) (h : Arr w ar ok s) (hv : VolR w vp ar.p N T) (hT : TbOk T.up) (h0 : 0 ≤ s.ops) (h1 : s.ops + 10 ≤ 1000000) :
  Calls Try.prog 38 #[.pointer (some ⟨vp, 0, none⟩)] w (VolQ w ar ok N vp (saveS ar s T)) := by
 obtain ⟨PA, pc, SA, sc, hv1, hv2⟩ := hv
 have hsp3 : T.spare.length ≤ 3 := by obtain ⟨_, _, _, _, _, _, _, hn, _⟩ := hv2; exact hn
 have HE := Lib.hid hE
 have HA := Lib.hid h
 have HV := Lib.hid hv1
 have HT := Lib.hid hv2
 have HK := Lib.hid hT
 have y6 : w.cell? ⟨vp, 6, none⟩ = some (.int .u32 T.seq) := (blk_cell hv1 6).trans rfl
 have f6 : w.frozen? ⟨vp, 6, none⟩ = false := blk_frozen hv1 6
 have hwr : IntKind.u32.wrap (T.seq + 1) = T.seq + 1 := by
  have a0 := hT.seq0; have a1 := hT.seq1
  simp only [Tb.up] at a0 a1
  simp [IntKind.wrap, IntKind.bits, IntKind.signed]; omega
 clear h hE hv1 hv2 hT
 go_enter Try.func38, Try.ntmps38
 go_wp2_with fail
 have H0 := Lib.hid (And.intro (HA.out.mods (Mods.at_ (S := fun k => k = vp) (Mods.refl _ w) (.inl rfl) 6 (.int .u32 (T.seq + 1))) (fun k hk => by subst hk; exact HE.out.out)) (And.intro (VolR.up (⟨PA, pc, SA, sc, HV.out, HT.out⟩ : VolR w vp ar.p N T) HE.out.n_v) (Mods.at_ (S := fun k => ar.M k ∨ k = vp) (Mods.refl _ w) (.inl (.inr rfl)) 6 (.int .u32 (T.seq + 1)))))
 clear HA HV HT
 generalize w.setCell ⟨vp, 6, none⟩ (.int .u32 (T.seq + 1)) = w0 at H0 ⊢
 go_loopg [] (T.spare.length) (fun kq wr => ∃ (s' : St) (T' : Tb), T'.spare.length = kq ∧ s.ops ≤ s'.ops ∧ s'.ops + 2 * (kq : Int) + 2 ≤ 1000000 ∧ Hid (saveGo ar kq s' T' = saveS ar s T) ∧ Hid (Arr wr ar ok s' ∧ VolR wr vp ar.p N T' ∧ TbOk T' ∧ Mods (fun k => ar.M k ∨ k = vp) w wr))
 case atStart => exact ⟨s, T.up, rfl, Int.le_refl _, by omega, Lib.hid rfl, Lib.hid ⟨H0.out.1, H0.out.2.1, HK.out, H0.out.2.2⟩⟩
 case round =>
  obtain ⟨s', T', hk, ho0, ho1, HG, HI⟩ := hrel
  clear H0 hwr y6 f6
  obtain ⟨PA', pc', SA', sc', hv1, hv2⟩ := HI.out.2.1
  have hseq0 := HI.out.2.2.1.seq0
  have hseq1 := HI.out.2.2.1.seq1
  have y6 : wr.cell? ⟨vp, 6, none⟩ = some (.int .u32 T'.seq) := (blk_cell hv1 6).trans rfl
  have y9 : wr.cell? ⟨vp, 9, none⟩ = some (.int .i64 T'.t0) := (blk_cell hv1 9).trans rfl
  have y10 : wr.cell? ⟨vp, 10, none⟩ = some (.int .i64 T'.t1) := (blk_cell hv1 10).trans rfl
  have HV1 := Lib.hid (And.intro hv1 hv2)
  clear hv1 hv2
  have HE' := Lib.hid (HE.out.later HI.out.2.2.2.size)
  obtain ⟨k2, hk2⟩ : ∃ k2, T'.seq % 2 = k2 := ⟨_, rfl⟩
  have htm : T'.seq.tmod 2 = k2 := by rw [Int.tmod_eq_emod_of_nonneg hseq0, hk2]
  rcases (show k2 = 0 ∨ k2 = 1 by omega) with rfl | rfl
  ·obtain ⟨kb, hkb, hlt⟩ : ∃ kb : Nat, T'.t0 = (kb : Int) ∧ kb < 16 := by
    have h_ := HI.out.2.2.1.rng T'.t0 (by simp [Tb.all])
    exact ⟨T'.t0.toNat, by omega, by omega⟩
   have htab : T'.tab = kb := by unfold Tb.tab; rw [hk2]; simp [hkb]
   have htk : T'.takeT = T'.take0 := by unfold Tb.takeT; rw [hk2]; simp
   have hl := lay_any ar ok s' vp kb N T' wr HE'.out.fix HE'.out.ok_M HE'.out.ok_n HI.out.1 HI.out.2.1 HE'.out.n_M HE'.out.vM HI.out.2.2.1 hlt (by omega) (by omega)
   have HLO := Lib.hid (layS_ops ar s' kb T')
   obtain ⟨r, hr⟩ : ∃ r, layS ar s' kb T' = r := ⟨_, rfl⟩
   rw [hr] at hl HLO
   rw [← hkb] at hl
   have HR := Lib.hid (show layS ar s' T'.tab T' = r by rw [htab]; exact hr)
   obtain ⟨s1, e1⟩ := r
   have HL := Lib.hid hl
   have HTK := Lib.hid htk
   clear hl htab htk hr hkb hlt
   go_wp2_with fail
   refine HL.out.mono ?_
   rintro e w1 ⟨rfl, hA1, hM1⟩
   have HM1 := Lib.hid (show Mods (fun k => ar.M k ∨ k = vp) w w1 from HI.out.2.2.2.trans (hM1.mono (fun k hk => .inl hk)))
   have HA1 := Lib.hid hA1
   have HM1w := Lib.hid hM1.size
   have hv1 := hM1.blk HV1.out.1 HE'.out.vM
   have y6 : w1.cell? ⟨vp, 6, none⟩ = some (.int .u32 T'.seq) := (blk_cell hv1 6).trans rfl
   have y7 : w1.cell? ⟨vp, 7, none⟩ = some (.slice (some PA') 11 pc') := (blk_cell hv1 7).trans rfl
   have y8 : w1.cell? ⟨vp, 8, none⟩ = some (.slice SA' T'.spare.length sc') := (blk_cell hv1 8).trans rfl
   have y9 : w1.cell? ⟨vp, 9, none⟩ = some (.int .i64 T'.t0) := (blk_cell hv1 9).trans rfl
   have y10 : w1.cell? ⟨vp, 10, none⟩ = some (.int .i64 T'.t1) := (blk_cell hv1 10).trans rfl
   have HV2 := Lib.hid hv1
   have HT2 := Lib.hid (HV1.out.2.mods hM1 HE'.out.n_M)
   clear hM1 hA1 hv1 HL
   by_cases hz : e1 = 70
   ·subst hz
    go_wp2_with fail
    refine (take_0 #[.int .u32 T'.seq, .slice (some PA') 11 pc', .slice SA' gk sc', .int .i64 T'.t0, .int .i64 T'.t1] T' N w1 (by have h_ := HT2.out; simp only [tbC] at h_; rw [hk] at h_; exact h_)).mono ?_
    rintro e w2 ⟨hb2, ⟨hs0, rfl⟩ | ⟨hs0, C', was, rfl, hT3, -⟩⟩
    ·have hg0 : gk = 0 := by rw [← hk, hs0]; rfl
     have HS := Lib.hid (show saveS ar s T = (s1, T', 70) by rw [← HG.out, hg0, saveGo, HR.out])
     have HB2 := Lib.hid hb2
     clear hs0 hg0 hb2
     go_wp2_with fail
     go_ret
     rw [HS.out]
     have hba : ∀ o, Below w1.heap.size w1 (w2.alloc o) := fun o => bl_alloc HB2.out o
     exact ⟨rfl, HA1.out.below (hba _), ⟨PA', pc', SA', sc', blk_below HV2.out (hba _), HT2.out.below (hba _)⟩, HM1.out.trans (Mods.of_below (hba _))⟩
    ·obtain ⟨P3, p3, S3, q3, rfl⟩ := hT3.shape
     obtain ⟨z6, z7, z8, z9, z10, zf⟩ := vol_facts HV2.out hb2
     rw [hk] at z8
     have HB2 := Lib.hid (And.intro hb2 (And.intro hT3 hs0))
     clear hb2 hT3 hs0 y6 y7 y8 y9 y10
     simp only [tbC]
     go_wp2_with fail
     obtain ⟨g, rfl⟩ : ∃ g, gk = g + 1 := by
      cases hsp : T'.spare with
      | nil => exact absurd hsp HB2.out.2.2
      | cons x r => exact ⟨r.length, by rw [← hk, hsp]; rfl⟩
     go_roundg g
     case measure => omega
     case rel =>
      have h_ := vol_set (HE'.out.later HM1w.out) HA1.out HV2.out HM1.out HB2.out.1 HB2.out.2.1 (.cells #[.int .u32 T'.take0.seq, .slice (some P3) 11 p3, .slice S3 T'.take0.spare.length q3, .int .i64 T'.take0.t0, .int .i64 T'.take0.t1] 108)
      have hlo := HLO.out
      refine ⟨s1, T'.take0, ?_, ?_, ?_, Lib.hid ?_, Lib.hid ⟨h_.1, h_.2.1, HI.out.2.2.1.take0 HB2.out.2.2, h_.2.2⟩⟩
      ·show (T'.spare.drop 1).length = g
       rw [List.length_drop]; omega
      ·exact Int.le_trans ho0 hlo.1
      ·have h2 : s1.ops ≤ s'.ops + 2 := hlo.2
       omega
      ·rw [← HG.out, saveGo_go (by rw [HR.out]), HR.out, HTK.out]
   ·have hst : (layS ar s' T'.tab T').2 ≠ 70 := by rw [HR.out]; exact hz
    have HS := Lib.hid (show saveS ar s T = (s1, T', e1) by rw [← HG.out, saveGo_stop hst, HR.out])
    clear hst y6 y7 y8 y9 y10
    go_wp2_with fail
    go_ret
    rw [HS.out]
    exact ⟨rfl, HA1.out, ⟨PA', pc', SA', sc', HV2.out, HT2.out⟩, HM1.out⟩
  ·obtain ⟨kb, hkb, hlt⟩ : ∃ kb : Nat, T'.t1 = (kb : Int) ∧ kb < 16 := by
    have h_ := HI.out.2.2.1.rng T'.t1 (by simp [Tb.all])
    exact ⟨T'.t1.toNat, by omega, by omega⟩
   have htab : T'.tab = kb := by unfold Tb.tab; rw [hk2]; simp [hkb]
   have htk : T'.takeT = T'.take1 := by unfold Tb.takeT; rw [hk2]; simp
   have hl := lay_any ar ok s' vp kb N T' wr HE'.out.fix HE'.out.ok_M HE'.out.ok_n HI.out.1 HI.out.2.1 HE'.out.n_M HE'.out.vM HI.out.2.2.1 hlt (by omega) (by omega)
   have HLO := Lib.hid (layS_ops ar s' kb T')
   obtain ⟨r, hr⟩ : ∃ r, layS ar s' kb T' = r := ⟨_, rfl⟩
   rw [hr] at hl HLO
   rw [← hkb] at hl
   have HR := Lib.hid (show layS ar s' T'.tab T' = r by rw [htab]; exact hr)
   obtain ⟨s1, e1⟩ := r
   have HL := Lib.hid hl
   have HTK := Lib.hid htk
   clear hl htab htk hr hkb hlt
   go_wp2_with fail
   refine HL.out.mono ?_
   rintro e w1 ⟨rfl, hA1, hM1⟩
   have HM1 := Lib.hid (show Mods (fun k => ar.M k ∨ k = vp) w w1 from HI.out.2.2.2.trans (hM1.mono (fun k hk => .inl hk)))
   have HA1 := Lib.hid hA1
   have HM1w := Lib.hid hM1.size
   have hv1 := hM1.blk HV1.out.1 HE'.out.vM
   have y6 : w1.cell? ⟨vp, 6, none⟩ = some (.int .u32 T'.seq) := (blk_cell hv1 6).trans rfl
   have y7 : w1.cell? ⟨vp, 7, none⟩ = some (.slice (some PA') 11 pc') := (blk_cell hv1 7).trans rfl
   have y8 : w1.cell? ⟨vp, 8, none⟩ = some (.slice SA' T'.spare.length sc') := (blk_cell hv1 8).trans rfl
   have y9 : w1.cell? ⟨vp, 9, none⟩ = some (.int .i64 T'.t0) := (blk_cell hv1 9).trans rfl
   have y10 : w1.cell? ⟨vp, 10, none⟩ = some (.int .i64 T'.t1) := (blk_cell hv1 10).trans rfl
   have HV2 := Lib.hid hv1
   have HT2 := Lib.hid (HV1.out.2.mods hM1 HE'.out.n_M)
   clear hM1 hA1 hv1 HL
   by_cases hz : e1 = 70
   ·subst hz
    go_wp2_with fail
    refine (take_1 #[.int .u32 T'.seq, .slice (some PA') 11 pc', .slice SA' gk sc', .int .i64 T'.t0, .int .i64 T'.t1] T' N w1 (by have h_ := HT2.out; simp only [tbC] at h_; rw [hk] at h_; exact h_)).mono ?_
    rintro e w2 ⟨hb2, ⟨hs0, rfl⟩ | ⟨hs0, C', was, rfl, hT3, -⟩⟩
    ·have hg0 : gk = 0 := by rw [← hk, hs0]; rfl
     have HS := Lib.hid (show saveS ar s T = (s1, T', 70) by rw [← HG.out, hg0, saveGo, HR.out])
     have HB2 := Lib.hid hb2
     clear hs0 hg0 hb2
     go_wp2_with fail
     go_ret
     rw [HS.out]
     have hba : ∀ o, Below w1.heap.size w1 (w2.alloc o) := fun o => bl_alloc HB2.out o
     exact ⟨rfl, HA1.out.below (hba _), ⟨PA', pc', SA', sc', blk_below HV2.out (hba _), HT2.out.below (hba _)⟩, HM1.out.trans (Mods.of_below (hba _))⟩
    ·obtain ⟨P3, p3, S3, q3, rfl⟩ := hT3.shape
     obtain ⟨z6, z7, z8, z9, z10, zf⟩ := vol_facts HV2.out hb2
     rw [hk] at z8
     have HB2 := Lib.hid (And.intro hb2 (And.intro hT3 hs0))
     clear hb2 hT3 hs0 y6 y7 y8 y9 y10
     simp only [tbC]
     go_wp2_with fail
     obtain ⟨g, rfl⟩ : ∃ g, gk = g + 1 := by
      cases hsp : T'.spare with
      | nil => exact absurd hsp HB2.out.2.2
      | cons x r => exact ⟨r.length, by rw [← hk, hsp]; rfl⟩
     go_roundg g
     case measure => omega
     case rel =>
      have h_ := vol_set (HE'.out.later HM1w.out) HA1.out HV2.out HM1.out HB2.out.1 HB2.out.2.1 (.cells #[.int .u32 T'.take1.seq, .slice (some P3) 11 p3, .slice S3 T'.take1.spare.length q3, .int .i64 T'.take1.t0, .int .i64 T'.take1.t1] 108)
      have hlo := HLO.out
      refine ⟨s1, T'.take1, ?_, ?_, ?_, Lib.hid ?_, Lib.hid ⟨h_.1, h_.2.1, HI.out.2.2.1.take1 HB2.out.2.2, h_.2.2⟩⟩
      ·show (T'.spare.drop 1).length = g
       rw [List.length_drop]; omega
      ·exact Int.le_trans ho0 hlo.1
      ·have h2 : s1.ops ≤ s'.ops + 2 := hlo.2
       omega
      ·rw [← HG.out, saveGo_go (by rw [HR.out]), HR.out, HTK.out]
   ·have hst : (layS ar s' T'.tab T').2 ≠ 70 := by rw [HR.out]; exact hz
    have HS := Lib.hid (show saveS ar s T = (s1, T', e1) by rw [← HG.out, saveGo_stop hst, HR.out])
    clear hst y6 y7 y8 y9 y10
    go_wp2_with fail
    go_ret
    rw [HS.out]
    exact ⟨rfl, HA1.out, ⟨PA', pc', SA', sc', HV2.out, HT2.out⟩, HM1.out⟩
end Go.Proofs.Ytffalemndjampaa
end
