import Derived.Test.YtkbjndfmbimjiaaXos
/-! Rows of slices; summed. -/
namespace Go.Proofs.Ytkbjndfmbimjiaa
open Go.RowKit Go.Proofs.YtkbjndfmbimjiaaW.PrintWords
def encR (r : Row) : Value := .slice r.A r.l.length r.c
def RowOk (w : World) (r : Row) : Prop := r.l.length ≤ r.c ∧ ReadsInt w .u8 r.A r.l.length r.l ∧ Byt r.l
theorem RowOk.below {w w1 : World} {r : Row} (h : RowOk w r) (hb : Below w.heap.size w w1) : RowOk w1 r := ⟨h.1, h.2.1.below hb, h.2.2⟩
theorem RdRows.of {w : World} {A : Option Addr} {n : Nat} {rs : List Row} (h : ReadsOf encR default w A n rs) (hok : ∀ r ∈ rs, RowOk w r) : RdRows w A rs := by
  refine ⟨by rw [h.1]; exact h.2.1, fun i hi => ?_⟩
  obtain ⟨ad, e, hc⟩ := h.2.2 (by rw [← h.1]; omega)
  have h2 := hok (rs.getD i default) (by rw [List.getD_eq_getElem?_getD, List.getElem?_eq_getElem hi]; simp)
  exact ⟨ad, e, hc i (by rw [← h.1]; exact hi), h2.1, h2.2.1, h2.2.2⟩
theorem RdRows.ok {w : World} {A : Option Addr} {rs : List Row} (h : RdRows w A rs) : ∀ r ∈ rs, RowOk w r := by
  intro r hr
  obtain ⟨i, hi, rfl⟩ := List.getElem_of_mem hr
  obtain ⟨_, _, _, h1, h2, h3⟩ := h.2 i hi
  rw [List.getD_eq_getElem?_getD, List.getElem?_eq_getElem hi] at h1 h2 h3
  exact ⟨h1, h2, h3⟩
theorem New.rowOk {w w' : World} {A : Option Addr} {n c : Nat} {xs : List Int} (h : New w w' (.slice A n c) xs) (hc : xs.length ≤ c) (hb : Byt xs) : RowOk w' ⟨A, c, xs⟩ := ⟨hc, h.reads, hb⟩
/-- A literal of slices. -/
theorem rows_lit (w : World) (rs : List Row) (hm : rs.length ≤ 9223372036854775807) : ReadsOf encR default (w.alloc (.cells (encs encR rs).toArray 24)) (some ⟨w.heap.size, 0, none⟩) rs.length rs :=
  own_reads_of' (own_lit_of (enc := encR) w w.heap.size 24 rs (Nat.le_refl _) hm)
theorem lit_ok (w : World) (xs : List Int) (hm : xs.length ≤ 9223372036854775807) (hb : Byt xs) : RowOk (w.alloc (.cells (nums .u8 xs).toArray 5)) ⟨some ⟨w.heap.size, 0, none⟩, xs.length, xs⟩ :=
  ⟨Nat.le_refl _, reads_box w .u8 xs _ _ rfl hm, hb⟩
set_option maxHeartbeats 2000000 in
theorem summed_any (w : World) : Calls Try.prog 9 #[] w fun e w' => e = .returned (.bool true) ∧ Below w.heap.size w w' := by
  go_enter Try.func9, Try.ntmps9
  go_wp2_with fail
  have k1 := lit_ok w [1, 2] (by decide) (Byt.of (by decide))
  obtain ⟨w1, hw1⟩ : ∃ w1, w1 = w.alloc (.cells #[.int .u8 1, .int .u8 2] 5) := ⟨_, rfl⟩
  have k2 := lit_ok w1 [1] (by decide) (Byt.of (by decide))
  obtain ⟨w2, hw2⟩ : ∃ w2, w2 = w1.alloc (.cells #[.int .u8 1] 5) := ⟨_, rfl⟩
  have k3 := rows_lit w2 [⟨some ⟨w.heap.size, 0, none⟩, 2, [1, 2]⟩, ⟨some ⟨w1.heap.size, 0, none⟩, 1, [1]⟩] (by simp)
  have b1 : Below w.heap.size w w1 := by rw [hw1]; exact bl_alloc (Below.refl _ _) _
  have b2 : Below w1.heap.size w1 w2 := by rw [hw2]; exact bl_alloc (Below.refl _ _) _
  have s1 : w1.heap.size = w.heap.size + 1 := by rw [hw1]; simp
  have s2 : w2.heap.size = w.heap.size + 1 + 1 := by rw [hw2]; simp [s1]
  have hR : RdRows (w2.alloc (.cells (encs encR [⟨some ⟨w.heap.size, 0, none⟩, 2, [1, 2]⟩, ⟨some ⟨w1.heap.size, 0, none⟩, 1, [1]⟩]).toArray 24)) (some ⟨w2.heap.size, 0, none⟩) [⟨some ⟨w.heap.size, 0, none⟩, 2, [1, 2]⟩, ⟨some ⟨w1.heap.size, 0, none⟩, 1, [1]⟩] := by
    refine RdRows.of k3 ?_
    intro r hr
    simp only [List.mem_cons, List.mem_nil_iff, or_false] at hr
    rcases hr with rfl | rfl
    · have k1' : RowOk w1 ⟨some ⟨w.heap.size, 0, none⟩, 2, [1, 2]⟩ := by rw [hw1]; exact k1
      exact (k1'.below b2).below (bl_alloc (Below.refl _ _) _)
    · have k2' : RowOk w2 ⟨some ⟨w1.heap.size, 0, none⟩, 1, [1]⟩ := by rw [hw2]; exact k2
      exact k2'.below (bl_alloc (Below.refl _ _) _)
  have hc := Xor_any _ _ 2 _ hR (by simp [ll, mlen])
  rw [s1, s2, hw2, hw1] at hc
  refine hc.mono ?_
  rintro e w3 ⟨v3, rfl, hn3⟩
  have hn3 : New _ w3 v3 (xorL [[1, 2], [1]]) := hn3
  rw [show xorL [[1, 2], [1]] = [0, 2] from by decide] at hn3
  obtain ⟨A3, c3, rfl, _⟩ := hn3.slice
  have H3 := Lib.hid hn3
  have T3 : Hid (Below w.heap.size w w3) := Lib.hid (bl_seq (bl_alloc (bl_alloc (bl_alloc (Below.refl _ _) _) _) _) hn3.bel)
  clear hc hR k3 k2 k1 b1 b2 s1 s2 hw1 hw2 hn3
  go_wp2_with fail
  refine (rSame_any [0, 2] [0, 2] A3 _ 2 2 c3 2 _ (H3.out.reads.below (bl_alloc (Below.refl _ _) _)) (reads_box w3 .u8 [0, 2] 2 5 rfl (by omega)) (Byt.of (by decide)) (Byt.of (by decide))).mono ?_
  rintro e w4 ⟨rfl, hd4⟩
  have H4 := Lib.hid hd4.below
  clear hd4
  go_wp2_with fail
  go_ret
  exact ⟨by simp, bl_seq (bl_alloc T3.out _) H4.out⟩
theorem infoR : (Try.prog.info? 24).map (fun i => (i.zero, i.size, i.bytes)) = some (some (.slice none 0 0), 1, 24) := by kernel_rfl
/-- What is owned is read. -/
theorem reads_k {W : World} {base k : Nat} {e : TypeId} {A : Option Addr} {n c : Nat} {rs : List Row} (h : W.ownsRow base e 1 (.slice A n c) k (encs encR rs)) (_hk : rs.length = k) : ReadsOf encR default W A n rs := by
  obtain ⟨A', c', e', hr⟩ := own_reads_of (d := default) h
  injection e' with e1 e2 e3
  subst e1 e2 e3
  exact hr
theorem own_n {W : World} {base k : Nat} {e : TypeId} {A : Option Addr} {n c : Nat} {rs : List Row} (h : W.ownsRow base e 1 (.slice A n c) k (encs encR rs)) (_hk : rs.length = k) : n = k := by
  obtain ⟨A', c', e'⟩ := own_slice h
  injection e'
theorem ll_length (rs : List Row) : (ll rs).length = rs.length := by simp [ll]
theorem mlen_bound {ls : List (List Int)} {b : Nat} (h : ∀ l ∈ ls, l.length ≤ b) : mlen ls ≤ b := by
  induction ls with
  | nil => simp [mlen]
  | cons x ls ih =>
    have h1 := h x (by simp)
    have h2 := ih fun l hl => h l (by simp [hl])
    simp only [mlen]; omega
set_option maxHeartbeats 4000000 in
set_option maxRecDepth 100000 in
theorem xors_walk (rs : List Row) (A : Option Addr) (c : Nat) (w : World) (hr : RdRows w A rs) :
    Calls Try.prog 3 #[.slice A rs.length c] w fun e w' => e = .returned (.bool true) ∧ Below w.heap.size w w' := by
  have hlen := hr.1
  have HR := Lib.hid hr
  clear hr
  by_cases h12 : 12 < rs.length
  · go_enter Try.func3, Try.ntmps3
    go_wp2_with fail
    refine (summed_any _).mono ?_
    rintro e w1 ⟨rfl, hb1⟩
    go_wp2_with fail
    go_ret
    exact ⟨rfl, hb1⟩
  · go_enter Try.func3, Try.ntmps3
    go_wp2
    go_loopw [3, 4] (fun v i wr => ∃ k : Nat, k ≤ rs.length ∧ i = .int .i64 (k : Int) ∧ Hid (∀ l ∈ ll (rs.take k), l.length ≤ 300) ∧ Hid (wr.ownsRow w.heap.size 24 1 v k (encs encR (rs.take k).reverse)) ∧ Hid (Below w.heap.size w wr)) (fun _ i _ => rs.length - (intOf i).toNat)
    case atStart => exact ⟨0, Nat.zero_le _, rfl, Lib.hid (by simp [ll]), Lib.hid (own_nil _ _ _ _), Lib.hid (Below.refl _ _)⟩
    case round =>
      obtain ⟨k, hk, rfl, HL, HO, HB⟩ := hrel
      by_cases hlt : k < rs.length
      · obtain ⟨ad, he, hc, _, _, _⟩ := (HR.out.below HB.out).2 k hlt
        subst he
        have hm := ll_take_succ rs k hlt
        have hrv : (rs.take (k + 1)).reverse = [rs.getD k default] ++ (rs.take k).reverse := by
          rw [List.take_succ_eq_append_getElem hlt, List.reverse_append, List.getD_eq_getElem?_getD, List.getElem?_eq_getElem hlt]; rfl
        obtain ⟨r0, hr0⟩ : ∃ r0, rs.getD k default = r0 := ⟨_, rfl⟩
        rw [hr0] at hc hm hrv
        clear hr0
        by_cases h300 : 300 < r0.l.length
        · go_wp2_with fail
          refine (summed_any _).mono ?_
          rintro e w1 ⟨rfl, hb1⟩
          have H1 := Lib.hid (bl_seq HB.out hb1)
          clear hb1
          go_wp2_with fail
          go_ret
          exact ⟨rfl, H1.out⟩
        · have HM := Lib.hid hm
          have HV := Lib.hid hrv
          obtain ⟨A7, n7, c7, rfl⟩ := own_slice' HO.out
          clear hm hrv
          go_wp2_with (at_builtin; refine print_append_row_of (w0 := w) encR default w.heap.size rfl (.tmp 27) (.tmp 28) 22 24 (.slice none 0 0) 24 rfl Try.underlying22 infoR rfl (by decide) (fun _ => rfl) _ [r0] (rs.take k).reverse A7 n7 c7 rfl rfl ?aO ?aR (bl_alloc HB.out _) (by have := HB.out.size; simp; omega) ?aL ?_; (case aO => exact own_lit_of (enc := encR) wr w.heap.size 24 [r0] HB.out.size (by simp)); (case aR => exact (reads_k (HO.out.alloc _) (by simp; omega))); (case aL => have := own_n HO.out (by simp; omega); simp; omega); intro v9 w9 ho hb hg hat; obtain ⟨A9, n9, c9, rfl⟩ := own_slice' ho; have O9 := Lib.hid (And.intro ho hb); clear ho hb hg hat)
          go_roundw
          case rel =>
            refine ⟨k + 1, by omega, by go_num, ?_, ?_, Lib.hid O9.out.2⟩
            · rw [HM.out]
              refine Lib.hid fun l hl => ?_
              rcases List.mem_append.1 hl with hl | hl
              · exact HL.out l hl
              · rw [List.mem_singleton.1 hl]; omega
            · have h_ := O9.out.1
              rw [HV.out]
              have e : ([r0] ++ (rs.take k).reverse).length = k + 1 := by simp; omega
              rw [e] at h_
              exact Lib.hid h_
          case measure => simp [intOf]; omega
      · have hkn : rs.take k = rs := List.take_of_length_le (by omega)
        rw [hkn] at HL HO
        have hkl : k = rs.length := by omega
        subst hkl
        obtain ⟨A7, c7, rfl⟩ := own_slice HO.out
        have hml := mlen_bound HL.out
        have HRB := Lib.hid (RdRows.of (reads_k HO.out (by simp)) (fun r hr => ((HR.out.below HB.out).ok) r (List.mem_reverse.1 hr)))
        have hrl : rs.reverse.length = rs.length := by simp
        have hll : ll rs.reverse = (ll rs).reverse := by simp [ll]
        have HLL := Lib.hid hll
        have hby : Byt (xorL (ll rs)) := xorL_byt (fun l hl => by
          obtain ⟨r, hr, rfl⟩ := List.mem_map.1 hl
          exact (HR.out.ok r hr).2.2)
        have HBY := Lib.hid hby
        clear hkn hll hby
        go_wp2_with fail
        refine (Xor_any rs A c _ (HR.out.below HB.out) (by omega)).mono ?_
        rintro e w1 ⟨v1, rfl, hn1⟩
        obtain ⟨A1, c1, rfl, hc1⟩ := hn1.slice
        have N1 := Lib.hid hn1
        have T1 := Lib.hid (bl_seq HB.out hn1.bel)
        clear hn1
        go_wp2_with fail
        refine (summed_any _).mono ?_
        rintro e w2 ⟨rfl, hb2⟩
        have R2 := Lib.hid (N1.out.reads.below hb2)
        have B12 := Lib.hid hb2
        have T2 := Lib.hid (bl_seq T1.out hb2)
        clear hb2
        go_wp2_with fail
        refine (rXor_any rs A c _ (HR.out.below T2.out) (by omega)).mono ?_
        rintro e w3 ⟨v3, rfl, hn3⟩
        obtain ⟨A3, c3, rfl, hc3⟩ := hn3.slice
        have N3 := Lib.hid hn3
        have T3 := Lib.hid (bl_seq T2.out hn3.bel)
        have R3 := Lib.hid (R2.out.below hn3.bel)
        clear hn3
        go_wp2_with fail
        refine (rSame_any _ _ A1 A3 _ _ c1 c3 _ R3.out N3.out.reads HBY.out HBY.out).mono ?_
        rintro e w4 ⟨rfl, hd4⟩
        have T4 := Lib.hid (bl_seq T3.out hd4.below)
        have R4 := Lib.hid (R3.out.below hd4.below)
        have B4 := Lib.hid (bl_seq B12.out (bl_seq N3.out.bel hd4.below))
        clear hd4
        simp only [decide_true]
        go_wp2_with fail
        have HX := Xor_any rs.reverse A7 c7 w4 ((HRB.out.below N1.out.bel).below B4.out) (by rw [HLL.out, mlen_reverse]; omega)
        rw [hrl, HLL.out, xorL_reverse] at HX
        refine HX.mono ?_
        clear HX
        rintro e w5 ⟨v5, rfl, hn5⟩
        obtain ⟨A5, c5, rfl, hc5⟩ := hn5.slice
        have N5 := Lib.hid hn5
        have T5 := Lib.hid (bl_seq T4.out hn5.bel)
        have R5 := Lib.hid (R4.out.below hn5.bel)
        clear hn5
        go_wp2_with fail
        refine (rSame_any _ _ A5 A1 _ _ c5 c1 _ N5.out.reads R5.out HBY.out HBY.out).mono ?_
        rintro e w6 ⟨rfl, hd6⟩
        have T6 := Lib.hid (bl_seq T5.out hd6.below)
        have R6 := Lib.hid (R5.out.below hd6.below)
        clear hd6
        simp only [decide_true]
        go_wp2_with fail
        obtain ⟨X, hX⟩ : ∃ X, xorL (ll rs) = X := ⟨_, rfl⟩
        have htw := xorL_twice X
        have hXl : X.length ≤ 300 := by rw [← hX, xorL_length]; exact hml
        rw [hX] at HBY R6 hc1
        rw [hX]
        have HT := Lib.hid htw
        have hrows : RdRows (w6.alloc (.cells (encs encR [⟨A1, c1, X⟩, ⟨A1, c1, X⟩]).toArray 24)) (some ⟨w6.heap.size, 0, none⟩) [⟨A1, c1, X⟩, ⟨A1, c1, X⟩] := by
          refine RdRows.of (rows_lit w6 [⟨A1, c1, X⟩, ⟨A1, c1, X⟩] (by simp)) ?_
          intro r hr
          simp only [List.mem_cons, List.mem_nil_iff, or_false, or_self] at hr
          subst hr
          exact RowOk.below (w := w6) ⟨hc1, R6.out, HBY.out⟩ (bl_alloc (Below.refl _ _) _)
        have HX := Xor_any _ _ 2 _ hrows (by simp [ll, mlen]; omega)
        clear hrows htw hX
        refine HX.mono ?_
        clear HX
        rintro e w7 ⟨v7, rfl, hn7⟩
        obtain ⟨A7', c7', rfl, hc7⟩ := hn7.slice
        have N7 := Lib.hid hn7
        have T7 := Lib.hid (bl_seq (bl_alloc T6.out _) hn7.bel)
        clear hn7
        go_wp2_with fail
        refine (rIsZero_any _ A7' c7' _ N7.out.reads).mono ?_
        rintro e w8 ⟨rfl, hd8⟩
        have T8 := Lib.hid (bl_seq T7.out hd8.below)
        clear hd8
        rw [show (xorL (ll [⟨A1, c1, X⟩, ⟨A1, c1, X⟩])).all (· == 0) = true from HT.out]
        go_wp2_with fail
        have HX := Xor_any [] none 0 w8 ⟨by simp, fun i hi => by simp at hi⟩ (by simp [ll, mlen])
        refine HX.mono ?_
        clear HX
        rintro e w9 ⟨v9, rfl, hn9⟩
        obtain ⟨A9, c9, rfl, hc9⟩ := hn9.slice
        have T9 := Lib.hid (bl_seq T8.out hn9.bel)
        rw [show xorL (ll []) = [] from rfl]
        clear hn9 hc9
        go_wp2_with fail
        go_ret
        exact ⟨rfl, T9.out⟩
end Go.Proofs.Ytkbjndfmbimjiaa
