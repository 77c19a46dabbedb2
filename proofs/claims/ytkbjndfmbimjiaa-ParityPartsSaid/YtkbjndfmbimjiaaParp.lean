import Derived.Test.YtkbjndfmbimjiaaParx
/-! The law ParityParts: its walk. -/
namespace Go.Proofs.Ytkbjndfmbimjiaa
open Go.RowKit Go.Proofs.YtkbjndfmbimjiaaW.PrintWords
theorem rows_take {rs : List Row} {k : Nat} (h : k < rs.length) : rs.take (k + 1) = rs.take k ++ [rs.getD k default] := by
  rw [List.take_succ_eq_append_getElem h, List.getD_eq_getElem?_getD, List.getElem?_eq_getElem h]; rfl
theorem ll_append (a b : List Row) : ll (a ++ b) = ll a ++ ll b := by simp [ll]
set_option maxHeartbeats 4000000 in
set_option maxRecDepth 100000 in
theorem parts_walk (us ts : List Row) (A B : Option Addr) (ca cb : Nat) (w : World) (ha : RdRows w A us) (hb : RdRows w B ts) :
    Calls Try.prog 4 #[.slice A us.length ca, .slice B ts.length cb] w fun e w' => e = .returned (.bool true) ∧ Below w.heap.size w w' := by
  have hla := ha.1
  have hlb := hb.1
  have HA := Lib.hid ha
  have HB0 := Lib.hid hb
  clear ha hb
  by_cases h10 : 10 < us.length
  · go_enter Try.func4, Try.ntmps4
    go_wp2_with fail
    refine (summed_any _).mono ?_
    rintro e w1 ⟨rfl, hb1⟩
    go_wp2_with fail
    go_ret
    exact ⟨rfl, hb1⟩
  by_cases h11 : 10 < ts.length
  · go_enter Try.func4, Try.ntmps4
    go_wp2_with fail
    refine (summed_any _).mono ?_
    rintro e w1 ⟨rfl, hb1⟩
    go_wp2_with fail
    go_ret
    exact ⟨rfl, hb1⟩
  go_enter Try.func4, Try.ntmps4
  go_wp2
  go_loopw [5, 6] (fun v i wr => ∃ k : Nat, k ≤ us.length ∧ i = .int .i64 (k : Int) ∧ Hid (∀ l ∈ ll (us.take k), l.length ≤ 300) ∧ Hid (wr.ownsRow w.heap.size 24 1 v (k) (encs encR (us.take k))) ∧ Hid (Below w.heap.size w wr)) (fun _ i _ => us.length - (intOf i).toNat)
  case atStart => exact ⟨0, Nat.zero_le _, rfl, Lib.hid (by simp [ll]), Lib.hid (own_nil _ _ _ _), Lib.hid (Below.refl _ _)⟩
  case round =>
    obtain ⟨k, hk, rfl, HL, HO, HB⟩ := hrel
    by_cases hlt1 : k < us.length
    · obtain ⟨ad, he, hc, _, _, _⟩ := (HA.out.below HB.out).2 k hlt1
      subst he
      have hm := rows_take hlt1
      obtain ⟨r0, hr0⟩ : ∃ r0, us.getD k default = r0 := ⟨_, rfl⟩
      rw [hr0] at hc hm
      clear hr0
      by_cases h300 : 300 < r0.l.length
      · go_wp2_with fail
        refine (summed_any _).mono ?_
        rintro e w1 ⟨rfl, hb1⟩
        have H1 := Lib.hid (bl_seq HB.out hb1)
        clear hb1
        go_wp2_with fail
        go_ret
        exact ⟨rfl, H1.out⟩
      · have HM := Lib.hid hm
        obtain ⟨A7, n7, c7, rfl⟩ := own_slice' HO.out
        clear hm
        have hll : (us.take k).length = k := by simp; omega
        have HLL := Lib.hid hll
        clear hll
        go_wp2_with (at_builtin; refine print_append_of (w0 := w) encR w.heap.size rfl (.tmp 30) (.tmp 35) 22 24 (.slice none 0 0) 24 rfl Try.underlying22 infoR rfl (by decide) (.slice A7 n7 c7) (us.take k) r0 rfl rfl rfl ?aO HB.out HB.out.size ?aL ?_; (case aO => rw [HLL.out]; exact HO.out); (case aL => rw [HLL.out]; omega); intro v9 w9 ho hb hg hat; obtain ⟨A9, n9, c9, rfl⟩ := own_slice' ho; have O9 := Lib.hid (And.intro ho hb); clear ho hb hg hat)
        go_roundw
        case rel =>
          refine ⟨k + 1, by omega, by go_num, ?_, ?_, Lib.hid O9.out.2⟩
          · rw [HM.out, ll_append]
            refine Lib.hid fun l hl => ?_
            rcases List.mem_append.1 hl with hl | hl
            · exact HL.out l hl
            · simp only [ll, List.map_cons, List.map_nil, List.mem_singleton] at hl
              rw [hl]; omega
          · have h_ := O9.out.1
            rw [List.length_append, HLL.out, List.length_singleton] at h_
            rw [HM.out]
            exact Lib.hid h_
        case measure => simp [intOf]; omega
    · have hkn : us.take k = us := List.take_of_length_le (by omega)
      rw [hkn] at HL HO
      have hkl : k = us.length := by omega
      subst hkl
      clear hkn
      obtain ⟨A6, n6, c6, rfl⟩ := own_slice' HO.out
      go_wp2
      go_loopw [5, 7] (fun v i wr => ∃ k : Nat, k ≤ ts.length ∧ i = .int .i64 (k : Int) ∧ Hid (∀ l ∈ ll (us ++ ts.take k), l.length ≤ 300) ∧ Hid (wr.ownsRow w.heap.size 24 1 v (us.length + k) (encs encR (us ++ ts.take k))) ∧ Hid (Below w.heap.size w wr)) (fun _ i _ => ts.length - (intOf i).toNat)
      case atStart => exact ⟨0, Nat.zero_le _, rfl, by simpa using HL, by simpa using HO, HB⟩
      case round =>
        obtain ⟨k, hk, rfl, HL, HO, HB⟩ := hrel
        by_cases hlt2 : k < ts.length
        · obtain ⟨ad, he, hc, _, _, _⟩ := (HB0.out.below HB.out).2 k hlt2
          subst he
          have hm := rows_take hlt2
          obtain ⟨r0, hr0⟩ : ∃ r0, ts.getD k default = r0 := ⟨_, rfl⟩
          rw [hr0] at hc hm
          clear hr0
          by_cases h300 : 300 < r0.l.length
          · go_wp2_with fail
            refine (summed_any _).mono ?_
            rintro e w1 ⟨rfl, hb1⟩
            have H1 := Lib.hid (bl_seq HB.out hb1)
            clear hb1
            go_wp2_with fail
            go_ret
            exact ⟨rfl, H1.out⟩
          · have HM := Lib.hid hm
            obtain ⟨A7, n7, c7, rfl⟩ := own_slice' HO.out
            clear hm
            have hll : (us ++ ts.take k).length = us.length + k := by simp; omega
            have HLL := Lib.hid hll
            clear hll
            go_wp2_with (at_builtin; refine print_append_of (w0 := w) encR w.heap.size rfl (.tmp 50) (.tmp 55) 22 24 (.slice none 0 0) 24 rfl Try.underlying22 infoR rfl (by decide) (.slice A7 n7 c7) (us ++ ts.take k) r0 rfl rfl rfl ?aO HB.out HB.out.size ?aL ?_; (case aO => rw [HLL.out]; exact HO.out); (case aL => rw [HLL.out]; omega); intro v9 w9 ho hb hg hat; obtain ⟨A9, n9, c9, rfl⟩ := own_slice' ho; have O9 := Lib.hid (And.intro ho hb); clear ho hb hg hat)
            go_roundw
            case rel =>
              refine ⟨k + 1, by omega, by go_num, ?_, ?_, Lib.hid O9.out.2⟩
              · rw [HM.out, ← List.append_assoc, ll_append]
                refine Lib.hid fun l hl => ?_
                rcases List.mem_append.1 hl with hl | hl
                · exact HL.out l hl
                · simp only [ll, List.map_cons, List.map_nil, List.mem_singleton] at hl
                  rw [hl]; omega
              · have h_ := O9.out.1
                rw [List.length_append, HLL.out, List.length_singleton] at h_
                rw [HM.out, ← List.append_assoc]
                exact Lib.hid h_
            case measure => simp [intOf]; omega
        · have hkn : ts.take k = ts := List.take_of_length_le (by omega)
          rw [hkn] at HL HO
          have hkl : k = ts.length := by omega
          subst hkl
          clear hkn
          obtain ⟨A7, c7, rfl⟩ := own_slice HO.out
          have hml := mlen_bound HL.out
          have hma : mlen (ll us) ≤ 300 := by rw [ll_append, mlen_append] at hml; omega
          have hmb : mlen (ll ts) ≤ 300 := by rw [ll_append, mlen_append] at hml; omega
          have HRB := Lib.hid (RdRows.of (reads_k HO.out (by simp)) (fun r hr => by
            rcases List.mem_append.1 hr with hr | hr
            · exact (HA.out.below HB.out).ok r hr
            · exact (HB0.out.below HB.out).ok r hr))
          have hrl : (us ++ ts).length = us.length + ts.length := by simp
          have hba : Byt (xorL (ll us)) := xorL_byt (fun l hl => by
            obtain ⟨r, hr, rfl⟩ := List.mem_map.1 hl
            exact (HA.out.ok r hr).2.2)
          have hbb : Byt (xorL (ll ts)) := xorL_byt (fun l hl => by
            obtain ⟨r, hr, rfl⟩ := List.mem_map.1 hl
            exact (HB0.out.ok r hr).2.2)
          have hbx : Byt (xorL (ll us ++ ll ts)) := xorL_byt (fun l hl => by
            rcases List.mem_append.1 hl with hl | hl
            · obtain ⟨r, hr, rfl⟩ := List.mem_map.1 hl
              exact (HA.out.ok r hr).2.2
            · obtain ⟨r, hr, rfl⟩ := List.mem_map.1 hl
              exact (HB0.out.ok r hr).2.2)
          have BA := Lib.hid hba
          have BB := Lib.hid hbb
          have BX := Lib.hid hbx
          clear hba hbb hbx
          go_wp2_with fail
          refine (summed_any _).mono ?_
          rintro e w1 ⟨rfl, hb1⟩
          have T1 := Lib.hid (bl_seq HB.out hb1)
          have S1 := Lib.hid hb1
          clear hb1
          go_wp2_with fail
          refine (Xor_any us A ca _ (HA.out.below T1.out) (by omega)).mono ?_
          rintro e w2 ⟨v2, rfl, hn2⟩
          obtain ⟨A2, c2, rfl, hc2⟩ := hn2.slice
          have N2 := Lib.hid hn2
          have T2 := Lib.hid (bl_seq T1.out hn2.bel)
          clear hn2
          go_wp2_with fail
          refine (Xor_any ts B cb _ (HB0.out.below T2.out) (by omega)).mono ?_
          rintro e w3 ⟨v3, rfl, hn3⟩
          obtain ⟨A3, c3, rfl, hc3⟩ := hn3.slice
          have N3 := Lib.hid hn3
          have T3 := Lib.hid (bl_seq T2.out hn3.bel)
          have R3 := Lib.hid (N2.out.reads.below hn3.bel)
          have S3 := Lib.hid (bl_seq S1.out (bl_seq N2.out.bel hn3.bel))
          clear hn3
          go_wp2_with fail
          have hl1 : (xorL (ll us)).length ≤ 300 := by rw [xorL_length]; exact hma
          have hl2 : (xorL (ll ts)).length ≤ 300 := by rw [xorL_length]; exact hmb
          have hpp := xorL_parts (ll us) (ll ts)
          obtain ⟨X, hX⟩ : ∃ X, xorL (ll us) = X := ⟨_, rfl⟩
          obtain ⟨Y, hY⟩ : ∃ Y, xorL (ll ts) = Y := ⟨_, rfl⟩
          rw [hX] at BA R3 hc2 hl1 hpp
          rw [hY] at BB N3 hc3 hl2 hpp
          rw [hX, hY]
          have HP := Lib.hid hpp
          have hrows : RdRows (w3.alloc (.cells (encs encR [⟨A2, c2, X⟩, ⟨A3, c3, Y⟩]).toArray 24)) (some ⟨w3.heap.size, 0, none⟩) [⟨A2, c2, X⟩, ⟨A3, c3, Y⟩] := by
            refine RdRows.of (rows_lit w3 [⟨A2, c2, X⟩, ⟨A3, c3, Y⟩] (by simp)) ?_
            intro r hr
            simp only [List.mem_cons, List.mem_nil_iff, or_false] at hr
            rcases hr with rfl | rfl
            · exact RowOk.below (w := w3) ⟨hc2, R3.out, BA.out⟩ (bl_alloc (Below.refl _ _) _)
            · exact RowOk.below (w := w3) ⟨hc3, N3.out.reads, BB.out⟩ (bl_alloc (Below.refl _ _) _)
          have HX := Xor_any _ _ 2 _ hrows (by simp [ll, mlen]; omega)
          clear hrows hX hY hpp
          refine HX.mono ?_
          clear HX
          rintro e w4 ⟨v4, rfl, hn4⟩
          have hn4 : New _ w4 v4 (xorL [X, Y]) := hn4
          rw [HP.out] at hn4
          obtain ⟨A4, c4, rfl, hc4⟩ := hn4.slice
          have N4 := Lib.hid hn4
          have T4 := Lib.hid (bl_seq (bl_alloc T3.out _) hn4.bel)
          have S4 := Lib.hid (bl_seq (bl_alloc S3.out _) hn4.bel)
          clear hn4
          go_wp2_with fail
          have HX := Xor_any (us ++ ts) A7 c7 w4 (HRB.out.below S4.out) (by omega)
          rw [hrl, ll_append] at HX
          refine HX.mono ?_
          clear HX
          rintro e w5 ⟨v5, rfl, hn5⟩
          obtain ⟨A5, c5, rfl, hc5⟩ := hn5.slice
          have N5 := Lib.hid hn5
          have T5 := Lib.hid (bl_seq T4.out hn5.bel)
          have R5 := Lib.hid (N4.out.reads.below hn5.bel)
          clear hn5
          go_wp2_with fail
          refine (rSame_any _ _ A4 A5 _ _ c4 c5 _ R5.out N5.out.reads BX.out BX.out).mono ?_
          rintro e w6 ⟨rfl, hd6⟩
          have T6 := Lib.hid (bl_seq T5.out hd6.below)
          clear hd6
          simp only [decide_true]
          go_wp2_with fail
          go_ret
          exact ⟨rfl, T6.out⟩
end Go.Proofs.Ytkbjndfmbimjiaa
