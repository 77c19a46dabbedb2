import Derived.Test.YthmhbnpaalgdfaaCback
/-! The law CursorBack: its walk. -/
set_option linter.unusedVariables false
set_option linter.unusedSimpArgs false
namespace Go.Proofs.Ythmhbnpaalgdfaa
open Go.RowKit Go.Proofs.YthmhbnpaalgdfaaW.PrintWords
theorem layL_app (L : List Int) (k n : Int) (xs : List Int) (h : k ≠ 6) : layL L k n xs = L ++ layL [] k n xs := by
  by_cases h1 : k = 1
  · simp [layL, h1]
  by_cases h2 : k = 2
  · simp [layL, h2]
  by_cases h3 : k = 3
  · simp [layL, h3]
  by_cases h4 : k = 4
  · simp [layL, h4]
  by_cases h5 : k = 5
  · simp [layL, h5]
  by_cases h8 : k = 8
  · simp [layL, h8]
  simp [layL, h1, h2, h3, h4, h5, h, h8]
theorem backL_succ {rs : List It} {k : Nat} {r : It} (h : k < rs.length) (hr : rs.getD k default = r) (h6 : r.k ≠ 6) : backL (rs.take (k + 1)) = layL (backL (rs.take k)) r.k r.n r.l := by
  obtain ⟨Q, _, h2⟩ := backL_at h
  rw [h2, hr, pieceL, if_neg h6, layL_app (backL (rs.take k)) _ _ _ h6]
theorem backL_same {rs : List It} {k : Nat} {r : It} (h : k < rs.length) (hr : rs.getD k default = r) (h6 : r.k = 6) : backL (rs.take (k + 1)) = backL (rs.take k) := by
  obtain ⟨Q, _, h2⟩ := backL_at h
  rw [h2, hr, pieceL, if_pos h6, List.append_nil]
set_option maxHeartbeats 4000000 in
set_option maxRecDepth 100000 in
theorem back_walk (rs : List It) (A : Option Addr) (c : Nat) (w : World) (hr : RdIts w A rs) :
    Calls Try.prog 9 #[.slice A rs.length c] w fun e w' => e = .returned (.bool true) ∧ Below w.heap.size w w' := by
  have hlen := hr.1
  have hmf := makeFunc_
  have T0 : Below w.heap.size w (w.alloc (.cells #[.slice A rs.length c] 43)) := bl_alloc (Below.refl _ _) _
  have hr0 := hr.below T0
  have hq0 : (w.alloc (.cells #[.slice A rs.length c] 43)).heap[w.heap.size]? = some (.cells #[.slice A rs.length c] 43 (0, 0)) := heap_alloc_new w _
  have hs0 : (w.alloc (.cells #[.slice A rs.length c] 43)).heap.size = w.heap.size + 1 := by simp
  have HR0 := Lib.hid hr
  go_enter Try.func9, Try.ntmps9
  go_wp2_with fail
  obtain ⟨W, hW⟩ : ∃ W, w.alloc (.cells #[.slice A rs.length c] 43) = W := ⟨_, rfl⟩
  rw [hW] at T0 hr0 hq0 hs0 ⊢
  have HR := Lib.hid hr0
  have HQ := Lib.hid hq0
  have TW := Lib.hid (And.intro T0 hs0)
  clear hW T0 hr0 hq0 hs0 hr
  with_reducible refine (laid_any _).mono ?_
  rintro e w1 ⟨rfl, hb1⟩
  have H1 := Lib.hid hb1
  have zl : w1.cell? ⟨w.heap.size, 0, none⟩ = some (.slice A rs.length c) := (blk_cell (blk_below HQ.out hb1) 0).trans rfl
  clear hb1
  go_wp2_with fail
  refine (light_any rs A c _ (HR.out.below H1.out)).mono ?_
  rintro e w2 ⟨rfl, hd2⟩
  have H2 := Lib.hid (bl_seq H1.out hd2.below)
  clear hd2 zl
  cases hlb : lightB rs
  · go_wp2_with fail
    with_reducible refine (laid_any _).mono ?_
    rintro e w3 ⟨rfl, hb3⟩
    have H3 := Lib.hid (bl_seq (bl_seq TW.out.1 H2.out) hb3)
    clear hb3
    go_wp2_with fail
    go_ret
    exact ⟨rfl, H3.out⟩
  · have hl40 : rs.length ≤ 40 := by
      unfold lightB at hlb
      rw [Bool.and_eq_true, decide_eq_true_eq] at hlb
      exact hlb.1
    have hl400 : ∀ r ∈ rs, r.l.length ≤ 400 := by
      unfold lightB at hlb
      rw [Bool.and_eq_true] at hlb
      intro r hr
      simpa using List.all_eq_true.1 hlb.2 r hr
    have H400 := Lib.hid hl400
    have s2 := le_size H2.out
    clear hlb hl400
    go_wp2
    go_loopw [4] (fun i wr => ∃ (k : Nat) (v : Value), k ≤ rs.length ∧ i = .int .i64 (k : Int) ∧ Hid ((backL (rs.take k)).length ≤ k * 600) ∧ Hid (Byt (backL (rs.take k))) ∧ Hid (LayS wr w2.heap.size w2.heap.size v (backL (rs.take k)) (.slice none 0 0) []) ∧ Hid (Below w2.heap.size (w2.alloc (.cells #[.slice none 0 0] 31)) wr)) (fun i _ => rs.length - (intOf i).toNat)
    case atStart => exact ⟨0, .slice none 0 0, Nat.zero_le _, rfl, Lib.hid (by simp [backL]), Lib.hid (fun x hx => by simp [backL] at hx), Lib.hid ⟨WrV.new w2, own_nil _ _ _ _, .inl rfl⟩, Lib.hid (Below.refl _ _)⟩
    case round =>
      obtain ⟨k, v, hk, rfl, HL, HY, HS, HB⟩ := hrel
      have hbr : Below W.heap.size W wr := bl_step (bl_alloc H2.out _) HB.out s2
      have zl : wr.cell? ⟨w.heap.size, 0, none⟩ = some (.slice A rs.length c) := (blk_cell (blk_below HQ.out hbr) 0).trans rfl
      by_cases hlt : k < rs.length
      · obtain ⟨ad, he, h1, h2, h3, h4, h5, h6, h7, h8⟩ := (HR.out.below hbr).2 k hlt
        have hr0w := (HR.out.2 k hlt).choose_spec.2.2.2.2.2.1
        subst he
        have hsu := @backL_succ rs k _ hlt rfl
        have hsa := @backL_same rs k _ hlt rfl
        have hr4 := H400.out (rs.getD k default) (by rw [List.getD_eq_getElem?_getD, List.getElem?_eq_getElem hlt]; simp)
        obtain ⟨r0, hr0⟩ : ∃ r0, rs.getD k default = r0 := ⟨_, rfl⟩
        rw [hr0] at h1 h2 h3 h4 h5 h6 h7 h8 hsu hsa hr4 hr0w
        obtain ⟨kd, n, Ab, cb, xs⟩ := r0
        simp only at h1 h2 h3 h4 h5 h6 h7 h8 hsu hsa hr4 hr0w
        have hll := layL_len (backL (rs.take k)) xs kd n hr4 h7
        have hbb := layL_byt HY.out h6 kd n
        have HX := Lib.hid (And.intro h4 (And.intro h5 (And.intro h6 (And.intro h7 (And.intro h8 (And.intro hr4 hr0w))))))
        have HSU := Lib.hid (And.intro hsu hsa)
        have HLL := Lib.hid hll
        have HBB := Lib.hid hbb
        rw [add_field _ _ _ (by omega)] at h2 h3
        clear h4 h5 h6 h7 h8 hr4 hsu hsa hr0 hbr hll hbb hr0w
        by_cases hk6 : kd = 6
        · subst hk6
          go_wp2_with fail
          go_roundw
          case rel => exact ⟨k + 1, v, by omega, by go_num, Lib.hid (by rw [HSU.out.2 rfl]; have h2_ := HL.out; omega), Lib.hid (by rw [HSU.out.2 rfl]; exact HY.out), Lib.hid (by rw [HSU.out.2 rfl]; exact HS.out), HB⟩
          case measure => simp [intOf]; omega
        · have nv6 : (kd == 6) = false := by simpa using hk6
          have HK6 := Lib.hid hk6
          clear hk6
          go_wp2_with fail
          refine (lay_any w2.heap.size w2.heap.size v (.slice none 0 0) (backL (rs.take k)) [] xs Ab cb kd n wr HS.out (Nat.le_refl _) (by have h_ := le_size HB.out; simp at h_; omega) HX.out.2.1 (reads_far HX.out.2.2.2.2.2.2 s2 (Nat.le_refl _) HS.out.wr) HX.out.1 HX.out.2.2.1 HX.out.2.2.2.2.2.1 HX.out.2.2.2.1 HX.out.2.2.2.2.1 (by have h_ := HL.out; omega) (by simp)).mono ?_
          rintro e w3 ⟨v3, bv3, rfl, hs3, hb3⟩
          have HS3 := Lib.hid (LayS.mk hs3.wr (own_nil _ _ _ _) (.inl rfl) : LayS w3 w2.heap.size w2.heap.size v3 _ (.slice none 0 0) [])
          have HB3 := Lib.hid hb3
          clear hs3 hb3 zl
          go_wp2_with fail
          go_roundw
          case rel => exact ⟨k + 1, v3, by omega, by go_num, Lib.hid (by rw [HSU.out.1 HK6.out]; have h1_ := HLL.out; have h2_ := HL.out; omega), Lib.hid (by rw [HSU.out.1 HK6.out]; exact HBB.out), Lib.hid (by rw [HSU.out.1 HK6.out]; exact HS3.out), Lib.hid (HB.out.trans HB3.out)⟩
          case measure => simp [intOf]; omega
      · have hkn : rs.take k = rs := List.take_of_length_le (by omega)
        rw [hkn] at HL HY HS
        have TR := Lib.hid hbr
        have hLl : (backL rs).length ≤ 24000 := by have h_ := HL.out; omega
        clear hkn HL HB hbr
        go_wp2_with fail
        have hbs : ((wr.alloc (.cells #[.bool true] 4)).alloc (.cells #[.int .i64 (-1)] 3)).heap[wr.heap.size]? = some (.cells #[.bool true] 4 (0, 0)) := blk_alloc (heap_alloc_new wr _) _
        have hbe : ((wr.alloc (.cells #[.bool true] 4)).alloc (.cells #[.int .i64 (-1)] 3)).heap[wr.heap.size + 1]? = some (.cells #[.int .i64 (-1)] 3 (0, 0)) := by
          have h_ := heap_alloc_new (wr.alloc (.cells #[.bool true] 4)) (.cells #[.int .i64 (-1)] 3)
          simpa using h_
        have hbw : Below wr.heap.size wr ((wr.alloc (.cells #[.bool true] 4)).alloc (.cells #[.int .i64 (-1)] 3)) := bl_alloc (bl_alloc (Below.refl _ _) _) _
        have hsv : ((wr.alloc (.cells #[.bool true] 4)).alloc (.cells #[.int .i64 (-1)] 3)).heap.size = wr.heap.size + 2 := by simp
        have hls := HS.out.below hbw
        obtain ⟨V, hV⟩ : ∃ V, ((wr.alloc (.cells #[.bool true] 4)).alloc (.cells #[.int .i64 (-1)] 3)) = V := ⟨_, rfl⟩
        rw [hV] at hbs hbe hbw hsv hls ⊢
        have HV := Lib.hid (And.intro hbs (And.intro hbe (And.intro hbw hsv)))
        have HLS := Lib.hid hls
        clear hbs hbe hbw hsv hls hV zl
        refine (Bytes_any w2.heap.size w2.heap.size v (backL rs) V HLS.out.wr (by omega)).mono ?_
        rintro e w5 ⟨v5, rfl, hn5⟩
        have hn5 : New V w5 v5 (backL rs) := hn5
        obtain ⟨A5, c5, rfl, hc5⟩ := hn5.slice
        have N5 := Lib.hid hn5
        have T5 : Hid (Below W.heap.size W w5) := Lib.hid (bl_seq (bl_seq TR.out HV.out.2.2.1) hn5.bel)
        have b5s := Lib.hid (blk_below HV.out.1 hn5.bel)
        have b5e := Lib.hid (blk_below HV.out.2.1 hn5.bel)
        have sz5 : Hid (w.heap.size + 1 ≤ wr.heap.size ∧ wr.heap.size + 2 ≤ w5.heap.size) := Lib.hid (by have h1 := TR.out.size; have h2 := hn5.bel.size; have h3 := HV.out.2.2.2; have h4 := TW.out.2; omega)
        clear hn5
        go_wp2_with fail
        refine (read_mods A5 (backL rs).length c5 39 #[.pointer (some ⟨w.heap.size, 0, none⟩), .pointer (some ⟨wr.heap.size, 0, none⟩), .pointer (some ⟨wr.heap.size + 1, 0, none⟩)] w5 (fun i => i = wr.heap.size ∨ i = wr.heap.size + 1) (fun w' => w'.heap[wr.heap.size]? = some (.cells #[.bool true] 4 (0, 0)) ∧ w'.heap[wr.heap.size + 1]? = some (.cells #[.int .i64 0] 3 (0, 0))) (fun _ => False) Try.f39 Try.func39 (by kernel_rfl) (by kernel_rfl) (by have h_ := sz5.out; rintro i (rfl | rfl) <;> omega) (fun wa wb h k => by have h_ := sz5.out; exact ⟨k.blk h.1 (by omega) (by simp), k.blk h.2 (by omega) (by simp)⟩) (fun _ _ h _ => h) ?_).mono ?_
        · intro wc he hrd hbl hsz
          have h_ := sz5.out
          have hfar := fun q hq => N5.out.far (k := q) hq
          have hlt5 := fun q hq => (N5.out.1.lt q hq).2
          refine (back1_any rs wc w (w5.heap.size + 1) w.heap.size wr.heap.size (wr.heap.size + 1) A5 A (backL rs).length c5 c HR0.out (bl_seq (bl_seq TW.out.1 T5.out) hbl) (by omega) (by omega) (by omega) H400.out (N5.out.reads.below hbl) HY.out hc5 (by omega) (fun a ha => ?_) (by omega) (by omega) (by omega) (by omega) (by omega) (by omega) (blk_below (blk_below HQ.out T5.out) hbl) ⟨hrd, Mods.refl _ _, blk_below b5s.out hbl, blk_below b5e.out hbl⟩).mono ?_
          · have e1 := hfar a.block (by rw [ha]; rfl)
            have e2 := hlt5 a.block (by rw [ha]; rfl)
            have e3 := HV.out.2.2.2
            omega
          · rintro e w' ⟨hM, he2, hq2, hq3⟩
            exact ⟨hM, .inl ⟨he2, hq2, hq3⟩⟩
        · rintro e w6 ⟨hM, ⟨rfl, hP1, hP2⟩ | ⟨_, hF⟩⟩
          · have hz0 : w6.cell? ⟨wr.heap.size, 0, none⟩ = some (.bool true) := (blk_cell hP1 0).trans rfl
            have hz1 : w6.cell? ⟨wr.heap.size + 1, 0, none⟩ = some (.int .i64 0) := (blk_cell hP2 0).trans rfl
            have T6 : Hid (Below w.heap.size w w6) := Lib.hid ((bl_seq TW.out.1 T5.out).trans (hM.below (B := w.heap.size) (by have h_ := sz5.out; omega) (by have h_ := sz5.out; rintro i (rfl | rfl) <;> omega)))
            clear hM hP1 hP2
            go_wp2_with fail
            go_ret
            exact ⟨by simp, T6.out⟩
          · exact hF.elim
end Go.Proofs.Ythmhbnpaalgdfaa
