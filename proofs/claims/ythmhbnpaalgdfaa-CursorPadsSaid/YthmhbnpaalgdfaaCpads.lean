import Derived.Test.YthmhbnpaalgdfaaCtexts
/-! The law CursorPads: its walk. -/
set_option linter.unusedVariables false
set_option linter.unusedSimpArgs false
namespace Go.Proofs.Ythmhbnpaalgdfaa
open Go.RowKit Go.Proofs.YthmhbnpaalgdfaaW.PrintWords
set_option maxHeartbeats 1000000 in
theorem pads1_any (p qb qz : Nat) (A B : Option Addr) (m c n d : Nat) (xs : List Int) (w : World) (h : RdV w p A m c ((0 : Nat) : Int)) (hr : ReadsInt w .u8 A m xs) (hb : Byt xs) (hc : m ≤ c) (hm : n ≤ m) (hm2 : m ≤ 100000) (hne : ∀ a, A = some a → a.block ≠ p)
    (hg : w.heap[qb]? = some (.cells #[.slice B n d] 22 (0, 0))) (hq : w.heap[qz]? = some (.cells #[.bool false] 4 (0, 0))) (d1 : qb ≠ p) (d2 : qz ≠ p) (hz : (xs.drop n).all (· == 0) = true) :
    Calls Try.prog 27 #[.pointer (some ⟨p, 0, none⟩), .pointer (some ⟨qb, 0, none⟩), .pointer (some ⟨qz, 0, none⟩)] w fun e w' => Mods (fun i => i = p ∨ i = qz) w w' ∧ e = .returned (.tuple #[]) ∧ w'.heap[qz]? = some (.cells #[.bool true] 4 (0, 0)) := by
  have hcc := Lib.hid (mRaw_yes p A m c 0 n xs w h hr hc (by omega) (by omega) hne)
  have HX := Lib.hid (And.intro hr (And.intro hne hz))
  have HQ := Lib.hid hq
  have z0 : w.cell? ⟨qb, 0, none⟩ = some (.slice B n d) := (blk_cell hg 0).trans rfl
  clear hr hb hne hg hq hz h
  go_enter Try.func27, Try.ntmps27
  go_wp2_with fail
  refine hcc.out.mono ?_
  rintro e w1 ⟨v1, rfl, _, h1, h2⟩
  have hu := Lib.hid (mZero p A m c (0 + n) xs w1 h1 (h2.reads HX.out.1 HX.out.2.1) hc (by omega))
  have H2 := Lib.hid h2
  clear h1 h2
  go_wp2_with fail
  refine hu.out.mono ?_
  rintro e w2 ⟨rfl, hd⟩
  have hze : (xs.drop (0 + n)).all (· == 0) = true := by rw [Nat.zero_add]; exact HX.out.2.2
  rw [hze]
  have hq2 := blk_below (H2.out.blk HQ.out d2) hd.below
  have zf := blk_frozen hq2 0
  have zc : w2.cell? ⟨qz, 0, none⟩ = some (.bool false) := (blk_cell hq2 0).trans rfl
  have H3 := Lib.hid (And.intro (H2.out.trans (Mods.of_below hd.below)) hq2)
  clear hd hq2 hze
  go_wp2_with fail
  go_end0
  exact ⟨(H3.out.1.mono (fun i e => .inl e)).at_ (.inl (.inr rfl)) 0 _, rfl, blk_put H3.out.2 0 _ (cs' := #[.bool true]) (by simp)⟩
set_option maxHeartbeats 1000000 in
theorem pads_heavy (A : Option Addr) (m c : Nat) (n : Int) (w : World) (hm : m ≤ 9223372036854775807) (hl : 400 < m ∨ 3000 < n) :
    Calls Try.prog 6 #[.slice A m c, .int .i64 n] w fun e w' => e = .returned (.bool true) ∧ Below w.heap.size w w' := by
  have hx : ∀ w1 : World, Below (w.alloc (.cells #[.slice A m c] 22)).heap.size (w.alloc (.cells #[.slice A m c] 22)) w1 → w1.cell? ⟨w.heap.size, 0, none⟩ = some (.slice A m c) := fun w1 hb => (blk_cell (blk_below (heap_alloc_new w _) hb) 0).trans rfl
  by_cases b2 : (400 : Int) < m
  · clear hl
    go_enter Try.func6, Try.ntmps6
    go_wp2_with fail
    refine (laid_any _).mono ?_
    rintro e w1 ⟨rfl, hb1⟩
    have zc := hx w1 hb1
    have T1 : Hid (Below w.heap.size w w1) := Lib.hid (bl_seq (bl_alloc (Below.refl _ _) _) hb1)
    clear hb1
    go_wp2_with fail
    refine (laid_any _).mono ?_
    rintro e w2 ⟨rfl, hb2⟩
    have T2 := Lib.hid (bl_seq T1.out hb2)
    clear hb2
    go_wp2_with fail
    go_ret
    exact ⟨by simp, T2.out⟩
  · have b3 : (3000 : Int) < n := by rcases hl with h | h; omega; exact h
    clear hl
    go_enter Try.func6, Try.ntmps6
    go_wp2_with fail
    refine (laid_any _).mono ?_
    rintro e w1 ⟨rfl, hb1⟩
    have zc := hx w1 hb1
    have T1 : Hid (Below w.heap.size w w1) := Lib.hid (bl_seq (bl_alloc (Below.refl _ _) _) hb1)
    clear hb1
    go_wp2_with fail
    refine (laid_any _).mono ?_
    rintro e w2 ⟨rfl, hb2⟩
    have T2 := Lib.hid (bl_seq T1.out hb2)
    clear hb2
    go_wp2_with fail
    go_ret
    exact ⟨by simp, T2.out⟩
theorem padL_len (xs : List Int) (n : Int) : (padL xs n).length = max xs.length n.toNat := by simp [padL]; omega
theorem padL_byt' {xs : List Int} (h : Byt xs) (n : Int) : Byt (padL xs n) := by
  intro y hy
  rcases List.mem_append.1 hy with hy | hy
  · exact h y hy
  · rw [(List.mem_replicate.1 hy).2]; omega
theorem padL_drop (xs : List Int) (n : Int) : ((padL xs n).drop xs.length).all (· == 0) = true := by
  rw [padL, List.drop_left' rfl]
  simp
theorem padL_pad (xs : List Int) (n : Int) : padL xs n ++ List.replicate (n.toNat - (padL xs n).length) 0 = padL xs n := by
  have h : n.toNat - (padL xs n).length = 0 := by rw [padL_len]; omega
  rw [h]; simp
set_option maxHeartbeats 4000000 in
theorem pads_main (xs : List Int) (A : Option Addr) (c : Nat) (n : Int) (w : World) (hr : ReadsInt w .u8 A xs.length xs) (hb : Byt xs) (hc : xs.length ≤ c) (hl : xs.length ≤ 400) (hn : n ≤ 3000) (hn0 : -9223372036854775808 ≤ n) :
    Calls Try.prog 6 #[.slice A xs.length c, .int .i64 n] w fun e w' => e = .returned (.bool true) ∧ Below w.heap.size w w' := by
  have hx : ∀ w1 : World, Below (w.alloc (.cells #[.slice A xs.length c] 22)).heap.size (w.alloc (.cells #[.slice A xs.length c] 22)) w1 → w1.heap[w.heap.size]? = some (.cells #[.slice A xs.length c] 22 (0, 0)) := fun w1 hb => blk_below (heap_alloc_new w _) hb
  have HB0 := Lib.hid hx
  have HR := Lib.hid hr
  have HB := Lib.hid hb
  have hmf := makeFunc_
  have b2 : ¬ (400 : Int) < xs.length := by omega
  have b3 : ¬ (3000 : Int) < n := by omega
  have hpl := padL_len xs n
  have hpl2 : (padL xs n).length ≤ 3000 := by omega
  have hpl3 : xs.length ≤ (padL xs n).length := by omega
  have HL := Lib.hid (And.intro (padL_byt' hb n) (And.intro (padL_drop xs n) (padL_pad xs n)))
  obtain ⟨L, hL⟩ : ∃ L, padL xs n = L := ⟨_, rfl⟩
  have hL2 : xs ++ List.replicate (n.toNat - xs.length) 0 = L := hL
  rw [hL] at hpl2 hpl3 HL
  have HE := Lib.hid (And.intro hL hL2)
  clear hr hb hx hpl hL hL2
  go_enter Try.func6, Try.ntmps6
  go_wp2_with fail
  refine (laid_any _).mono ?_
  rintro e w1 ⟨rfl, hb1⟩
  have zc : w1.cell? ⟨w.heap.size, 0, none⟩ = some (.slice A xs.length c) := (blk_cell (HB0.out w1 hb1) 0).trans rfl
  have B1 := Lib.hid (HB0.out w1 hb1)
  have T1 : Hid (Below w.heap.size w w1) := Lib.hid (bl_seq (bl_alloc (Below.refl _ _) _) hb1)
  have hlt := blk_lt B1.out
  clear hb1 HB0
  go_wp2_with fail
  have zc1 : ∀ o, (w1.alloc o).cell? ⟨w.heap.size, 0, none⟩ = some (.slice A xs.length c) := fun o => (blk_cell (blk_alloc B1.out o) 0).trans rfl
  go_wp2_with fail
  refine (Raw_any w1.heap.size w1.heap.size (.slice none 0 0) [] xs A xs.length c _ (WrV.new w1) (Nat.le_refl _) (by simp) ((HR.out.below T1.out).allocS _) (by simp; omega)).mono ?_
  rintro e w2 ⟨rfl, hw2⟩
  obtain ⟨v2, g2⟩ := hw2
  rw [List.nil_append] at g2
  have G2 := Lib.hid g2
  have hs2 : w1.heap.size ≤ w2.heap.size := by have h_ := g2.2.2.2.size; simp at h_; omega
  clear g2
  go_wp2_with fail
  refine (Pad_any w1.heap.size w1.heap.size v2 xs n w2 G2.out.1 (Nat.le_refl _) hs2 (by omega) (by omega)).mono ?_
  rintro e w3 ⟨rfl, hw3⟩
  rw [HE.out.2] at hw3
  obtain ⟨v3, g3⟩ := WrS.to G2.out hw3
  have G3 := Lib.hid g3
  have hs3 : w1.heap.size ≤ w3.heap.size := by have h_ := g3.2.2.2.size; simp at h_; omega
  clear g3 hw3
  go_wp2_with fail
  refine (Bytes_any w1.heap.size w1.heap.size v3 L w3 G3.out.1 (by omega)).mono ?_
  rintro e w4 ⟨v4, rfl, hn4⟩
  have hn4 : New w3 w4 v4 L := hn4
  obtain ⟨A4, c4, rfl, hc4⟩ := hn4.slice
  have N4 := Lib.hid hn4
  have T4 : Hid (Below w1.heap.size w1 w4) := Lib.hid (bl_seq (bl_step (bl_alloc (Below.refl _ _) _) G3.out.2.2.2 (Nat.le_refl _)) hn4.bel)
  have G4 := Lib.hid (G3.out.1.below hn4.bel)
  have B4 := Lib.hid (blk_below B1.out T4.out)
  clear hn4 hs2 hs3
  go_wp2_with fail
  have hbq : (w4.alloc (.cells #[.bool false] 4)).heap[w4.heap.size]? = some (.cells #[.bool false] 4 (0, 0)) := heap_alloc_new w4 _
  have hbw : Below w4.heap.size w4 (w4.alloc (.cells #[.bool false] 4)) := bl_alloc (Below.refl _ _) _
  have hsw : (w4.alloc (.cells #[.bool false] 4)).heap.size = w4.heap.size + 1 := by simp
  obtain ⟨W, hW⟩ : ∃ W, (w4.alloc (.cells #[.bool false] 4)) = W := ⟨_, rfl⟩
  rw [hW] at hbq hbw hsw ⊢
  have HW := Lib.hid (And.intro hbq (And.intro hbw hsw))
  have hlt4 := blk_lt B4.out
  clear hbq hbw hsw hW
  refine (read_mods A4 L.length c4 27 #[.pointer (some ⟨w.heap.size, 0, none⟩), .pointer (some ⟨w4.heap.size, 0, none⟩)] W (fun i => i = w4.heap.size) (fun w' => w'.heap[w4.heap.size]? = some (.cells #[.bool true] 4 (0, 0))) (fun _ => False) Try.f27 Try.func27 (by kernel_rfl) (by kernel_rfl) (by have h_ := HW.out.2.2; rintro i rfl; omega) (fun wa wb h k => by have h_ := HW.out.2.2; exact k.blk h (by omega) (by simp)) (fun _ _ h _ => h) ?_).mono ?_
  · intro w5 he hrd hbl hsz
    have h_ := HW.out.2.2
    have hr4 := N4.out.reads
    have hlt : ∀ a, A4 = some a → a.block ≠ W.heap.size + 1 := by
      by_cases h0 : 0 < L.length
      · intro a ha; have := A_lt hr4 h0 a ha; omega
      · intro a ha
        obtain ⟨A', c', e, _⟩ := N4.out.slice
        have h00 : L.length = 0 := by omega
        intro e2
        have hown := N4.out.1
        have := hown.lt a.block (by rw [ha]; rfl)
        omega
    refine (pads1_any (W.heap.size + 1) w.heap.size w4.heap.size A4 A L.length c4 xs.length c L w5 hrd ((hr4.below HW.out.2.1).below hbl) HL.out.1 hc4 (by omega) (by omega) hlt (blk_below (blk_below B4.out HW.out.2.1) hbl) (blk_below HW.out.1 hbl) (by omega) (by omega) HL.out.2.1).mono ?_
    rintro e w' ⟨hM, he2, hq2⟩
    exact ⟨hM, .inl ⟨he2, hq2⟩⟩
  · rintro e w5 ⟨hM, ⟨rfl, hP⟩ | ⟨_, hF⟩⟩
    · have hz0 : w5.cell? ⟨w4.heap.size, 0, none⟩ = some (.bool true) := (blk_cell hP 0).trans rfl
      have zc5 : w5.cell? ⟨w.heap.size, 0, none⟩ = some (.slice A xs.length c) := (blk_cell (hM.blk (blk_below B4.out HW.out.2.1) (by omega)) 0).trans rfl
      have T5 : Hid (Below w4.heap.size w4 w5) := Lib.hid (HW.out.2.1.trans (hM.below (B := w4.heap.size) (by have h_ := HW.out.2.2; omega) (by rintro i rfl; omega)))
      have B5 := Lib.hid (blk_below B4.out T5.out)
      clear hM hP
      go_wp2_with fail
      refine (rPad_any xs A c n w5 ((HR.out.below T1.out).below (bl_seq T4.out T5.out)) hc (by omega) (by omega) (by omega)).mono ?_
      rintro e w6 ⟨v6, rfl, hn6⟩
      rw [HE.out.1] at hn6
      obtain ⟨A6, c6, rfl, _⟩ := hn6.slice
      have N6 := Lib.hid hn6
      have T6 := Lib.hid (bl_seq T5.out hn6.bel)
      clear hn6
      go_wp2_with fail
      refine (rSame_any L L A4 A6 L.length L.length c4 c6 w6 (N4.out.reads.below T6.out) N6.out.reads HL.out.1 HL.out.1).mono ?_
      rintro e w7 ⟨rfl, hd7⟩
      have T7 := Lib.hid (bl_seq T6.out hd7.below)
      have b7 : decide (L = L) = true := by simp
      clear hd7
      go_wp2_with fail
      have G7 := Lib.hid (G4.out.below T7.out)
      refine (Pad_any w1.heap.size w1.heap.size v3 L n w7 G7.out (Nat.le_refl _) (by have h1 := T4.out.size; have h2 := T7.out.size; omega) (by omega) (by omega)).mono ?_
      rintro e w8 ⟨rfl, hw8⟩
      rw [HL.out.2.2] at hw8
      obtain ⟨v8, g8⟩ := hw8
      have G8 := Lib.hid g8
      have NE : Hid (∀ a, A4 = some a → a.block ≠ w1.heap.size ∧ some a.block ≠ v3.ownBlock) := Lib.hid (by
        intro a ha
        have h1 := N4.out.far (k := a.block) (by rw [ha]; rfl)
        have h2 := G3.out.1.lt
        refine ⟨by omega, fun e => ?_⟩
        have h3 := (G3.out.1.own.lt _ e.symm).2
        omega)
      clear g8
      go_wp2_with fail
      refine (Bytes_any w1.heap.size w1.heap.size v8 L w8 G8.out.1 (by omega)).mono ?_
      rintro e w9 ⟨v9, rfl, hn9⟩
      have hn9 : New w8 w9 v9 L := hn9
      obtain ⟨A9, c9, rfl, _⟩ := hn9.slice
      have N9 := Lib.hid hn9
      clear hn9
      go_wp2_with fail
      refine (rSame_any L L A9 A4 L.length L.length c9 c4 w9 N9.out.reads ((reads_keep (N4.out.reads.below T7.out) G8.out.2.1 (fun _ => NE.out)).below N9.out.bel) HL.out.1 HL.out.1).mono ?_
      rintro e w10 ⟨rfl, hd10⟩
      have D10 := Lib.hid hd10.below
      clear hd10
      go_wp2_with fail
      go_ret
      refine ⟨by simp, ?_⟩
      have t1 : Below w.heap.size w w7 := bl_seq T1.out (bl_seq T4.out T7.out)
      have t2 : Below w.heap.size w w8 := t1.trans (G8.out.2.2.2.mono T1.out.size)
      exact bl_seq (bl_seq t2 N9.out.bel) D10.out
    · exact hF.elim
theorem pads_walk (xs : List Int) (A : Option Addr) (c : Nat) (n : Int) (w : World) (hr : ReadsInt w .u8 A xs.length xs) (hb : Byt xs) (hc : xs.length ≤ c) (hn0 : -9223372036854775808 ≤ n) :
    Calls Try.prog 6 #[.slice A xs.length c, .int .i64 n] w fun e w' => e = .returned (.bool true) ∧ Below w.heap.size w w' := by
  by_cases h1 : xs.length ≤ 400
  · by_cases h2 : n ≤ 3000
    · exact pads_main xs A c n w hr hb hc h1 h2 hn0
    · exact pads_heavy A _ c n w hr.2.1 (.inr (by omega))
  · exact pads_heavy A _ c n w hr.2.1 (.inl (by omega))
end Go.Proofs.Ythmhbnpaalgdfaa
