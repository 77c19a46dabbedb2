import Derived.Test.YthmhbnpaalgdfaaRdm
import Derived.Test.YthmhbnpaalgdfaaLaid
/-! The law CursorTexts: its walk. -/
set_option linter.unusedVariables false
set_option linter.unusedSimpArgs false
namespace Go.Proofs.Ythmhbnpaalgdfaa
open Go.RowKit Go.Proofs.YthmhbnpaalgdfaaW.PrintWords
theorem str_bytes (t : ByteArray) : strOfNums (bytesOf t) = t := by
  apply ByteArray.ext
  apply Array.ext'
  rw [strOfNums_data, bytesOf, List.map_map]
  conv => rhs; rw [← List.map_id t.data.toList]
  refine List.map_congr_left fun c _ => ?_
  simp
theorem bytesOf_byt (s : ByteArray) : Byt (bytesOf s) := by
  intro x hx
  rw [bytesOf, List.mem_map] at hx
  obtain ⟨c, _, rfl⟩ := hx
  have := c.toNat_lt
  omega
theorem makeFunc_ (fn : Fn) (first cap : Array Value) (w : World) : (Instr.makeFunc fn first cap).run Try.prog w = .ok (.func fn first cap) w := rfl
theorem A_lt {w : World} {k : IntKind} {A : Option Addr} {n : Nat} {xs : List Int} (h : ReadsInt w k A n xs) (hn : 0 < n) : ∀ a, A = some a → a.block < w.heap.size := by
  intro a ha
  obtain ⟨ad, e2, hc2⟩ := h.2.2 hn
  obtain rfl := Option.some.inj (ha.symm.trans e2)
  have h_ := World.block_lt_of_cell? w _ (hc2 0 hn)
  have hb0 : (a.add 0).block = a.block := by unfold Addr.add; split <;> rfl
  rwa [hb0] at h_
set_option maxHeartbeats 1000000 in
theorem texts1_any (p qg qm : Nat) (A : Option Addr) (m c n : Nat) (s0 : ByteArray) (x0 : Int) (xs : List Int) (w : World) (h : RdV w p A m c ((0 : Nat) : Int)) (hr : ReadsInt w .u8 A m xs) (hb : Byt xs) (hc : m ≤ c) (hn : num (xs.take 1) = n) (hm : m = n + 2) (hx : num ((xs.drop (1 + n)).take 1) = 9) (hne : ∀ a, A = some a → a.block ≠ p)
    (hg : w.heap[qg]? = some (.cells #[.string s0] 9 (0, 0))) (hq : w.heap[qm]? = some (.cells #[.int .u8 x0] 5 (0, 0))) (d1 : qg ≠ p) (d2 : qm ≠ p) (d3 : qg ≠ qm) (d4 : qm ≠ qg) :
    Calls Try.prog 22 #[.pointer (some ⟨p, 0, none⟩), .pointer (some ⟨qg, 0, none⟩), .pointer (some ⟨qm, 0, none⟩)] w fun e w' => Mods (fun i => i = p ∨ i = qg ∨ i = qm) w w' ∧ e = .returned (.tuple #[]) ∧ w'.heap[qg]? = some (.cells #[.string (strOfNums ((xs.drop 1).take n))] 9 (0, 0)) ∧ w'.heap[qm]? = some (.cells #[.int .u8 9] 5 (0, 0)) := by
  have hcc := Lib.hid (mText_yes p A m c 0 n xs w h hr hb hc (by simpa using hn) (by omega) hne)
  have HX := Lib.hid (And.intro hr (And.intro hb (And.intro hne hx)))
  have HQ := Lib.hid (And.intro hg hq)
  obtain ⟨t, ht⟩ : ∃ t, strOfNums ((xs.drop 1).take n) = t := ⟨_, rfl⟩
  rw [Nat.zero_add, ht] at hcc
  rw [ht]
  clear hr hb hne hg hq hn hx h ht
  go_enter Try.func22, Try.ntmps22
  go_wp2_with fail
  refine hcc.out.mono ?_
  rintro e w1 ⟨rfl, h1, h2⟩
  have hu := Lib.hid (mU8_yes p A m c (1 + n) xs w1 h1 (h2.reads HX.out.1 HX.out.2.2.1) HX.out.2.1 hc (by omega) HX.out.2.2.1)
  rw [HX.out.2.2.2] at hu
  have H2 := Lib.hid h2
  clear h1 h2
  go_wp2_with fail
  refine hu.out.mono ?_
  rintro e w2 ⟨rfl, h3, h4⟩
  have hM := H2.out.trans h4
  have hg2 := hM.blk HQ.out.1 d1
  have hq2 := hM.blk HQ.out.2 d2
  have hz0 := (blk_cell hg2 0).trans rfl
  have hf0 := blk_frozen hg2 0
  have hz1 := (blk_cell hq2 0).trans rfl
  have hf1 := blk_frozen hq2 0
  have H3 := Lib.hid (And.intro hM (And.intro hg2 hq2))
  clear h3 h4 hM hg2 hq2
  go_wp2_with fail
  go_end0
  have e1 := blk_put H3.out.2.1 0 (.string t) (cs' := #[.string t]) (by simp)
  have e2 := blk_far e1 (p := ⟨qm, 0, none⟩) d3 (.int .u8 9)
  have e3 := blk_put (blk_far H3.out.2.2 (p := ⟨qg, 0, none⟩) d4 (.string t)) 0 (.int .u8 9) (cs' := #[.int .u8 9]) (by simp)
  exact ⟨((H3.out.1.mono (fun i e => .inl e)).at_ (.inl (.inr (.inl rfl))) 0 _).at_ (.inl (.inr (.inr rfl))) 0 _, rfl, e2, e3⟩
set_option maxHeartbeats 1000000 in
theorem texts_heavy (s : ByteArray) (w : World) (hl : 600 < s.size) :
    Calls Try.prog 5 #[.string s] w fun e w' => e = .returned (.bool true) ∧ Below w.heap.size w w' := by
  go_enter Try.func5, Try.ntmps5
  go_wp2_with fail
  refine (laid_any _).mono ?_
  rintro e w1 ⟨rfl, hb1⟩
  have b2 : (600 : Int) < s.size := by omega
  have T1 := Lib.hid hb1
  clear hb1
  go_wp2_with fail
  refine (laid_any _).mono ?_
  rintro e w2 ⟨rfl, hb2⟩
  have T2 := Lib.hid (bl_seq T1.out hb2)
  clear hb2
  go_wp2_with fail
  go_ret
  exact ⟨by simp, T2.out⟩
set_option maxHeartbeats 600000 in
theorem texts_short (s : ByteArray) (w : World) (hs : s.size ≤ 255) :
    Calls Try.prog 5 #[.string s] w fun e w' => e = .returned (.bool true) ∧ Below w.heap.size w w' := by
  have hTL : textL (bytesOf s) = (s.size : Int) :: bytesOf s := by rw [textL, List.take_of_length_le (by rw [bytesOf_length]; exact hs), bytesOf_length]
  have b3 : ¬ (255 : Int) < s.size := by omega
  have hL : textL (bytesOf s) ++ les 1 [9] = (s.size : Int) :: bytesOf s ++ [9] := by rw [hTL]; rfl
  have hlen : ((s.size : Int) :: bytesOf s ++ [9]).length = s.size + 2 := by simp [bytesOf_length]
  have hbyt : Byt ((s.size : Int) :: bytesOf s ++ [9]) := by
    intro x hx
    simp only [List.mem_append, List.mem_cons, List.not_mem_nil, or_false] at hx
    rcases hx with (rfl | hx) | rfl
    · omega
    · exact bytesOf_byt s x hx
    · omega
  have hn1 : num (((s.size : Int) :: bytesOf s ++ [9]).take 1) = (s.size : Nat) := by simp [num]
  have hn2 : num ((((s.size : Int) :: bytesOf s ++ [9]).drop (1 + s.size)).take 1) = 9 := by
    rw [show 1 + s.size = s.size + 1 by omega, List.cons_append, List.drop_succ_cons, List.drop_left' (bytesOf_length s)]; rfl
  have hn3 : strOfNums ((((s.size : Int) :: bytesOf s ++ [9]).drop 1).take s.size) = s := by
    rw [List.cons_append, List.drop_succ_cons, List.drop_zero, List.take_left' (bytesOf_length s), str_bytes]
  obtain ⟨L, hLe⟩ : ∃ L, (s.size : Int) :: bytesOf s ++ [9] = L := ⟨_, rfl⟩
  rw [hLe] at hL hlen hbyt hn1 hn2 hn3
  have HL := Lib.hid (And.intro hL (And.intro hlen (And.intro hbyt (And.intro hn1 (And.intro hn2 hn3)))))
  clear hTL hL hlen hbyt hn1 hn2 hn3 hLe
  have b2 : ¬ (600 : Int) < s.size := by omega
  have hmf := makeFunc_
  go_enter Try.func5, Try.ntmps5
  go_wp2_with fail
  refine (laid_any _).mono ?_
  rintro e w1 ⟨rfl, hb1⟩
  have T1 := Lib.hid hb1
  clear hb1
  go_wp2_with fail
  refine (Text_any w1.heap.size w1.heap.size (.slice none 0 0) [] s _ (WrV.new w1) (Nat.le_refl _) (by simp) (by simp) (by omega)).mono ?_
  rintro e w2 ⟨rfl, hw2⟩
  obtain ⟨v2, g2⟩ := hw2
  rw [List.nil_append] at g2
  have G2 := Lib.hid g2
  have hs2 : w1.heap.size ≤ w2.heap.size := by have h_ := g2.2.2.2.size; simp at h_; omega
  have hl2 : (textL (bytesOf s)).length ≤ 256 := by simp [textL]; omega
  clear g2
  go_wp2_with fail
  refine (U8_box w1.heap.size w1.heap.size v2 (textL (bytesOf s)) [9] 1 w2.heap.size w2 _ rfl rfl G2.out.1 (Nat.le_refl _) hs2 rfl (by simp) (by omega)).mono ?_
  rintro e w3 ⟨rfl, hw3⟩
  obtain ⟨v3, g3⟩ := WrS.to G2.out hw3
  rw [HL.out.1] at g3
  have G3 := Lib.hid g3
  clear g3 hw3 hl2
  go_wp2_with fail
  refine (Bytes_any w1.heap.size w1.heap.size v3 L w3 G3.out.1 (by rw [HL.out.2.1]; omega)).mono ?_
  rintro e w4 ⟨v4, rfl, hn4⟩
  have hn4 : New w3 w4 v4 L := hn4
  obtain ⟨A4, c4, rfl, hc4⟩ := hn4.slice
  rw [HL.out.2.1] at hc4 ⊢
  have N4 := Lib.hid hn4
  have T4 : Hid (Below w.heap.size w w4) := Lib.hid (bl_seq (bl_step (bl_alloc T1.out _) G3.out.2.2.2 T1.out.size) hn4.bel)
  clear hn4 hs2
  go_wp2_with fail
  have hbg : ((w4.alloc (.cells #[.string ⟨#[]⟩] 9)).alloc (.cells #[.int .u8 0] 5)).heap[w4.heap.size]? = some (.cells #[.string ⟨#[]⟩] 9 (0, 0)) := blk_alloc (heap_alloc_new w4 _) _
  have hbq : ((w4.alloc (.cells #[.string ⟨#[]⟩] 9)).alloc (.cells #[.int .u8 0] 5)).heap[w4.heap.size + 1]? = some (.cells #[.int .u8 0] 5 (0, 0)) := by
    have h_ := heap_alloc_new (w4.alloc (.cells #[.string ⟨#[]⟩] 9)) (.cells #[.int .u8 0] 5)
    simpa using h_
  have hbw : Below w4.heap.size w4 ((w4.alloc (.cells #[.string ⟨#[]⟩] 9)).alloc (.cells #[.int .u8 0] 5)) := bl_alloc (bl_alloc (Below.refl _ _) _) _
  have hsw : ((w4.alloc (.cells #[.string ⟨#[]⟩] 9)).alloc (.cells #[.int .u8 0] 5)).heap.size = w4.heap.size + 2 := by simp
  obtain ⟨W, hW⟩ : ∃ W, ((w4.alloc (.cells #[.string ⟨#[]⟩] 9)).alloc (.cells #[.int .u8 0] 5)) = W := ⟨_, rfl⟩
  rw [hW] at hbg hbq hbw hsw ⊢
  have HW := Lib.hid (And.intro hbg (And.intro hbq (And.intro hbw hsw)))
  clear hbg hbq hbw hsw hW
  refine (read_mods A4 (s.size + 2) c4 22 #[.pointer (some ⟨w4.heap.size, 0, none⟩), .pointer (some ⟨w4.heap.size + 1, 0, none⟩)] W (fun i => i = w4.heap.size ∨ i = w4.heap.size + 1) (fun w' => w'.heap[w4.heap.size]? = some (.cells #[.string s] 9 (0, 0)) ∧ w'.heap[w4.heap.size + 1]? = some (.cells #[.int .u8 9] 5 (0, 0))) (fun _ => False) Try.f22 Try.func22 (by kernel_rfl) (by kernel_rfl) (by have h_ := HW.out.2.2.2; rintro i (rfl | rfl) <;> omega) (fun wa wb h k => by have h_ := HW.out.2.2.2; exact ⟨k.blk h.1 (by omega) (by simp), k.blk h.2 (by omega) (by simp)⟩) (fun _ _ h _ => h) ?_).mono ?_
  · intro w2 he hrd hbl hsz
    have h_ := HW.out.2.2.2
    have hr4 : ReadsInt w4 .u8 A4 (s.size + 2) L := by have h_ := N4.out.reads; rwa [HL.out.2.1] at h_
    have hlt := A_lt hr4 (by omega)
    refine (texts1_any (W.heap.size + 1) w4.heap.size (w4.heap.size + 1) A4 (s.size + 2) c4 s.size ⟨#[]⟩ 0 L w2 hrd ((hr4.below HW.out.2.2.1).below hbl) HL.out.2.2.1 hc4 HL.out.2.2.2.1 rfl HL.out.2.2.2.2.1 (fun a ha => by have := hlt a ha; omega) (blk_below HW.out.1 hbl) (blk_below HW.out.2.1 hbl) (by omega) (by omega) (by omega) (by omega)).mono ?_
    rintro e w' ⟨hM, he2, hq2, hq3⟩
    rw [HL.out.2.2.2.2.2] at hq2
    exact ⟨hM, .inl ⟨he2, hq2, hq3⟩⟩
  · rintro e w5 ⟨hM, ⟨rfl, hP1, hP2⟩ | ⟨_, hF⟩⟩
    · have hz0 := (blk_cell hP1 0).trans rfl
      have hz1 := (blk_cell hP2 0).trans rfl
      have T5 : Hid (Below w.heap.size w w5) := Lib.hid (bl_seq T4.out (HW.out.2.2.1.trans (hM.below (B := w4.heap.size) (by have h_ := HW.out.2.2.2; omega) (by rintro i (rfl | rfl) <;> omega))))
      clear hM hP1 hP2
      go_wp2_with fail
      go_ret
      exact ⟨by simp, T5.out⟩
    · exact hF.elim
set_option maxHeartbeats 600000 in
theorem texts_long (s : ByteArray) (w : World) (hs0 : s.size ≤ 600) (hs1 : 255 < s.size) :
    Calls Try.prog 5 #[.string s] w fun e w' => e = .returned (.bool true) ∧ Below w.heap.size w w' := by
  obtain ⟨t, ht⟩ : ∃ t, s.extract 0 255 = t := ⟨_, rfl⟩
  have hs : t.size = 255 := by rw [← ht]; exact size_extract255 s (by omega)
  have hTL : textL (bytesOf s) = (t.size : Int) :: bytesOf t := by rw [textL, ← bytesOf_extract, ht, bytesOf_length]
  have b3 : (255 : Int) < s.size := by omega
  have hs255 : t.size ≤ 255 := by omega
  clear hs
  have hL : textL (bytesOf s) ++ les 1 [9] = (t.size : Int) :: bytesOf t ++ [9] := by rw [hTL]; rfl
  have hlen : ((t.size : Int) :: bytesOf t ++ [9]).length = t.size + 2 := by simp [bytesOf_length]
  have hbyt : Byt ((t.size : Int) :: bytesOf t ++ [9]) := by
    intro x hx
    simp only [List.mem_append, List.mem_cons, List.not_mem_nil, or_false] at hx
    rcases hx with (rfl | hx) | rfl
    · omega
    · exact bytesOf_byt t x hx
    · omega
  have hn1 : num (((t.size : Int) :: bytesOf t ++ [9]).take 1) = (t.size : Nat) := by simp [num]
  have hn2 : num ((((t.size : Int) :: bytesOf t ++ [9]).drop (1 + t.size)).take 1) = 9 := by
    rw [show 1 + t.size = t.size + 1 by omega, List.cons_append, List.drop_succ_cons, List.drop_left' (bytesOf_length t)]; rfl
  have hn3 : strOfNums ((((t.size : Int) :: bytesOf t ++ [9]).drop 1).take t.size) = t := by
    rw [List.cons_append, List.drop_succ_cons, List.drop_zero, List.take_left' (bytesOf_length t), str_bytes]
  obtain ⟨L, hLe⟩ : ∃ L, (t.size : Int) :: bytesOf t ++ [9] = L := ⟨_, rfl⟩
  rw [hLe] at hL hlen hbyt hn1 hn2 hn3
  have HL := Lib.hid (And.intro hL (And.intro hlen (And.intro hbyt (And.intro hn1 (And.intro hn2 hn3)))))
  clear hTL hL hlen hbyt hn1 hn2 hn3 hLe
  have b2 : ¬ (600 : Int) < s.size := by omega
  have hmf := makeFunc_
  go_enter Try.func5, Try.ntmps5
  go_wp2_with fail
  refine (laid_any _).mono ?_
  rintro e w1 ⟨rfl, hb1⟩
  have T1 := Lib.hid hb1
  clear hb1
  go_wp2_with fail
  refine (Text_any w1.heap.size w1.heap.size (.slice none 0 0) [] s _ (WrV.new w1) (Nat.le_refl _) (by simp) (by simp) (by omega)).mono ?_
  rintro e w2 ⟨rfl, hw2⟩
  obtain ⟨v2, g2⟩ := hw2
  rw [List.nil_append] at g2
  have G2 := Lib.hid g2
  have hs2 : w1.heap.size ≤ w2.heap.size := by have h_ := g2.2.2.2.size; simp at h_; omega
  have hl2 : (textL (bytesOf s)).length ≤ 256 := by simp [textL]; omega
  clear g2
  go_wp2_with fail
  refine (U8_box w1.heap.size w1.heap.size v2 (textL (bytesOf s)) [9] 1 w2.heap.size w2 _ rfl rfl G2.out.1 (Nat.le_refl _) hs2 rfl (by simp) (by omega)).mono ?_
  rintro e w3 ⟨rfl, hw3⟩
  obtain ⟨v3, g3⟩ := WrS.to G2.out hw3
  rw [HL.out.1] at g3
  have G3 := Lib.hid g3
  clear g3 hw3 hl2
  go_wp2_with fail
  refine (Bytes_any w1.heap.size w1.heap.size v3 L w3 G3.out.1 (by rw [HL.out.2.1]; omega)).mono ?_
  rintro e w4 ⟨v4, rfl, hn4⟩
  have hn4 : New w3 w4 v4 L := hn4
  obtain ⟨A4, c4, rfl, hc4⟩ := hn4.slice
  rw [HL.out.2.1] at hc4 ⊢
  have N4 := Lib.hid hn4
  have T4 : Hid (Below w.heap.size w w4) := Lib.hid (bl_seq (bl_step (bl_alloc T1.out _) G3.out.2.2.2 T1.out.size) hn4.bel)
  clear hn4 hs2
  go_wp2_with fail
  have hbg : ((w4.alloc (.cells #[.string ⟨#[]⟩] 9)).alloc (.cells #[.int .u8 0] 5)).heap[w4.heap.size]? = some (.cells #[.string ⟨#[]⟩] 9 (0, 0)) := blk_alloc (heap_alloc_new w4 _) _
  have hbq : ((w4.alloc (.cells #[.string ⟨#[]⟩] 9)).alloc (.cells #[.int .u8 0] 5)).heap[w4.heap.size + 1]? = some (.cells #[.int .u8 0] 5 (0, 0)) := by
    have h_ := heap_alloc_new (w4.alloc (.cells #[.string ⟨#[]⟩] 9)) (.cells #[.int .u8 0] 5)
    simpa using h_
  have hbw : Below w4.heap.size w4 ((w4.alloc (.cells #[.string ⟨#[]⟩] 9)).alloc (.cells #[.int .u8 0] 5)) := bl_alloc (bl_alloc (Below.refl _ _) _) _
  have hsw : ((w4.alloc (.cells #[.string ⟨#[]⟩] 9)).alloc (.cells #[.int .u8 0] 5)).heap.size = w4.heap.size + 2 := by simp
  obtain ⟨W, hW⟩ : ∃ W, ((w4.alloc (.cells #[.string ⟨#[]⟩] 9)).alloc (.cells #[.int .u8 0] 5)) = W := ⟨_, rfl⟩
  rw [hW] at hbg hbq hbw hsw ⊢
  have HW := Lib.hid (And.intro hbg (And.intro hbq (And.intro hbw hsw)))
  clear hbg hbq hbw hsw hW
  refine (read_mods A4 (t.size + 2) c4 22 #[.pointer (some ⟨w4.heap.size, 0, none⟩), .pointer (some ⟨w4.heap.size + 1, 0, none⟩)] W (fun i => i = w4.heap.size ∨ i = w4.heap.size + 1) (fun w' => w'.heap[w4.heap.size]? = some (.cells #[.string t] 9 (0, 0)) ∧ w'.heap[w4.heap.size + 1]? = some (.cells #[.int .u8 9] 5 (0, 0))) (fun _ => False) Try.f22 Try.func22 (by kernel_rfl) (by kernel_rfl) (by have h_ := HW.out.2.2.2; rintro i (rfl | rfl) <;> omega) (fun wa wb h k => by have h_ := HW.out.2.2.2; exact ⟨k.blk h.1 (by omega) (by simp), k.blk h.2 (by omega) (by simp)⟩) (fun _ _ h _ => h) ?_).mono ?_
  · intro w2 he hrd hbl hsz
    have h_ := HW.out.2.2.2
    have hr4 : ReadsInt w4 .u8 A4 (t.size + 2) L := by have h_ := N4.out.reads; rwa [HL.out.2.1] at h_
    have hlt := A_lt hr4 (by omega)
    refine (texts1_any (W.heap.size + 1) w4.heap.size (w4.heap.size + 1) A4 (t.size + 2) c4 t.size ⟨#[]⟩ 0 L w2 hrd ((hr4.below HW.out.2.2.1).below hbl) HL.out.2.2.1 hc4 HL.out.2.2.2.1 rfl HL.out.2.2.2.2.1 (fun a ha => by have := hlt a ha; omega) (blk_below HW.out.1 hbl) (blk_below HW.out.2.1 hbl) (by omega) (by omega) (by omega) (by omega)).mono ?_
    rintro e w' ⟨hM, he2, hq2, hq3⟩
    rw [HL.out.2.2.2.2.2] at hq2
    exact ⟨hM, .inl ⟨he2, hq2, hq3⟩⟩
  · rintro e w5 ⟨hM, ⟨rfl, hP1, hP2⟩ | ⟨_, hF⟩⟩
    · have hz0 := (blk_cell hP1 0).trans rfl
      have hz1 := (blk_cell hP2 0).trans rfl
      have T5 : Hid (Below w.heap.size w w5) := Lib.hid (bl_seq T4.out (HW.out.2.2.1.trans (hM.below (B := w4.heap.size) (by have h_ := HW.out.2.2.2; omega) (by rintro i (rfl | rfl) <;> omega))))
      clear hM hP1 hP2
      go_wp2_with fail
      go_ret
      exact ⟨by simp, T5.out⟩
    · exact hF.elim
theorem texts_walk (s : ByteArray) (w : World) :
    Calls Try.prog 5 #[.string s] w fun e w' => e = .returned (.bool true) ∧ Below w.heap.size w w' := by
  by_cases h1 : s.size ≤ 255
  · exact texts_short s w h1
  · by_cases h2 : s.size ≤ 600
    · exact texts_long s w h2 (by omega)
    · exact texts_heavy s w (by omega)
end Go.Proofs.Ythmhbnpaalgdfaa
