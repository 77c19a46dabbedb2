import Derived.Test.YthmhbnpaalgdfaaRef
/-! The document's small functions (gabionref01), further: With, Pad, Text, Num. -/
namespace Go.Proofs.Ythmhbnpaalgdfaa
open Go.RowKit Go.Proofs.YthmhbnpaalgdfaaW.PrintWords
def padL (xs : List Int) (n : Int) : List Int := xs ++ List.replicate (n.toNat - xs.length) 0
set_option maxHeartbeats 2000000 in
theorem rPad_any (xs : List Int) (A : Option Addr) (c : Nat) (n : Int) (w : World) (hr : ReadsInt w .u8 A xs.length xs) (hc : xs.length ≤ c) (hn : n ≤ 1099511627776) (hn0 : -9223372036854775808 ≤ n) (hl : xs.length ≤ 1099511627776) :
    Calls Try.prog 30 #[.slice A xs.length c, .int .i64 n] w fun e w' => ∃ v, e = .returned v ∧ New w w' v (padL xs n) := by
  have HP := rPart_any xs A c 0 xs.length w hr hc (by omega) (by omega) (by omega) hl
  have e1 : (xs.take (0 + (xs.length : Int)).toNat).drop (0 : Int).toNat = xs := by simp
  rw [e1] at HP
  have HP := Lib.hid HP
  clear hr e1
  by_cases hlt : (xs.length : Int) < n
  · obtain ⟨k, hk⟩ : ∃ k : Nat, n - (xs.length : Int) = (k : Int) := ⟨(n - xs.length).toNat, by omega⟩
    have hkn : n.toNat - xs.length = k := by omega
    have HK := Lib.hid hkn
    have hkl : k ≤ 1099511627776 := by omega
    clear hkn
    go_enter Try.func30, Try.ntmps30
    go_wp2_with fail
    refine HP.out.mono ?_
    rintro e w1 ⟨v1, rfl, hn1⟩
    obtain ⟨A1, c1, rfl, hc1⟩ := hn1.slice
    have H1 := Lib.hid hn1
    clear hn1
    go_wp2_with fail
    refine (rZeros_any k _ hkl).mono ?_
    rintro e w2 ⟨v2, rfl, hn2⟩
    obtain ⟨A2, c2, rfl, hc2⟩ := hn2.slice
    have H2 := Lib.hid hn2
    clear hn2
    go_wp2_with (at_builtin; refine print_append_row (w0 := w) w.heap.size rfl (.tmp 14) (.tmp 19) 22 5 .u8 1 rfl Try.underlying22 info5' (by decide) (.slice A1 xs.length c1) xs (List.replicate k 0) A2 _ _ rfl rfl ?aO (by simpa using H2.out.reads) (bl_seq H1.out.2 H2.out.2) (bl_seq H1.out.2 H2.out.2).size ?aL ?_; (case aO => exact own_move H1.out.1 fun b hb => H2.out.2.block b (H1.out.1.lt b hb).2); (case aL => simp; omega); intro v3 w3 ho hb2 hg hat; have G3 := Lib.hid (And.intro ho hb2); clear ho hb2 hg hat)
    go_ret
    exact ⟨_, rfl, by rw [padL, HK.out]; exact ⟨G3.out.1, G3.out.2⟩⟩
  · have hkn : n.toNat - xs.length = 0 := by omega
    have HK := Lib.hid hkn
    clear hkn
    go_enter Try.func30, Try.ntmps30
    go_wp2_with fail
    refine HP.out.mono ?_
    rintro e w1 ⟨v1, rfl, hn1⟩
    obtain ⟨A1, c1, rfl, hc1⟩ := hn1.slice
    have H1 := Lib.hid hn1
    clear hn1
    go_wp2_with fail
    go_ret
    exact ⟨_, rfl, by rw [padL, HK.out]; simpa using H1.out⟩
set_option maxHeartbeats 2000000 in
theorem rText_any (s : ByteArray) (w : World) (hs : s.size ≤ 1099511627776) :
    Calls Try.prog 40 #[.string s] w fun e w' => ∃ v, e = .returned v ∧ New w w' v (textL (bytesOf s)) := by
  by_cases hlt : s.size ≤ 255
  · have hT := textL_of s hlt
    have h1 : les 1 [(s.size : Int)] = [(s.size : Int)] := by simp [les, le]; omega
    rw [h1] at hT
    have HT := Lib.hid hT
    clear hT h1
    go_enter Try.func40, Try.ntmps40
    go_wp2_with (at_builtin; refine print_append_str (w0 := w) w.heap.size rfl (.tmp 13) (.tmp 14) 22 9 5 rfl Try.underlying22 Try.underlying9 info5' _ [(s.size : Int)] s rfl rfl ?aO (by repeat (first | exact Below.refl _ _ | assumption | apply bl_alloc | apply bl_drew | apply bl_drewN | (refine bl_seq ?_ (by assumption)))) (by simp) (by simp; omega) ?_; (case aO => exact own_lit w w.heap.size 5 .u8 [(s.size : Int)] (Nat.le_refl _) (by simp)); intro v3 w3 ho hb2 hg; have G3 := Lib.hid (And.intro ho hb2); clear ho hb2 hg)
    go_ret
    exact ⟨_, rfl, by rw [← HT.out]; exact ⟨G3.out.1, G3.out.2⟩⟩
  · obtain ⟨t, ht⟩ : ∃ t, s.extract 0 255 = t := ⟨_, rfl⟩
    have hts : t.size = 255 := by rw [← ht]; exact size_extract255 s (by omega)
    have htt : textL (bytesOf t) = textL (bytesOf s) := by rw [← ht, bytesOf_extract, textL, textL, List.take_take, Nat.min_self]
    have hT := (textL_of t (by omega)).trans htt
    have hn : ((t.size : Nat) : Int) = 255 := by omega
    rw [hn, show les 1 [(255 : Int)] = [255] from rfl] at hT
    have HT := Lib.hid hT
    have HS := Lib.hid hts
    clear hts htt hT
    go_enter Try.func40, Try.ntmps40
    go_wp2_with (at_builtin; refine print_append_str (w0 := w) w.heap.size rfl (.tmp 13) (.tmp 14) 22 9 5 rfl Try.underlying22 Try.underlying9 info5' _ [255] t rfl rfl ?aO (by repeat (first | exact Below.refl _ _ | assumption | apply bl_alloc | apply bl_drew | apply bl_drewN | (refine bl_seq ?_ (by assumption)))) (by simp) (by have := HS.out; simp; omega) ?_; (case aO => exact own_lit w w.heap.size 5 .u8 [255] (Nat.le_refl _) (by simp)); intro v3 w3 ho hb2 hg; have G3 := Lib.hid (And.intro ho hb2); clear ho hb2 hg)
    go_ret
    exact ⟨_, rfl, by rw [← HT.out]; exact ⟨G3.out.1, G3.out.2⟩⟩
/-- The number of some bytes, the lowest first. -/
def num : List Int → Int
  | [] => 0
  | x :: xs => x + 256 * num xs
theorem num_bound (xs : List Int) (h : Byt xs) : 0 ≤ num xs ∧ num xs < 256 ^ xs.length := by
  induction xs with
  | nil => simp [num]
  | cons x xs ih =>
    have h1 := h x (by simp)
    have h2 := ih fun y hy => h y (by simp [hy])
    simp only [num, List.length_cons, Int.pow_succ]
    omega
theorem num_snoc (xs : List Int) (x : Int) : num (xs ++ [x]) = num xs + x * 256 ^ xs.length := by
  induction xs with
  | nil => simp [num]
  | cons y xs ih => simp only [List.cons_append, num, ih, List.length_cons, Int.pow_succ, Int.mul_add]; rw [Int.mul_left_comm, Int.mul_comm 256 (256 ^ xs.length)]; omega
theorem le_num (xs : List Int) (h : Byt xs) : le (num xs) xs.length = xs := by
  induction xs with
  | nil => rfl
  | cons x xs ih =>
    have h1 := h x (by simp)
    have h2 := ih fun y hy => h y (by simp [hy])
    simp only [num, List.length_cons, le]
    rw [show (x + 256 * num xs) % 256 = x by omega, show (x + 256 * num xs) / 256 = num xs by omega, h2]
theorem num_le (x : Int) (n : Nat) (h0 : 0 ≤ x) (h1 : x < 256 ^ n) : num (le x n) = x := by
  induction n generalizing x with
  | zero => simp at h1; simp [le, num]; omega
  | succ n ih =>
    rw [Int.pow_succ] at h1
    simp only [le, num]
    rw [ih (x / 256) (by omega) (by omega)]
    omega
theorem pow256 {q : Nat} (k : Nat) (h : k ≤ q) (hq : q ≤ 4) : (256 : Int) ^ k ≤ 256 ^ q := by
  have h1 : q = 0 ∨ q = 1 ∨ q = 2 ∨ q = 3 ∨ q = 4 := by omega
  have h2 : k = 0 ∨ k = 1 ∨ k = 2 ∨ k = 3 ∨ k = 4 := by omega
  rcases h1 with rfl | rfl | rfl | rfl | rfl <;> rcases h2 with rfl | rfl | rfl | rfl | rfl <;> first | omega | decide
end Go.Proofs.Ythmhbnpaalgdfaa
