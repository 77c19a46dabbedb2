import Derived.Test.YthmhbnpaalgdfaaCub
/-! Calls of the writer with their boxes; Text. -/
namespace Go.Proofs.Ythmhbnpaalgdfaa
open Go.RowKit Go.Proofs.YthmhbnpaalgdfaaW.PrintWords
theorem reads_box (w : World) (k : IntKind) (xs : List Int) (n : Nat) (e : TypeId) (hn : xs.length = n) (hm : n ≤ 9223372036854775807) : ReadsInt (w.alloc (.cells (nums k xs).toArray e)) k (some ⟨w.heap.size, 0, none⟩) n xs := by
  subst hn
  exact own_reads' (own_lit w w.heap.size e k xs (Nat.le_refl _) hm)
theorem WrV.fresh {w : World} {base p : Nat} {v : Value} {l : List Int} (h : WrV w base p v l) : ∀ a, some (⟨w.heap.size, 0, none⟩ : Addr) = some a → a.block ≠ p ∧ some a.block ≠ v.ownBlock := by
  intro a ha
  obtain rfl := Option.some.inj ha
  have h1 := h.lt
  refine ⟨by simp; omega, fun e => ?_⟩
  have := (h.own.lt _ e.symm).2
  simp at this
theorem U8_box (base p : Nat) (v : Value) (l xs : List Int) (n b : Nat) (w W : World) (hb : b = w.heap.size) (hW : W = w.alloc (.cells (nums .u8 xs).toArray 5)) (h : WrV w base p v l) (hbp : base ≤ p) (hB : base ≤ w.heap.size) (hn : xs.length = n) (hx : ∀ x ∈ xs, 0 ≤ x ∧ x < 256) (hl : l.length + 1 * n ≤ 1099511627776) :
    Calls Try.prog 11 #[.pointer (some ⟨p, 0, none⟩), .slice (some ⟨b, 0, none⟩) n n] W fun e w' => e = .returned (.pointer (some ⟨p, 0, none⟩)) ∧ WrS w base p v (l ++ les 1 xs) w' := by
  subst hn hb hW
  refine (U8_any base p v l xs _ xs.length _ (h.alloc _) hbp (by simp; omega) (reads_box w _ xs _ _ rfl (by omega)) hx (fun _ => h.fresh) hl).mono ?_
  rintro e w' ⟨he, hw⟩
  exact ⟨he, WrS.after h (bl_alloc (Below.refl _ _) _) hB hw⟩
theorem U16_box (base p : Nat) (v : Value) (l xs : List Int) (n b : Nat) (w W : World) (hb : b = w.heap.size) (hW : W = w.alloc (.cells (nums .u16 xs).toArray 38)) (h : WrV w base p v l) (hbp : base ≤ p) (hB : base ≤ w.heap.size) (hn : xs.length = n) (hx : ∀ x ∈ xs, 0 ≤ x ∧ x < 65536) (hl : l.length + 2 * n ≤ 1099511627776) :
    Calls Try.prog 12 #[.pointer (some ⟨p, 0, none⟩), .slice (some ⟨b, 0, none⟩) n n] W fun e w' => e = .returned (.pointer (some ⟨p, 0, none⟩)) ∧ WrS w base p v (l ++ les 2 xs) w' := by
  subst hn hb hW
  refine (U16_any base p v l xs _ xs.length _ (h.alloc _) hbp (by simp; omega) (reads_box w _ xs _ _ rfl (by omega)) hx (fun _ => h.fresh) hl).mono ?_
  rintro e w' ⟨he, hw⟩
  exact ⟨he, WrS.after h (bl_alloc (Below.refl _ _) _) hB hw⟩
theorem U32_box (base p : Nat) (v : Value) (l xs : List Int) (n b : Nat) (w W : World) (hb : b = w.heap.size) (hW : W = w.alloc (.cells (nums .u32 xs).toArray 39)) (h : WrV w base p v l) (hbp : base ≤ p) (hB : base ≤ w.heap.size) (hn : xs.length = n) (hx : ∀ x ∈ xs, 0 ≤ x ∧ x < 4294967296) (hl : l.length + 4 * n ≤ 1099511627776) :
    Calls Try.prog 13 #[.pointer (some ⟨p, 0, none⟩), .slice (some ⟨b, 0, none⟩) n n] W fun e w' => e = .returned (.pointer (some ⟨p, 0, none⟩)) ∧ WrS w base p v (l ++ les 4 xs) w' := by
  subst hn hb hW
  refine (U32_any base p v l xs _ xs.length _ (h.alloc _) hbp (by simp; omega) (reads_box w _ xs _ _ rfl (by omega)) hx (fun _ => h.fresh) hl).mono ?_
  rintro e w' ⟨he, hw⟩
  exact ⟨he, WrS.after h (bl_alloc (Below.refl _ _) _) hB hw⟩
theorem U64_box (base p : Nat) (v : Value) (l xs : List Int) (n b : Nat) (w W : World) (hb : b = w.heap.size) (hW : W = w.alloc (.cells (nums .u64 xs).toArray 37)) (h : WrV w base p v l) (hbp : base ≤ p) (hB : base ≤ w.heap.size) (hn : xs.length = n) (hx : ∀ x ∈ xs, 0 ≤ x ∧ x < 18446744073709551616) (hl : l.length + 8 * n ≤ 1099511627776) :
    Calls Try.prog 14 #[.pointer (some ⟨p, 0, none⟩), .slice (some ⟨b, 0, none⟩) n n] W fun e w' => e = .returned (.pointer (some ⟨p, 0, none⟩)) ∧ WrS w base p v (l ++ les 8 xs) w' := by
  subst hn hb hW
  refine (U64_any base p v l xs _ xs.length _ (h.alloc _) hbp (by simp; omega) (reads_box w _ xs _ _ rfl (by omega)) hx (fun _ => h.fresh) hl).mono ?_
  rintro e w' ⟨he, hw⟩
  exact ⟨he, WrS.after h (bl_alloc (Below.refl _ _) _) hB hw⟩
def textL (xs : List Int) : List Int := ((xs.take 255).length : Int) :: xs.take 255
theorem bytesOf_extract (s : ByteArray) (n : Nat) : bytesOf (s.extract 0 n) = (bytesOf s).take n := by
  rw [bytesOf, bytesOf, Lib.extract_data]
  simp [List.map_take]
theorem size_extract255 (s : ByteArray) (h : 255 < s.size) : (s.extract 0 255).size = 255 := by rw [ByteArray.size_extract]; omega
theorem textL_of (s : ByteArray) (h : s.size ≤ 255) : les 1 [(s.size : Int)] ++ bytesOf s = textL (bytesOf s) := by
  have hl := bytesOf_length s
  rw [textL, List.take_of_length_le (by omega), hl]
  simp [les, le]
  omega
set_option maxHeartbeats 1000000 in
theorem Text_any (base p : Nat) (v : Value) (l : List Int) (s : ByteArray) (w : World) (h : WrV w base p v l) (hbp : base ≤ p) (hB : base ≤ w.heap.size) (hl : l.length + 256 ≤ 1099511627776) (hs : s.size ≤ 1099511627776) :
    Calls Try.prog 20 #[.pointer (some ⟨p, 0, none⟩), .string s] w fun e w' => e = .returned (.pointer (some ⟨p, 0, none⟩)) ∧ WrS w base p v (l ++ textL (bytesOf s)) w' := by
  have kb := fun (s : ByteArray) (W : World) => print_bytes (P := Try.prog) 9 22 5 Try.underlying9 Try.underlying22 Try.underlying5 s W
  have HV := Lib.hid h
  clear h
  by_cases hlt : s.size ≤ 255
  · have HT := Lib.hid (textL_of s hlt)
    go_enter Try.func20, Try.ntmps20
    go_wp2_with fail
    refine (U8_box base p v l [(s.size : Int)] 1 _ w _ rfl rfl HV.out hbp hB rfl (by simp; omega) (by omega)).mono ?_
    rintro e w1 ⟨rfl, hw1⟩
    obtain ⟨v1, g1, g2, g3, g4⟩ := hw1
    have G := Lib.hid (And.intro g1 (And.intro g2 (And.intro g3 g4)))
    clear g1 g2 g3 g4
    go_wp2_with fail
    refine (Raw_any base p v1 (l ++ les 1 [(s.size : Int)]) (bytesOf s) _ s.size _ _ (G.out.1.below (bytes_below (Below.refl _ _) (Nat.le_refl _) 5 s)) hbp (by have := G.out.2.2.2.size; rw [Lib.bytesWorld_size]; omega) (bytes_reads w1 5 s (by omega)) (by simp [les_length]; omega)).mono ?_
    rintro e w2 ⟨rfl, hw2⟩
    have H2 := Lib.hid (WrS.to G.out (WrS.after G.out.1 (bytes_below (Below.refl _ _) (Nat.le_refl _) 5 s) (by have := G.out.2.2.2.size; omega) hw2))
    clear hw2
    go_wp2_with fail
    go_ret
    exact ⟨rfl, by have h_ := H2.out; rw [List.append_assoc, HT.out] at h_; exact h_⟩
  · obtain ⟨t, ht⟩ : ∃ t, s.extract 0 255 = t := ⟨_, rfl⟩
    have hts : t.size = 255 := by rw [← ht]; exact size_extract255 s (by omega)
    have htt : textL (bytesOf t) = textL (bytesOf s) := by rw [← ht, bytesOf_extract, textL, textL, List.take_take, Nat.min_self]
    have hT := (textL_of t (by omega)).trans htt
    have hn : ((t.size : Nat) : Int) = 255 := by omega
    rw [hn] at hT
    have HT := Lib.hid hT
    have HS := Lib.hid hts
    clear hts htt hT
    go_enter Try.func20, Try.ntmps20
    go_wp2_with fail
    refine (U8_box base p v l [255] 1 _ w _ rfl rfl HV.out hbp hB rfl (by simp) (by omega)).mono ?_
    rintro e w1 ⟨rfl, hw1⟩
    obtain ⟨v1, g1, g2, g3, g4⟩ := hw1
    have G := Lib.hid (And.intro g1 (And.intro g2 (And.intro g3 g4)))
    clear g1 g2 g3 g4
    go_wp2_with fail
    refine (Raw_any base p v1 (l ++ les 1 [255]) (bytesOf t) _ t.size _ _ (G.out.1.below (bytes_below (Below.refl _ _) (Nat.le_refl _) 5 t)) hbp (by have := G.out.2.2.2.size; rw [Lib.bytesWorld_size]; omega) (bytes_reads w1 5 t (by omega)) (by simp [les_length]; omega)).mono ?_
    rintro e w2 ⟨rfl, hw2⟩
    have H2 := Lib.hid (WrS.to G.out (WrS.after G.out.1 (bytes_below (Below.refl _ _) (Nat.le_refl _) 5 t) (by have := G.out.2.2.2.size; omega) hw2))
    clear hw2
    go_wp2_with fail
    go_ret
    exact ⟨rfl, by have h_ := H2.out; rw [List.append_assoc, HT.out] at h_; exact h_⟩
end Go.Proofs.Ythmhbnpaalgdfaa
