import Derived.Test.YtffalemndjampaaCub
/-! Calls of the writer with their boxes; Text. -/
namespace Go.Proofs.Ytffalemndjampaa
open Go.RowKit Go.Proofs.YtffalemndjampaaW.PrintWords
theorem reads_box (w : World) (k : IntKind) (xs : List Int) (n : Nat) (e : TypeId) (hn : xs.length = n) (hm : n ≤ 9223372036854775807) : ReadsInt (w.alloc (.cells (nums k xs).toArray e)) k (some ⟨w.heap.size, 0, none⟩) n xs := by
  subst hn
  exact own_reads' (own_lit w w.heap.size e k xs (Nat.le_refl _) hm)
theorem WrV.fresh {w : World} {base p : Nat} {v : Value} {l : List Int} (h : WrV w base p v l) : ∀ a, some (⟨w.heap.size, 0, none⟩ : Addr) = some a → a.block ≠ p ∧ some a.block ≠ v.ownBlock := by
  intro a ha
  obtain rfl := Option.some.inj ha
  have h1 := h.lt
  refine ⟨by simp; omega, fun e => ?_⟩
  have := (h.own.lt _ e.symm).2
  simp at this
theorem U8_box (base p : Nat) (v : Value) (l xs : List Int) (n b : Nat) (w W : World) (hb : b = w.heap.size) (hW : W = w.alloc (.cells (nums .u8 xs).toArray 5)) (h : WrV w base p v l) (hbp : base ≤ p) (hB : base ≤ w.heap.size) (hn : xs.length = n) (hx : ∀ x ∈ xs, 0 ≤ x ∧ x < 256) (hl : l.length + 1 * n ≤ 1099511627776) :
    Calls Try.prog 57 #[.pointer (some ⟨p, 0, none⟩), .slice (some ⟨b, 0, none⟩) n n] W fun e w' => e = .returned (.pointer (some ⟨p, 0, none⟩)) ∧ WrS w base p v (l ++ les 1 xs) w' := by
  subst hn hb hW
  refine (U8_any base p v l xs _ xs.length _ (h.alloc _) hbp (by simp; omega) (reads_box w _ xs _ _ rfl (by omega)) hx (fun _ => h.fresh) hl).mono ?_
  rintro e w' ⟨he, hw⟩
  exact ⟨he, WrS.after h (bl_alloc (Below.refl _ _) _) hB hw⟩
theorem U16_box (base p : Nat) (v : Value) (l xs : List Int) (n b : Nat) (w W : World) (hb : b = w.heap.size) (hW : W = w.alloc (.cells (nums .u16 xs).toArray 31)) (h : WrV w base p v l) (hbp : base ≤ p) (hB : base ≤ w.heap.size) (hn : xs.length = n) (hx : ∀ x ∈ xs, 0 ≤ x ∧ x < 65536) (hl : l.length + 2 * n ≤ 1099511627776) :
    Calls Try.prog 5 #[.pointer (some ⟨p, 0, none⟩), .slice (some ⟨b, 0, none⟩) n n] W fun e w' => e = .returned (.pointer (some ⟨p, 0, none⟩)) ∧ WrS w base p v (l ++ les 2 xs) w' := by
  subst hn hb hW
  refine (U16_any base p v l xs _ xs.length _ (h.alloc _) hbp (by simp; omega) (reads_box w _ xs _ _ rfl (by omega)) hx (fun _ => h.fresh) hl).mono ?_
  rintro e w' ⟨he, hw⟩
  exact ⟨he, WrS.after h (bl_alloc (Below.refl _ _) _) hB hw⟩
theorem U32_box (base p : Nat) (v : Value) (l xs : List Int) (n b : Nat) (w W : World) (hb : b = w.heap.size) (hW : W = w.alloc (.cells (nums .u32 xs).toArray 23)) (h : WrV w base p v l) (hbp : base ≤ p) (hB : base ≤ w.heap.size) (hn : xs.length = n) (hx : ∀ x ∈ xs, 0 ≤ x ∧ x < 4294967296) (hl : l.length + 4 * n ≤ 1099511627776) :
    Calls Try.prog 7 #[.pointer (some ⟨p, 0, none⟩), .slice (some ⟨b, 0, none⟩) n n] W fun e w' => e = .returned (.pointer (some ⟨p, 0, none⟩)) ∧ WrS w base p v (l ++ les 4 xs) w' := by
  subst hn hb hW
  refine (U32_any base p v l xs _ xs.length _ (h.alloc _) hbp (by simp; omega) (reads_box w _ xs _ _ rfl (by omega)) hx (fun _ => h.fresh) hl).mono ?_
  rintro e w' ⟨he, hw⟩
  exact ⟨he, WrS.after h (bl_alloc (Below.refl _ _) _) hB hw⟩
end Go.Proofs.Ytffalemndjampaa
