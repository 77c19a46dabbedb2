import Derived.Test.YtaomgddfkpcdhaaDoorBase
/-! The writer of package cursor: what each method leaves. -/
namespace Go.Proofs.YtaomgddfkpcdhaaDoor
open Go.RowKit Go.Proofs.YtaomgddfkpcdhaaDoorW.PrintWords
/-- A number's n bytes, the lowest first. -/
def le (x : Int) : Nat → List Int
  | 0 => []
  | n + 1 => x % 256 :: le (x / 256) n
theorem le_length (x : Int) (n : Nat) : (le x n).length = n := by induction n generalizing x <;> simp [le, *]
/-- The shape of what is owned, the length a letter. -/
theorem own_slice' {w : World} {base n : Nat} {e : TypeId} {size : Nat} {v : Value} {xs : List Value} (h : w.ownsRow base e size v n xs) : ∃ A m c, v = .slice A m c := by
  obtain ⟨A, c, h⟩ := own_slice h
  exact ⟨A, n, c, h⟩
theorem info5' : (Tryd.prog.info? 5).map (fun i => (i.zero, i.size, i.bytes)) = some (some (.int .u8 0), 1, 1) := by kernel_rfl
theorem KeepBut.own_step {w w' : World} {g : Nat} {row : Option Nat} {base : Nat} {e : TypeId} {n : Nat} {v : Value} {xs : List Value} (h : KeepBut w w' g row) (ho : w.ownsRow base e 1 v n xs) (hg : v.ownBlock ≠ some g) (hr : v.ownBlock = none ∨ v.ownBlock ≠ row) : w'.ownsRow base e 1 v n xs := h.own ho hg hr
/-- What is read elsewhere reads as it did. -/
theorem reads_keep {w w' : World} {k : IntKind} {A : Option Addr} {n g : Nat} {xs : List Int} {row : Option Nat} (h : ReadsInt w k A n xs) (hk : KeepBut w w' g row) (hne : 0 < n → ∀ a, A = some a → a.block ≠ g ∧ some a.block ≠ row) : ReadsInt w' k A n xs :=
  ⟨h.1, h.2.1, fun hn => by
    obtain ⟨ad, e, hc⟩ := h.2.2 hn
    refine ⟨ad, e, fun j hj => ?_⟩
    have hb : ((ad.add j).block) = ad.block := by unfold Addr.add; split <;> rfl
    have hlt := World.block_lt_of_cell? w _ (hc j hj)
    rw [World.cell?_of_block (w := w) (hk.2 _ hlt (by rw [hb]; exact (hne hn ad e).1) (by rw [hb]; exact (hne hn ad e).2))]
    exact hc j hj⟩
theorem rd_getD (xs : List Int) (k : Nat) : rd xs (k : Int) = xs.getD k 0 := by simp [rd]
def les (n : Nat) (xs : List Int) : List Int := xs.flatMap fun x => le x n
theorem les_length (n : Nat) (xs : List Int) : (les n xs).length = n * xs.length := by
  induction xs with
  | nil => simp [les]
  | cons x xs ih => simp only [les, List.flatMap_cons, List.length_append, le_length, List.length_cons] at ih ⊢; rw [ih, Nat.mul_add]; omega
theorem les_snoc (n : Nat) (xs : List Int) (k : Nat) (hk : k < xs.length) : les n (xs.take (k + 1)) = les n (xs.take k) ++ le (xs.getD k 0) n := by
  rw [List.take_succ_eq_append_getElem hk, les, les, List.flatMap_append]
  simp [List.getD_eq_getElem?_getD, List.getElem?_eq_getElem hk]
end Go.Proofs.YtaomgddfkpcdhaaDoor
