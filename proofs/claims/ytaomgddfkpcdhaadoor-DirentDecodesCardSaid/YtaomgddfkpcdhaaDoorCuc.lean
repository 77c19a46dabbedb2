import Derived.Test.YtaomgddfkpcdhaaDoorCub
/-! Calls of the writer with their boxes; Text. -/
namespace Go.Proofs.YtaomgddfkpcdhaaDoor
open Go.RowKit Go.Proofs.YtaomgddfkpcdhaaDoorW.PrintWords
theorem reads_box (w : World) (k : IntKind) (xs : List Int) (n : Nat) (e : TypeId) (hn : xs.length = n) (hm : n ≤ 9223372036854775807) : ReadsInt (w.alloc (.cells (nums k xs).toArray e)) k (some ⟨w.heap.size, 0, none⟩) n xs := by
  subst hn
  exact own_reads' (own_lit w w.heap.size e k xs (Nat.le_refl _) hm)
end Go.Proofs.YtaomgddfkpcdhaaDoor
