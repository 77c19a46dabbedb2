import Derived.Test.YtffalemndjampaaReg
import Derived.Test.YtffalemndjampaaWLast
import Derived.Test.YtffalemndjampaaWTab
import Derived.Test.YtffalemndjampaaWInv
import Derived.Test.YtffalemndjampaaWInvWords
/-! A writer's calls, one upon the other, in a region of open order: what each step keeps. -/
namespace Go.Proofs.Ytffalemndjampaa
open Go.RowKit Go.Proofs.YtffalemndjampaaW.PrintWords
theorem WrV.first (w : World) (b : Nat) (h : w.heap[b]? = some (.cells #[.slice none 0 0] 29 (0, 0))) (base : Nat) : WrV w base b (.slice none 0 0) [] := ⟨h, own_nil _ _ _ _⟩
theorem WrV.hold {w w' : World} {base p b : Nat} {v : Value} {L : List Int} {cs : Array Value} {t : TypeId} (hv : WrV w base p v L) (hk : KeepBut w w' p v.ownBlock) (h : w.heap[b]? = some (.cells cs t (0, 0))) (ht : t ≠ 29) (hu : 5 ≠ t) : w'.heap[b]? = some (.cells cs t (0, 0)) := by
  refine hk.blk h ?_ (own_ne hv.own h hu)
  rintro rfl
  rw [hv.blk] at h
  injection h with h
  injection h with h1 h2 h3
  exact ht h2.symm
theorem WrV.apart {w : World} {base p b : Nat} {v : Value} {L : List Int} {cs : Array Value} {t : TypeId} (hv : WrV w base p v L) (h : w.heap[b]? = some (.cells cs t (0, 0))) (ht : t ≠ 29) (hu : 5 ≠ t) (o n : Nat) : 0 < n → ∀ a, some (⟨b, o, none⟩ : Addr) = some a → a.block ≠ p ∧ some a.block ≠ v.ownBlock := by
  intro _ a ha
  obtain rfl := Option.some.inj ha
  refine ⟨?_, own_ne hv.own h hu⟩
  rintro rfl
  rw [hv.blk] at h
  injection h with h
  injection h with h1 h2 h3
  exact ht h2.symm
theorem WrV.apart0 {w : World} {base p b : Nat} {L : List Int} {cs : Array Value} {t : TypeId} (hv : WrV w base p (.slice none 0 0) L) (h : w.heap[b]? = some (.cells cs t (0, 0))) (ht : t ≠ 29) (o n : Nat) : 0 < n → ∀ a, some (⟨b, o, none⟩ : Addr) = some a → a.block ≠ p ∧ some a.block ≠ (Value.slice none 0 0).ownBlock := by
  intro _ a ha
  obtain rfl := Option.some.inj ha
  refine ⟨?_, by simp [Value.ownBlock]⟩
  rintro rfl
  rw [hv.blk] at h
  injection h with h
  injection h with h1 h2 h3
  exact ht h2.symm
theorem reads_cells {w : World} {b o n : Nat} {cs : Array Value} {t : TypeId} {k : IntKind} {xs : List Int} (h : w.heap[b]? = some (.cells cs t (0, 0))) (hn : xs.length = n) (hm : n ≤ 9223372036854775807) (hx : (cs.toList.drop o).take n = nums k xs) : ReadsInt w k (some ⟨b, o, none⟩) n xs := by
  refine ⟨hn, hm, fun h0 => ⟨_, rfl, fun j hj => ?_⟩⟩
  have hs : xs[j]? = some (xs.getD j 0) := by rw [List.getD_eq_getElem?_getD, List.getElem?_eq_getElem (by omega)]; rfl
  have h2 : (nums k xs)[j]? = some (.int k (xs.getD j 0)) := by rw [nums, List.getElem?_map, hs]; rfl
  rw [← hx, List.getElem?_take_of_lt hj, List.getElem?_drop] at h2
  have h3 : (⟨b, o, none⟩ : Addr).add j = ⟨b, o + j, none⟩ := by unfold Addr.add; split <;> simp_all
  rw [h3, blk_cell h]
  simpa using h2
end Go.Proofs.Ytffalemndjampaa
