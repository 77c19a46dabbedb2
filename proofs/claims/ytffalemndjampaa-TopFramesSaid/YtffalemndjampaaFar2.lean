import Derived.Test.YtffalemndjampaaChain
import Derived.Test.YtffalemndjampaaRow
/-! A writer's steps, by what lies elsewhere. -/
set_option linter.unusedVariables false
set_option linter.unusedSimpArgs false
namespace Go.Proofs.Ytffalemndjampaa
open Go.RowKit Go.Proofs.YtffalemndjampaaW.PrintWords
/-- The row lies behind k, if there is one. -/
def FarO (v : Value) (k : Nat) : Prop := v.ownBlock = none ∨ ∃ b, v.ownBlock = some b ∧ k ≤ b
theorem FarO.nil (k : Nat) : FarO (.slice none 0 0) k := .inl rfl
theorem FarO.any (v : Value) : FarO v 0 := by
  rcases h : v.ownBlock with _ | b
  · exact .inl h
  · exact .inr ⟨b, h, Nat.zero_le _⟩
theorem FarO.mono {v : Value} {k j : Nat} (h : FarO v k) (hj : j ≤ k) : FarO v j := by
  rcases h with h | ⟨b, h, hb⟩
  · exact .inl h
  · exact .inr ⟨b, h, Nat.le_trans hj hb⟩
theorem WrS.next {w w' : World} {base p : Nat} {v : Value} {l : List Int} (h : WrS w base p v l w') (k : Nat) (hk : k ≤ w.heap.size) (hf : FarO v k) :
    ∃ v', WrV w' base p v' l ∧ FarO v' k ∧ Below base w w' ∧ (∀ {q A n xs}, ReadsInt w q A n xs → (0 < n → ∀ a, A = some a → a.block ≠ p ∧ a.block < k) → ReadsInt w' q A n xs) ∧ k ≤ w'.heap.size := by
  obtain ⟨v', h1, h2, h3, h4⟩ := h
  refine ⟨v', h1, ?_, h4, ?_, Nat.le_trans hk h2.1⟩
  · rcases h3 with h3 | ⟨b, h3, hb⟩
    · rw [FarO, h3]; exact hf
    · exact .inr ⟨b, h3, Nat.le_trans hk hb⟩
  · intro q A n xs hr hA
    refine reads_keep hr h2 fun hn a ha => ⟨(hA hn a ha).1, fun e => ?_⟩
    have hlt := (hA hn a ha).2
    rcases hf with hf | ⟨b, hf, hb⟩
    · rw [hf] at e; cases e
    · rw [hf] at e; injection e with e; omega
/-- Where what is new lies. -/
theorem New.place {w w' : World} {A : Option Addr} {n c : Nat} {xs : List Int} (h : New w w' (.slice A n c) xs) : ∀ a, A = some a → w.heap.size ≤ a.block ∧ a.block < w'.heap.size := by
  intro a ha
  subst ha
  exact h.1.lt a.block rfl
theorem reads_lt {w : World} {k : IntKind} {A : Option Addr} {n : Nat} {xs : List Int} (h : ReadsInt w k A n xs) (hn : 0 < n) : ∀ a, A = some a → a.block < w.heap.size := by
  intro a ha
  obtain ⟨ad, e2, hc2⟩ := h.2.2 hn
  obtain rfl := Option.some.inj (ha.symm.trans e2)
  have h_ := World.block_lt_of_cell? w _ (hc2 0 hn)
  have hb0 : (a.add 0).block = a.block := by unfold Addr.add; split <;> rfl
  rwa [hb0] at h_
theorem rows3 {w : World} {b : Nat} {t : TypeId} {A1 A2 A3 : Option Addr} {n1 n2 n3 c1 c2 c3 : Nat} {l1 l2 l3 : List Int} (h : w.heap[b]? = some (.cells #[.slice A1 n1 c1, .slice A2 n2 c2, .slice A3 n3 c3] t (0, 0)))
    (r1 : ReadsInt w .u8 A1 n1 l1) (r2 : ReadsInt w .u8 A2 n2 l2) (r3 : ReadsInt w .u8 A3 n3 l3) (k1 : n1 ≤ c1) (k2 : n2 ≤ c2) (k3 : n3 ≤ c3) (b1 : Byt l1) (b2 : Byt l2) (b3 : Byt l3) :
    RdRows w (some ⟨b, 0, none⟩) [⟨A1, c1, l1⟩, ⟨A2, c2, l2⟩, ⟨A3, c3, l3⟩] := by
  have e1 := r1.1
  have e2 := r2.1
  have e3 := r3.1
  subst e1 e2 e3
  refine ⟨by simp, fun i hi => ⟨_, rfl, ?_⟩⟩
  have hi3 : i = 0 ∨ i = 1 ∨ i = 2 := by simp at hi; omega
  rcases hi3 with rfl | rfl | rfl
  · exact ⟨(blk_cell h 0).trans rfl, k1, r1, b1⟩
  · exact ⟨(blk_cell h 1).trans rfl, k2, r2, b2⟩
  · exact ⟨(blk_cell h 2).trans rfl, k3, r3, b3⟩
end Go.Proofs.Ytffalemndjampaa
