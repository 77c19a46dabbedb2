import Derived.Test.YtffalemndjampaaCuc
/-! The document's small functions (gabionref01). -/
namespace Go.Proofs.Ytffalemndjampaa
open Go.RowKit Go.Proofs.YtffalemndjampaaW.PrintWords
/-- Each is a byte. -/
def Byt (xs : List Int) : Prop := ∀ x ∈ xs, 0 ≤ x ∧ x < 256
theorem Byt.of {xs : List Int} (h : xs.all (fun x => decide (0 ≤ x ∧ x < 256)) = true) : Byt xs := fun x hx => of_decide_eq_true (List.all_eq_true.1 h x hx)
theorem le_byt (x : Int) (n : Nat) : Byt (le x n) := by
  induction n generalizing x with
  | zero => intro y hy; simp [le] at hy
  | succ n ih =>
    intro y hy
    simp only [le, List.mem_cons] at hy
    rcases hy with rfl | hy
    · omega
    · exact ih _ y hy
/-- A slice that is answered, new since w. -/
def New (w w' : World) (v : Value) (xs : List Int) : Prop := w'.ownsRow w.heap.size 5 1 v xs.length (nums .u8 xs) ∧ Below w.heap.size w w'
theorem New.bel {w w' : World} {v : Value} {xs : List Int} (h : New w w' v xs) : Below w.heap.size w w' := h.2
theorem New.slice {w w' : World} {v : Value} {xs : List Int} (h : New w w' v xs) : ∃ A c, v = .slice A xs.length c ∧ xs.length ≤ c := by
  rcases h.1.2 with ⟨rfl, hn⟩ | ⟨g, cap, cur, rfl, _, _, hc, _⟩
  · exact ⟨none, 0, by rw [hn], by omega⟩
  · exact ⟨_, cap, rfl, hc⟩
theorem New.reads {w w' : World} {A : Option Addr} {c n : Nat} {xs : List Int} (h : New w w' (.slice A n c) xs) : ReadsInt w' .u8 A xs.length xs := by
  obtain ⟨A', c', e, _⟩ := h.slice
  injection e with e1 e2 e3
  subst e1 e2 e3
  exact own_reads' h.1
/-- New memory lies elsewhere than what was there. -/
theorem New.far {w w' : World} {v : Value} {xs : List Int} (h : New w w' v xs) {k : Nat} (hk : v.ownBlock = some k) : w.heap.size ≤ k := (h.1.lt k hk).1
set_option maxHeartbeats 1000000 in
theorem rZeros_any (n : Nat) (w : World) (hn : n ≤ 1099511627776) :
    Calls Try.prog 50 #[.int .i64 (n : Int)] w fun e w' => ∃ v, e = .returned v ∧ New w w' v (List.replicate n 0) := by
  have hmk := print_make (P := Try.prog) 27 5 .u8 1 Try.underlying27 info5' (by decide) n (by omega)
  go_enter Try.func50, Try.ntmps50
  go_wp2
  go_ret
  refine ⟨_, rfl, ?_, (by repeat (first | exact Below.refl _ _ | assumption | apply bl_alloc | apply bl_drew | apply bl_drewN | (refine bl_seq ?_ (by assumption))))⟩
  have h_ := own_made w w.heap.size 5 .u8 n (Nat.le_refl _) (by omega)
  simpa using h_
end Go.Proofs.Ytffalemndjampaa
