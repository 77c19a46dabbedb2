import Derived.Test.YthmhbnpaalgdfaaReg
namespace Go.Proofs.Ythmhbnpaalgdfaa
open Go.RowKit Go.Proofs.YthmhbnpaalgdfaaW.PrintWords
theorem WrV.new (w : World) : WrV (w.alloc (.cells #[.slice none 0 0] 31)) w.heap.size w.heap.size (.slice none 0 0) [] :=
  ⟨heap_alloc_new w _, own_nil _ _ _ _⟩
set_option maxHeartbeats 2000000 in
theorem laid_any (w : World) : Calls Try.prog 10 #[] w fun e w' => e = .returned (.bool true) ∧ Below w.heap.size w w' := by
  go_enter Try.func10, Try.ntmps10
  go_wp2_with fail
  refine (U16_box w.heap.size w.heap.size (.slice none 0 0) [] [513] 1 (w.heap.size + 1) (w.alloc (.cells #[.slice none 0 0] 31)) _ (by simp) rfl (WrV.new w) (Nat.le_refl _) (by simp) rfl (by simp) (by simp)).mono ?_
  rintro e w1 ⟨rfl, hw1⟩
  have G1 := Lib.hid hw1
  clear hw1
  obtain ⟨v1, g1⟩ := G1.out
  have G := Lib.hid g1
  clear g1
  go_wp2_with fail
  with_reducible refine (Text_any w.heap.size w.heap.size v1 _ _ w1 G.out.1 (Nat.le_refl _) (by have h_ := G.out.2.2.2.size; simp at h_; omega) (by simp [les_length]) (by decide)).mono ?_
  rintro e w2 ⟨rfl, hw2⟩
  obtain ⟨v2, g2⟩ := WrS.to G.out hw2
  rw [show ([] ++ les 2 [513] ++ textL (bytesOf { data := #[97, 98] })) = [1, 2, 2, 97, 98] from by decide] at g2
  have G2 := Lib.hid g2
  clear g2 hw2 G G1
  go_wp2_with fail
  with_reducible refine (Bytes_any w.heap.size w.heap.size v2 _ w2 G2.out.1 (by decide)).mono ?_
  rintro e w3 ⟨v3, rfl, hn3⟩
  have hn3 : New w2 w3 v3 [1, 2, 2, 97, 98] := hn3
  obtain ⟨A3, c3, rfl, hc3⟩ := hn3.slice
  have G3 := Lib.hid hn3
  clear hn3
  go_wp2_with fail
  refine (rSame_any [1, 2, 2, 97, 98] [1, 2, 2, 97, 98] A3 _ 5 5 c3 5 _ (G3.out.reads.below (bl_alloc (Below.refl _ _) _)) (reads_box w3 .u8 [1, 2, 2, 97, 98] 5 5 rfl (by omega)) (Byt.of (by decide)) (Byt.of (by decide))).mono ?_
  rintro e w4 ⟨rfl, hd4⟩
  have H4 := Lib.hid hd4.below
  clear hd4
  go_wp2_with fail
  go_ret
  exact ⟨by simp, bl_seq (bl_alloc (bl_seq (bl_step (bl_alloc (Below.refl _ _) _) G2.out.2.2.2 (Nat.le_refl _)) G3.out.2) _) H4.out⟩
end Go.Proofs.Ythmhbnpaalgdfaa
