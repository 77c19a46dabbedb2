import Derived.Test.YtdcimjkgbnflbaaA
import Derived.Test.YtdcimjkgbnflbaaCur
import Derived.Test.YtdcimjkgbnflbaaWLast
import Derived.Test.YtdcimjkgbnflbaaWTab
import Derived.Test.YtdcimjkgbnflbaaWInv
import Derived.Test.YtdcimjkgbnflbaaWInvWords
/-! bmap.Pieces, and the law BmapPieces. -/
set_option linter.unusedVariables false
set_option linter.unusedSimpArgs false
namespace Go.Proofs.Ytdcimjkgbnflbaa
open Go.RowKit Go.Proofs.YtdcimjkgbnflbaaW.PrintWords Go.Proofs.YtdcimjkgbnflbaaW.PrintLast
/-- The parts of m bytes from a on. -/
def pcs (s : Int) : Nat → Int → Int → List (Int × Int × Int)
  | 0, _, _ => []
  | f + 1, a, m => if m ≤ 0 then [] else (a / s, a % s, min m (s - a % s)) :: pcs s f (a + min m (s - a % s)) (m - min m (s - a % s))
theorem pcs_step {s a m : Int} {f : Nat} (hm : 0 < m) (hf : m.toNat ≤ f) (hs : 1 ≤ s) : pcs s f a m = (a / s, a % s, min m (s - a % s)) :: pcs s (f - 1) (a + min m (s - a % s)) (m - min m (s - a % s)) ∧ 1 ≤ min m (s - a % s) ∧ min m (s - a % s) ≤ m ∧ (m - min m (s - a % s)).toNat ≤ f - 1 := by
  have h1 := Int.emod_lt_of_pos a (show 0 < s by omega)
  have h2 : 1 ≤ min m (s - a % s) := by omega
  obtain ⟨g, rfl⟩ : ∃ g, f = g + 1 := ⟨f - 1, by omega⟩
  refine ⟨?_, h2, by omega, by omega⟩
  rw [pcs, if_neg (by omega)]
  rfl
theorem pcs_end {s a m : Int} {f : Nat} (hm : m ≤ 0) : pcs s f a m = [] := by
  cases f with
  | zero => rfl
  | succ f => rw [pcs, if_pos hm]
theorem pcs_len {s : Int} (hs : 1 ≤ s) (f : Nat) (a m : Int) : (pcs s f a m).length ≤ f := by
  induction f generalizing a m with
  | zero => simp [pcs]
  | succ f ih =>
    rw [pcs]
    split
    · simp
    · have := ih (a + min m (s - a % s)) (m - min m (s - a % s))
      simp; omega
def pcells (l : List (Int × Int × Int)) : List Value := l.flatMap fun p => [.int .i64 p.1, .int .i64 p.2.1, .int .i64 p.2.2]
theorem pcells_append (a b : List (Int × Int × Int)) : pcells (a ++ b) = pcells a ++ pcells b := by simp [pcells]
theorem pcells_length (l : List (Int × Int × Int)) : (pcells l).length = l.length * 3 := by
  induction l with
  | nil => rfl
  | cons x l ih => simp only [pcells, List.flatMap_cons, List.length_append, List.length_cons, List.length_nil] at ih ⊢; omega
theorem info37 : (Try.prog.info? 37).map (fun i => (i.zero, i.size, i.bytes)) = some (some (.agg #[.int .i64 0, .int .i64 0, .int .i64 0]), 3, 24) := by kernel_rfl
def PcsPost (w : World) (l : List (Int × Int × Int)) (e0 : Int) (e : Ending) (w' : World) : Prop := ∃ v, e = .returned (.tuple #[v, .int .i64 e0]) ∧ w'.ownsRow w.heap.size 37 3 v l.length (pcells l) ∧ Below w.heap.size w w'
set_option maxHeartbeats 2000000 in
theorem pieces_no (a n s : Int) (w : World) (h : a < 0 ∨ n < 0 ∨ 2147483648 < a ∨ 1048576 < n ∨ s < 1) :
    Calls Try.prog 11 #[.int .i64 a, .int .i64 n, .int .i64 s] w (PcsPost w [] 34) := by
  have fin : ∀ w : World, PcsPost w [] 34 (.returned (.tuple #[.slice none 0 0, .int .i64 34])) w := fun w => ⟨_, rfl, World.ownsRow_nil _ _ _ _, Below.refl _ _⟩
  by_cases h1 : a < 0
  · go_enter Try.func11, Try.ntmps11
    go_wp2
    go_ret2
    exact fin _
  by_cases h2 : n < 0
  · go_enter Try.func11, Try.ntmps11
    go_wp2
    go_ret2
    exact fin _
  by_cases h3 : 2147483648 < a
  · go_enter Try.func11, Try.ntmps11
    go_wp2
    go_ret2
    exact fin _
  by_cases h4 : 1048576 < n
  · go_enter Try.func11, Try.ntmps11
    go_wp2
    go_ret2
    exact fin _
  have h5 : s < 1 := by omega
  go_enter Try.func11, Try.ntmps11
  go_wp2
  go_ret2
  exact fin _
def PcsR.T7 : Bool × List (List Nat × List Nat) := (true, [([], []), ([], []), ([], []), ([1, 2], [1, 2]), ([], []), ([], []), ([4, 5], [4, 5]), ([], []), ([3, 6, 7], [3, 6, 7]), ([8], [8]), ([0, 9], [0, 9]), ([10, 10, 0, 1, 2, 3, 4, 5, 6, 7, 8, 9, 10], [0, 10])])
def PcsR.B7 : List Nat := [0, 0, 0, 6, 0, 0, 48, 0, 254, 510, 1023, 2047]
theorem PcsR.tab7 : rtab .any (opsOf Try.f11 7) = PcsR.T7 := by kernel_rfl
theorem PcsR.bits7 : waitsOk PcsR.T7.2 PcsR.B7 = true := by kernel_rfl
set_option maxHeartbeats 2000000 in
theorem pieces_yes (a n s : Int) (w : World) (h1 : 0 ≤ a) (h2 : 0 ≤ n) (h3 : a ≤ 2147483648) (h4 : n ≤ 1048576) (h5 : 1 ≤ s) (h6 : s ≤ 9223372036854775807) :
    Calls Try.prog 11 #[.int .i64 a, .int .i64 n, .int .i64 s] w (PcsPost w (pcs s n.toNat a n) 0) := by
  obtain ⟨P, hP⟩ : ∃ P, pcs s n.toNat a n = P := ⟨_, rfl⟩
  have hPl := pcs_len h5 n.toNat a n
  rw [hP] at hPl
  have hPL : P.length ≤ 1048576 := by omega
  have HP := Lib.hid hP
  rw [hP]
  clear hP hPl
  go_enter Try.func11, Try.ntmps11
  go_wp2
  go_loopw [0, 1, 8] (fun av nv v wr => ∃ (x m : Int) (f : Nat) (d : List (Int × Int × Int)), av = .int .i64 x ∧ nv = .int .i64 m ∧ 0 ≤ x ∧ x ≤ 2147483648 + 1048576 - m ∧ 0 ≤ m ∧ m ≤ 1048576 ∧ m.toNat ≤ f ∧ Hid (d ++ pcs s f x m = P) ∧ Hid (wr.ownsRow w.heap.size 37 3 v d.length (pcells d)) ∧ Hid (Below w.heap.size w wr)) (fun _ nv _ _ => (intOf nv).toNat)
  case atStart => exact ⟨a, n, n.toNat, [], rfl, rfl, h1, by omega, h2, h4, Nat.le_refl _, Lib.hid (by simpa using HP.out), Lib.hid (World.ownsRow_nil _ _ _ _), Lib.hid (Below.refl _ _)⟩
  case round =>
    obtain ⟨x, m, f, d, rfl, rfl, hx0, hx1, hm0, hm1, hf, HE, HO, HB⟩ := hrel
    by_cases hlt : 0 < m
    · obtain ⟨k1, k2, k3, k4⟩ := pcs_step (a := x) hlt hf h5
      have hr1 := Int.emod_lt_of_pos x (show 0 < s by omega)
      have hr0 := Int.emod_nonneg x (show s ≠ 0 by omega)
      have t1 : x.tmod s = x % s := Int.tmod_eq_emod_of_nonneg hx0
      have t2 : x.tdiv s = x / s := Int.tdiv_eq_ediv_of_nonneg hx0
      have q0 := Int.ediv_nonneg hx0 (show 0 ≤ s by omega)
      have q1 := Int.ediv_le_self (a := x) s hx0
      obtain ⟨r, hr⟩ : ∃ r, x % s = r := ⟨_, rfl⟩
      obtain ⟨q, hq⟩ : ∃ q, x / s = q := ⟨_, rfl⟩
      rw [hr] at k1 k2 k3 k4 hr1 hr0 t1
      rw [hq] at k1 t2 q0 q1
      obtain ⟨k, hk⟩ : ∃ k, min m (s - r) = k := ⟨_, rfl⟩
      rw [hk] at k1 k2 k3 k4
      have hmn : (if s - r < m then s - r else m) = k := by omega
      have hz : ¬ s = 0 := by omega
      have hw : wrap64 q = q := by unfold wrap64; omega
      have K1 := Lib.hid k1
      have K4 := Lib.hid k4
      clear k1 k4 hk hr hq
      obtain ⟨A7, n7, c7, rfl⟩ := own_slice' HO.out
      go_wp2
      refine start_ (n := 12) (S := fun w' => True) (ds := []) #[false, false, false, false, false, false, false, false, false, false, false, false] (by kernel_rfl) rfl rfl trivial (fun hHeld => ?_)
      refine with_tabW PcsR.tab7 PcsR.bits7 (fun HT_ HW_ => ?_)
      have HOd := Lib.hid (World.ownsRow.drew HO.out)
      have HBd := Lib.hid (bl_drew HB.out)
      generalize wr.drew = w2 at HOd HBd hHeld ⊢
      refine pure_ (i := 0) (N := some 39) (v := ?_) (a' := ?_) #[true, false, false, false, false, false, false, false, false, false, false, false] rfl rfl (any_of HT_.out (by kernel_rfl)) (fun _ _ _ h => h) (Or.inl ⟨by rfl, ?_⟩) ?_ ?_
      rotate_left
      · intro w'
        go_simp
        with_reducible rfl
      rotate_left
      · simp only [Act.put, List.setIfInBounds_toArray, List.set_cons_zero, List.set_cons_succ, i64_w, i32_w]
        rfl
      refine pure_ (i := 1) (N := some 40) (v := ?_) (a' := ?_) #[true, true, false, false, false, false, false, false, false, false, false, false] rfl rfl (any_of HT_.out (by kernel_rfl)) (fun _ _ _ h => h) (Or.inl ⟨by rfl, ?_⟩) ?_ ?_
      rotate_left
      · intro w'
        go_simp
        with_reducible rfl
      rotate_left
      · simp only [Act.put, List.setIfInBounds_toArray, List.set_cons_zero, List.set_cons_succ, i64_w, i32_w]
        rfl
      refine pure_ (i := 2) (N := some 41) (v := ?_) (a' := ?_) #[true, true, true, false, false, false, false, false, false, false, false, false] rfl rfl (any_of HT_.out (by kernel_rfl)) (fun _ _ _ h => h) (Or.inl ⟨by rfl, ?_⟩) ?_ ?_
      rotate_left
      · intro w'
        go_simp
        with_reducible rfl
      rotate_left
      · simp only [Act.put, List.setIfInBounds_toArray, List.set_cons_zero, List.set_cons_succ, i64_w, i32_w]
        rfl
      refine pure_ (i := 3) (N := some 42) (v := ?_) (a' := ?_) #[true, true, true, true, false, false, false, false, false, false, false, false] rfl rfl (any_of HT_.out (by kernel_rfl)) (fun _ _ _ h => h) (Or.inl ⟨by rfl, ?_⟩) ?_ ?_
      rotate_left
      · intro w'
        go_simp
        with_reducible rfl
      rotate_left
      · simp only [Act.put, List.setIfInBounds_toArray, List.set_cons_zero, List.set_cons_succ, i64_w, i32_w]
        rfl
      refine pure_ (i := 4) (N := some 43) (v := ?_) (a' := ?_) #[true, true, true, true, true, false, false, false, false, false, false, false] rfl rfl (any_of HT_.out (by kernel_rfl)) (fun _ _ _ h => h) (Or.inl ⟨by rfl, ?_⟩) ?_ ?_
      rotate_left
      · intro w'
        go_simp
        with_reducible rfl
      rotate_left
      · simp only [Act.put, List.setIfInBounds_toArray, List.set_cons_zero, List.set_cons_succ, i64_w, i32_w]
        rfl
      refine pure_ (i := 5) (N := some 44) (v := ?_) (a' := ?_) #[true, true, true, true, true, true, false, false, false, false, false, false] rfl rfl (any_of HT_.out (by kernel_rfl)) (fun _ _ _ h => h) (Or.inl ⟨by rfl, ?_⟩) ?_ ?_
      rotate_left
      · intro w'
        go_simp
        with_reducible rfl
      rotate_left
      · simp only [Act.put, List.setIfInBounds_toArray, List.set_cons_zero, List.set_cons_succ, i64_w, i32_w]
        rfl
      refine pure_ (i := 6) (N := some 45) (v := ?_) (a' := ?_) #[true, true, true, true, true, true, true, false, false, false, false, false] rfl rfl (any_of HT_.out (by kernel_rfl)) (fun _ _ _ h => h) (Or.inl ⟨by rfl, ?_⟩) ?_ ?_
      rotate_left
      · intro w'
        go_simp
        with_reducible rfl
      rotate_left
      · simp only [Act.put, List.setIfInBounds_toArray, List.set_cons_zero, List.set_cons_succ, i64_w, i32_w]
        rfl
      refine pure_ (i := 7) (N := some 46) (v := ?_) (a' := ?_) #[true, true, true, true, true, true, true, true, false, false, false, false] rfl rfl (any_of HT_.out (by kernel_rfl)) (fun _ _ _ h => h) (Or.inl ⟨by rfl, ?_⟩) ?_ ?_
      rotate_left
      · intro w'
        go_simp
        with_reducible rfl
      rotate_left
      · simp only [Act.put, List.setIfInBounds_toArray, List.set_cons_zero, List.set_cons_succ, i64_w, i32_w]
        rfl
      refine pure_ (i := 8) (N := some 47) (v := ?_) (a' := ?_) #[true, true, true, true, true, true, true, true, true, false, false, false] rfl rfl (any_of HT_.out (by kernel_rfl)) (fun _ _ _ h => h) (Or.inl ⟨by rfl, ?_⟩) ?_ ?_
      rotate_left
      · intro w'
        go_simp
        with_reducible rfl
      rotate_left
      · simp only [Act.put, List.setIfInBounds_toArray, List.set_cons_zero, List.set_cons_succ, i64_w, i32_w]
        rfl
      refine one_ (i := 9) (N := some 48) #[true, true, true, true, true, true, true, true, true, true, false, false] rfl rfl (one_of HT_.out (by kernel_rfl)) (by decide) (fun K hK => ?_)
      refine value_ (w1 := ?_) (v := ?_) (by rfl) rfl ?_ ?_
      rotate_left 2
      · go_simp
        constructor
        · rfl
        · rfl
      refine hK.out _ _ trivial (fun hHeld => ?_)
      clear hK K
      refine norm_ (a' := ?_) ?_ ?_
      rotate_left
      · show Act.put _ (some 48) _ = _
        simp only [Act.put, List.setIfInBounds_toArray, List.set_cons_zero, List.set_cons_succ, i64_w, i32_w]
        rfl
      refine one_ (i := 10) (N := some 49) #[true, true, true, true, true, true, true, true, true, true, true, false] rfl rfl (one_of HT_.out (by kernel_rfl)) (by decide) (fun K hK => ?_)
      refine step_append_cells (w0 := w) w.heap.size (by rfl) (.tmp 39) (.tmp 48) 33 37 (.agg #[.int .i64 0, .int .i64 0, .int .i64 0]) 3 24 rfl Try.underlying33 info37 rfl (by decide) (by decide) (.slice A7 n7 c7) d.length (pcells d) [.int .i64 q, .int .i64 r, .int .i64 k] rfl rfl rfl ?a1 ?aO ?aB ?aS ?aL ?_
      (case a1 => simp [Value.oneCell'])
      (case aO => exact HOd.out)
      (case aB => exact HBd.out)
      (case aS => exact HBd.out.size)
      (case aL => have h_ := congrArg List.length HE.out; rw [List.length_append] at h_; omega)
      intro v9 w9 ho hb hg hat
      obtain ⟨A9, n9, c9, rfl⟩ := own_slice' ho
      have O9 := Lib.hid (And.intro ho hb)
      clear ho hb hg hat
      refine hK.out _ _ trivial (fun hHeld => ?_)
      clear hK K
      refine norm_ (a' := ?_) ?_ ?_
      rotate_left
      · show Act.put _ (some 49) _ = _
        simp only [Act.put, List.setIfInBounds_toArray, List.set_cons_zero, List.set_cons_succ, i64_w, i32_w]
        rfl
      refine pure_ (i := 11) (N := some 8) (v := ?_) (a' := ?_) #[true, true, true, true, true, true, true, true, true, true, true, true] rfl rfl (any_of HT_.out (by kernel_rfl)) (fun _ _ _ h => h) (Or.inl ⟨by rfl, ?_⟩) ?_ ?_
      rotate_left
      · intro w'
        go_simp
        with_reducible rfl
      rotate_left
      · simp only [Act.put, List.setIfInBounds_toArray, List.set_cons_zero, List.set_cons_succ, i64_w, i32_w]
        rfl
      refine done_ (done_of HT_.out (by kernel_rfl)) ?_
      go_wp2
      go_roundw
      case rel =>
        refine ⟨x + k, m - k, f - 1, d ++ [(q, r, k)], rfl, rfl, by omega, by omega, by omega, by omega, K4.out, Lib.hid ?_, Lib.hid ?_, Lib.hid O9.out.2⟩
        · have h_ := HE.out
          rw [K1.out] at h_
          rw [List.append_assoc]
          exact h_
        · rw [pcells_append, List.length_append]
          exact O9.out.1
      case measure => simp [intOf]; omega
    · have h_ := HE.out
      rw [pcs_end (by omega), List.append_nil] at h_
      have HF := Lib.hid h_
      clear h_
      go_wp2
      go_ret2
      exact ⟨_, rfl, HF.out ▸ HO.out, HB.out⟩
end Go.Proofs.Ytdcimjkgbnflbaa
