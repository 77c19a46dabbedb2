import Derived.Test.YtdcimjkgbnflbaaMods
import Derived.Deep.RegionHeld3
import Derived.Deep.DrawnRows
import Derived.Laws.CopyOwn
/-! bmap.Set. -/
set_option linter.unusedVariables false
set_option linter.unusedSimpArgs false
namespace Go.Proofs.Ytdcimjkgbnflbaa
open Go.RowKit Go.Proofs.YtdcimjkgbnflbaaW.PrintWords
attribute [local go_sem ↓] Go.wp_at_zero Go.wp_at_succ
/-- A block of numbers, the i-th another one. -/
def setL (xs : List Int) (i v : Int) : List Int := if 0 ≤ i ∧ 4 * i + 4 ≤ xs.length then xs.take (4 * i).toNat ++ le v 4 ++ xs.drop (4 * i + 4).toNat else xs
set_option maxHeartbeats 2000000 in
theorem set_out (xs : List Int) (A : Option Addr) (c : Nat) (i v : Int) (w : World) (hr : ReadsInt w .u8 A xs.length xs) (hl : xs.length ≤ 1099511627776) (hi : ¬ (0 ≤ i ∧ 4 * i + 4 ≤ xs.length)) :
    Calls Try.prog 12 #[.slice A xs.length c, .int .i64 i, .int .u32 v] w fun e w' => ∃ v', e = .returned v' ∧ New w w' v' xs := by
  have HR := Lib.hid hr
  clear hr
  have hq : (xs.length : Int).tdiv 4 = (xs.length : Int) / 4 := Int.tdiv_eq_ediv_of_nonneg (by omega)
  by_cases h0 : i < 0
  · clear hi
    have b1 : decide (i < 0) = true := by simpa using h0
    go_enter Try.func12, Try.ntmps12
    go_wp2_with (at_builtin; refine print_append_row (w0 := w) w.heap.size rfl (.const (.slice none 0 0)) (.tmp 8) 39 5 .u8 1 rfl Try.underlying39 info5' (by decide) (.slice none 0 0) [] xs A _ _ rfl rfl (own_nil _ _ _ _) ?aR (Below.refl _ _) (Nat.le_refl _) ?aL ?_; (case aR => exact HR.out); (case aL => simp; omega); intro v2 w2 ho hb2 hg hat; have G2 := Lib.hid (And.intro ho hb2); clear ho hb2 hg hat)
    go_ret
    exact ⟨_, rfl, G2.out.1, G2.out.2⟩
  · have h1 : (xs.length : Int) / 4 - 1 < i := by omega
    clear hi
    go_enter Try.func12, Try.ntmps12
    go_wp2_with (at_builtin; refine print_append_row (w0 := w) w.heap.size rfl (.const (.slice none 0 0)) (.tmp 8) 39 5 .u8 1 rfl Try.underlying39 info5' (by decide) (.slice none 0 0) [] xs A _ _ rfl rfl (own_nil _ _ _ _) ?aR (Below.refl _ _) (Nat.le_refl _) ?aL ?_; (case aR => exact HR.out); (case aL => simp; omega); intro v2 w2 ho hb2 hg hat; have G2 := Lib.hid (And.intro ho hb2); clear ho hb2 hg hat)
    go_ret
    exact ⟨_, rfl, G2.out.1, G2.out.2⟩
theorem blk_new' (w : World) (cs : Array Value) (t : TypeId) (b : Nat) (hb : b = w.heap.size) : (w.alloc (.cells cs t)).heap[b]? = some (.cells cs t (0, 0)) := by subst hb; exact heap_alloc_new w _
theorem reads_src {w : World} {k : IntKind} {A : Option Addr} {n : Nat} {xs : List Int} (h : ReadsInt w k A n xs) (hn : 0 < n) : ∃ ad, A = some ad ∧ ∀ j v, (nums k xs)[j]? = some v → w.cell? (ad.add j) = some v := by
  obtain ⟨ad, e, hc⟩ := h.2.2 hn
  refine ⟨ad, e, fun j v hv => ?_⟩
  rw [nums, List.getElem?_map, Option.map_eq_some_iff] at hv
  obtain ⟨x, hx, rfl⟩ := hv
  have hj : j < n := by have := (List.getElem?_eq_some_iff.1 hx).1; rw [h.1] at this; exact this
  rw [hc j hj, List.getD_eq_getElem?_getD, hx]
  rfl
theorem nums_one (k : IntKind) (xs : List Int) : ∀ v ∈ nums k xs, v.oneCell' = true := by
  intro v hv
  rw [nums, List.mem_map] at hv
  obtain ⟨x, _, rfl⟩ := hv
  rfl
theorem splice_nums {cur : List Value} {n k : Nat} {ys xs : List Int} (htk : cur.take n = nums .u8 xs) (hl : xs.length = n) (hk : k + ys.length ≤ n) (hn : n ≤ cur.length) :
    (splice cur k (nums .u8 ys)).take n = nums .u8 (xs.take k ++ ys ++ xs.drop (k + ys.length)) := by
  have hnl : (nums .u8 xs).length = n := by rw [nums, List.length_map, hl]
  have hyl : (nums .u8 ys).length = ys.length := by rw [nums, List.length_map]
  obtain ⟨r, hr⟩ : ∃ r, cur.drop n = r := ⟨_, rfl⟩
  have hcur : cur = nums .u8 xs ++ r := by rw [← htk, ← hr, List.take_append_drop]
  have hs1 : splice cur k (nums .u8 ys) = ((nums .u8 xs).take k ++ nums .u8 ys ++ (nums .u8 xs).drop (k + ys.length)) ++ r := by
    rw [hcur, splice, hyl, List.take_append_of_le_length (l₁ := nums .u8 xs) (by omega), List.drop_append_of_le_length (l₁ := nums .u8 xs) (by omega), ← List.append_assoc, ← List.append_assoc]
  have e : nums .u8 (xs.take k ++ ys ++ xs.drop (k + ys.length)) = (nums .u8 xs).take k ++ nums .u8 ys ++ (nums .u8 xs).drop (k + ys.length) := by simp [nums, List.map_take, List.map_drop]
  rw [e, hs1]
  exact List.take_left' (by simp only [List.length_append, List.length_take, List.length_drop, hyl, hnl]; omega)
/-- A new writer is handed one number, in a row of its own. -/
theorem u32_new (w2 : World) (v : Int) (b1 b2 : Nat) (W : World) (h1 : W.heap[b1]? = some (.cells #[.slice none 0 0] 54 (0, 0))) (h2 : W.heap[b2]? = some (.cells #[.int .u32 v] 40 (0, 0))) (hb : Below w2.heap.size w2 W) (hb1 : w2.heap.size ≤ b1) (v0 : 0 ≤ v) (v1 : v < 4294967296) :
    Calls Try.prog 19 #[.pointer (some ⟨b1, 0, none⟩), .slice (some ⟨b2, 0, none⟩) 1 1] W fun e w' => e = .returned (.pointer (some ⟨b1, 0, none⟩)) ∧ (∃ v', WrV w' w2.heap.size b1 v' (le v 4)) ∧ Below w2.heap.size w2 w' := by
  have hr : ReadsInt W .u32 (some ⟨b2, 0, none⟩) ([v] : List Int).length [v] := ⟨rfl, by simp, fun _ => ⟨_, rfl, fun j hj => by
    obtain rfl : j = 0 := by simp at hj; omega
    exact (blk_cell h2 0).trans rfl⟩⟩
  refine (U32_any w2.heap.size b1 (.slice none 0 0) [] [v] _ 1 W ⟨h1, own_nil _ _ _ _⟩ hb1 hb.size hr (by simpa using ⟨v0, v1⟩) (fun _ a ha => ?_) (by simp)).mono ?_
  · obtain rfl := Option.some.inj ha
    refine ⟨fun e => ?_, by simp [Value.ownBlock]⟩
    simp only at e
    subst e
    rw [h1] at h2
    injection h2 with h2
    injection h2 with h2 h3
    exact absurd h3 (by decide)
  · rintro e w' ⟨he, v', g1, g2, g3, g4⟩
    exact ⟨he, ⟨v', by simpa [les] using g1⟩, hb.trans g4⟩
set_option maxHeartbeats 4000000 in
set_option maxRecDepth 100000 in
theorem set_in (xs : List Int) (A : Option Addr) (c : Nat) (i v : Int) (w : World) (hr : ReadsInt w .u8 A xs.length xs) (hl : xs.length ≤ 1099511627776) (hi0 : 0 ≤ i) (hi : 4 * i + 4 ≤ xs.length) (v0 : 0 ≤ v) (v1 : v < 4294967296) :
    Calls Try.prog 12 #[.slice A xs.length c, .int .i64 i, .int .u32 v] w fun e w' => ∃ v', e = .returned v' ∧ New w w' v' (xs.take (4 * i).toNat ++ le v 4 ++ xs.drop (4 * i + 4).toNat) := by
  have HR := Lib.hid hr
  clear hr
  have hq : (xs.length : Int).tdiv 4 = (xs.length : Int) / 4 := Int.tdiv_eq_ediv_of_nonneg (by omega)
  have h0 : ¬ i < 0 := by omega
  have h1 : ¬ (xs.length : Int) / 4 - 1 < i := by omega
  go_enter Try.func12, Try.ntmps12
  go_wp2_with (at_builtin; refine print_append_row (w0 := w) w.heap.size rfl (.const (.slice none 0 0)) (.tmp 8) 39 5 .u8 1 rfl Try.underlying39 info5' (by decide) (.slice none 0 0) [] xs A _ _ rfl rfl (own_nil _ _ _ _) ?aR (Below.refl _ _) (Nat.le_refl _) ?aL ?_; (case aR => exact HR.out); (case aL => simp; omega); intro v2 w2 ho hb2 hg hat; simp only [List.nil_append] at ho; have G2 := Lib.hid (And.intro ho hb2); clear ho hb2 hg hat)
  obtain ⟨k, rfl⟩ := Int.eq_ofNat_of_zero_le hi0
  have hk : 4 * k + 4 ≤ xs.length := by omega
  have hr2 := G2.out.1.2
  rcases hr2 with ⟨_, hz⟩ | ⟨g, cap, cur, rfl, hg, hblk, hcap, hmx, hsz, htk⟩
  · omega
  · have HB := Lib.hid (And.intro hg (And.intro hblk (And.intro hsz htk)))
    clear hg hblk hsz htk hi hi0 h0 h1 hq
    unfold maxLen at hmx
    have s0 : (0 : Int) ≤ 4 * (k : Int) := by omega
    have s1 : 4 * (k : Int) ≤ (xs.length : Int) := by omega
    have s2 : IntKind.i64.wrap (4 * (k : Int)) = 4 * (k : Int) := by rw [IntKind.wrap_i64]; omega
    have s3 : (xs.length : Int) ≤ (cap : Int) := by omega
    have s4 : (4 * (k : Int)).toNat = 4 * k := by omega
    have s5 : ¬ cap = 4 * k := by omega
    go_region_held3 (fun _ => True) (trivial) (first | (go_at_call 19; refine (u32_new w2 v _ _ _ (by first | exact blk_new' _ _ _ _ (by first | rfl | simp) | exact blk_alloc (blk_new' _ _ _ _ (by first | rfl | simp)) _) (by first | exact blk_new' _ _ _ _ (by first | rfl | simp) | exact blk_alloc (blk_new' _ _ _ _ (by first | rfl | simp)) _) (by repeat (first | exact Below.refl _ _ | assumption | apply bl_alloc | apply bl_drew | apply bl_drewN | (refine bl_seq ?_ (by assumption)))) (by first | exact Nat.le_refl _ | simp) v0 v1).mono ?_; rintro e w3 ⟨rfl, hw3⟩; have H3 := Lib.hid hw3; clear hw3) | (go_at_call 20; obtain ⟨v3, h3⟩ := H3.out.1; refine (Bytes_any w2.heap.size _ v3 (le v 4) _ h3 (by simp [le_length])).mono ?_; rintro e w4 ⟨v4, rfl, ho4, hb4⟩; have hn4 : New w3 w4 v4 (le v 4) := ⟨ho4, hb4⟩; obtain ⟨A4, c4, rfl⟩ : ∃ A c, v4 = .slice A 4 c := (by obtain ⟨A, c, e, _⟩ := hn4.slice; exact ⟨A, c, by rw [e, le_length]⟩); have H4 := Lib.hid hn4; clear ho4 hb4 h3 hn4) |
      (refine step_copy_splice (by rfl) (.tmp 24) (.tmp 30) 39 39 (by rfl) 5 Try.underlying39 (by kernel_rfl) (some ⟨g, 4 * k, none⟩) A4 (xs.length - 4 * k) (cap - 4 * k) 4 c4 (by rfl) (by rfl) g (4 * k) cur.toList 5 (by simpa using blk_below ((H3.out.2.block g (blk_lt HB.out.2.1)).trans HB.out.2.1) H4.out.2) (nums .u8 (le v 4)) (by rw [nums, List.length_map, le_length]; exact (Nat.min_eq_left (by omega)).symm) (fun _ => ⟨rfl, reads_src (by simpa [le_length] using H4.out.reads) (by omega)⟩) (by rw [nums, List.length_map, le_length, Array.length_toList, HB.out.2.2.1]; omega) (nums_one _ _) w.heap.size w (bl_seq (bl_seq G2.out.2 H3.out.2) H4.out.2) HB.out.1 ?_; intro w5 hg5 hb5; have H5 := Lib.hid (And.intro hg5 hb5); clear hg5 hb5) | fail)
    all_goals
      go_wp2
      go_ret
      obtain ⟨hg5, hb5⟩ := H5.out
      obtain ⟨h1, h2, h3, h4⟩ := HB.out
      have hlen : (xs.take (4 * (k : Int)).toNat ++ le v 4 ++ xs.drop (4 * (k : Int) + 4).toNat).length = xs.length := by simp only [List.length_append, List.length_take, List.length_drop, le_length]; omega
      have hcl : cur.toList.length = cap := by simpa using h3
      have hsp := splice_nums (cur := cur.toList) (ys := le v 4) (k := 4 * k) (xs := xs) (n := xs.length) (by simpa using h4) rfl (by rw [le_length]; omega) (by rw [hcl]; omega)
      rw [le_length] at hsp
      refine ⟨.slice (some ⟨g, 0, none⟩) xs.length cap, rfl, ⟨by rw [hlen, nums, List.length_map, hlen]; omega, .inr ⟨g, cap, _, by rw [hlen], h1, hg5.out, by rw [hlen]; omega, by unfold maxLen; omega, ?_, ?_⟩⟩, hb5⟩
      · simp only [splice, List.size_toArray, List.length_append, List.length_take, List.length_drop, nums, List.length_map, le_length, Array.length_toList, h3]; omega
      · rw [hlen, Nat.mul_one, show (4 * (k : Int)).toNat = 4 * k by omega, show (4 * (k : Int) + 4).toNat = 4 * k + 4 by omega]
        exact hsp
end Go.Proofs.Ytdcimjkgbnflbaa
