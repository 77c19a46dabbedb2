import Derived.Test.YtdcimjkgbnflbaaBset
/-! bmap.Get. -/
set_option linter.unusedVariables false
set_option linter.unusedSimpArgs false
namespace Go.Proofs.Ytdcimjkgbnflbaa
open Go.RowKit Go.Proofs.YtdcimjkgbnflbaaW.PrintWords
set_option maxHeartbeats 1000000 in
theorem get1_any (p q : Nat) (A : Option Addr) (m c : Nat) (x0 : Int) (xs : List Int) (w : World) (h : RdV w p A m c ((0 : Nat) : Int)) (hr : ReadsInt w .u8 A m xs) (hb : Byt xs) (hc : m ≤ c) (hm : 4 ≤ m) (hne : ∀ a, A = some a → a.block ≠ p) (hq : w.heap[q]? = some (.cells #[.int .u32 x0] 40 (0, 0))) (hpq : q ≠ p) :
    Calls Try.prog 22 #[.pointer (some ⟨p, 0, none⟩), .pointer (some ⟨q, 0, none⟩)] w fun e w' => Mods (fun i => i = p ∨ i = q) w w' ∧ e = .returned (.tuple #[]) ∧ w'.heap[q]? = some (.cells #[.int .u32 (num (xs.take 4))] 40 (0, 0)) := by
  have hcc := Lib.hid (mU32_yes p A m c 0 xs w h hr hb hc (by omega) hne)
  have HQ := Lib.hid hq
  obtain ⟨z, hz⟩ : ∃ z, num (xs.take 4) = z := ⟨_, rfl⟩
  rw [List.drop_zero, hz] at hcc
  rw [hz]
  clear hr hb hne hz h hq
  go_enter Try.func22, Try.ntmps22
  go_wp2_with fail
  refine hcc.out.mono ?_
  rintro e w1 ⟨rfl, h1, h2⟩
  have hq1 := h2.blk HQ.out hpq
  have hz0 := (blk_cell hq1 0).trans rfl
  have hf0 := blk_frozen hq1 0
  have H2 := Lib.hid (And.intro h2 hq1)
  clear h1 h2 hq1
  go_wp2_with fail
  go_end0
  exact ⟨(H2.out.1.mono (fun i e => .inl e)).at_ (.inl (.inr rfl)) 0 _, rfl, blk_put H2.out.2 0 _ (by simp)⟩
set_option maxHeartbeats 1000000 in
theorem get_out (xs : List Int) (A : Option Addr) (c : Nat) (i : Int) (w : World) (hl : xs.length ≤ 1099511627776) (hi : ¬ (0 ≤ i ∧ 4 * i + 4 ≤ xs.length)) :
    Calls Try.prog 15 #[.slice A xs.length c, .int .i64 i] w fun e w' => e = .returned (.int .u32 0) ∧ Below w.heap.size w w' := by
  have hq : (xs.length : Int).tdiv 4 = (xs.length : Int) / 4 := Int.tdiv_eq_ediv_of_nonneg (by omega)
  by_cases h0 : i < 0
  · clear hi
    go_enter Try.func15, Try.ntmps15
    go_wp2
    go_ret
    exact ⟨rfl, (by repeat (first | exact Below.refl _ _ | assumption | apply bl_alloc | apply bl_drew | apply bl_drewN | (refine bl_seq ?_ (by assumption))))⟩
  · have h1 : (xs.length : Int) / 4 - 1 < i := by omega
    clear hi
    go_enter Try.func15, Try.ntmps15
    go_wp2
    go_ret
    exact ⟨rfl, (by repeat (first | exact Below.refl _ _ | assumption | apply bl_alloc | apply bl_drew | apply bl_drewN | (refine bl_seq ?_ (by assumption))))⟩
set_option maxHeartbeats 2000000 in
theorem get_in (xs : List Int) (A : Option Addr) (c : Nat) (i : Int) (w : World) (hr : ReadsInt w .u8 A xs.length xs) (hb : Byt xs) (hc : xs.length ≤ c) (hl : xs.length ≤ 1099511627776) (hi0 : 0 ≤ i) (hi : 4 * i + 4 ≤ xs.length) :
    Calls Try.prog 15 #[.slice A xs.length c, .int .i64 i] w fun e w' => e = .returned (.int .u32 (num ((xs.drop (4 * i).toNat).take 4))) ∧ Below w.heap.size w w' := by
  obtain ⟨i0, hi0', _, hs0, _⟩ := info_parts info5'
  obtain ⟨A', k1, k2, k3⟩ := print_mid_int (P := Try.prog) (k := .u8) 39 5 Try.underlying39 hi0' hs0 A c xs (4 * i) (4 * i + 4) (by omega) (by omega) (by omega) hc
  have HR := Lib.hid (k2 w hr)
  have hys : (xs.take (4 * i + 4).toNat).drop (4 * i).toNat = (xs.drop (4 * i).toNat).take 4 := by
    rw [List.drop_take, show (4 * i + 4).toNat - (4 * i).toNat = 4 by omega]
  rw [hys] at k1 HR k3
  have hyb : Byt ((xs.drop (4 * i).toNat).take 4) := fun x hx => hb x (List.mem_of_mem_drop (List.mem_of_mem_take hx))
  have hyl : ((xs.drop (4 * i).toNat).take 4).length = 4 := by rw [List.length_take, List.length_drop]; omega
  obtain ⟨ys, hye⟩ : ∃ ys, (xs.drop (4 * i).toNat).take 4 = ys := ⟨_, rfl⟩
  rw [hye] at k1 HR k3 hyb hyl
  rw [hye]
  have HY := Lib.hid (And.intro hyb hyl)
  have k1' := k1
  rw [hyl] at k1 k3
  have hq : (xs.length : Int).tdiv 4 = (xs.length : Int) / 4 := Int.tdiv_eq_ediv_of_nonneg (by omega)
  have h0 : ¬ i < 0 := by omega
  have h1 : ¬ (xs.length : Int) / 4 - 1 < i := by omega
  have hmf : ∀ (fn : Fn) (first cap : Array Value) (w : World), (Instr.makeFunc fn first cap).run Try.prog w = .ok (.func fn first cap) w := fun _ _ _ _ => rfl
  clear k2 hr hi0' hs0 hys hyb hyl hye k1' hb
  go_enter Try.func15, Try.ntmps15
  go_wp2_with fail
  have hbx : (w.alloc (.cells #[.int .u32 0] 40)).heap[w.heap.size]? = some (.cells #[.int .u32 0] 40 (0, 0)) := heap_alloc_new w _
  refine (read_mods A' 4 (c - (4 * i).toNat) 22 #[.pointer (some ⟨w.heap.size, 0, none⟩)] _ (fun i => i = w.heap.size) (fun w' => w'.heap[w.heap.size]? = some (.cells #[.int .u32 (num ys)] 40 (0, 0))) (fun _ => False) Try.f22 Try.func22 (by kernel_rfl) (by kernel_rfl) (by rintro i rfl; simp) (fun w1 w2 h k => k.blk h (by simp) (by simp)) (fun _ _ h _ => h) ?_).mono ?_
  · intro w2 he hrd hbl hsz
    have hr2 := (HR.out.below (bl_alloc (Below.refl _ _) (.cells #[.int .u32 0] 40))).below hbl
    rw [HY.out.2] at hr2
    have hlt : ∀ a, A' = some a → a.block ≠ (w.alloc (.cells #[.int .u32 0] 40)).heap.size + 1 := by
      intro a ha e
      obtain ⟨ad, e2, hc2⟩ := HR.out.2.2 (by rw [HY.out.2]; omega)
      obtain rfl := Option.some.inj (ha.symm.trans e2)
      have h_ := World.block_lt_of_cell? w _ (hc2 0 (by rw [HY.out.2]; omega))
      have hb0 : (a.add 0).block = a.block := by unfold Addr.add; split <;> rfl
      simp at e
      omega
    refine (get1_any ((w.alloc (.cells #[.int .u32 0] 40)).heap.size + 1) w.heap.size A' 4 _ 0 ys w2 hrd hr2 HY.out.1 (by omega) (by omega) hlt (blk_below hbx hbl) (by simp; omega)).mono ?_
    rintro e w' ⟨hM, he2, hq2⟩
    rw [List.take_of_length_le (by rw [HY.out.2]; omega)] at hq2
    exact ⟨hM, .inl ⟨he2, hq2⟩⟩
  · rintro e w1 ⟨hM, ⟨rfl, hP⟩ | ⟨_, hF⟩⟩
    · have hz0 := (blk_cell hP 0).trans rfl
      have HM := Lib.hid hM
      clear hM hP
      go_wp2_with fail
      go_ret
      exact ⟨rfl, (bl_alloc (Below.refl _ _) _).trans (HM.out.below (B := w.heap.size) (by simp) (by rintro i rfl; exact Nat.le_refl _))⟩
    · exact hF.elim
end Go.Proofs.Ytdcimjkgbnflbaa
