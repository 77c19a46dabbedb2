import Derived.Test.YtkbjndfmbimjiaaMcur
/-! The document's small functions (gabionref01). -/
namespace Go.Proofs.Ytkbjndfmbimjiaa
open Go.RowKit Go.Proofs.YtkbjndfmbimjiaaW.PrintWords
/-- Each is a byte. -/
def Byt (xs : List Int) : Prop := ∀ x ∈ xs, 0 ≤ x ∧ x < 256
theorem Byt.of {xs : List Int} (h : xs.all (fun x => decide (0 ≤ x ∧ x < 256)) = true) : Byt xs := fun x hx => of_decide_eq_true (List.all_eq_true.1 h x hx)
theorem le_byt (x : Int) (n : Nat) : Byt (le x n) := by
  induction n generalizing x with
  | zero => intro y hy; simp [le] at hy
  | succ n ih =>
    intro y hy
    simp only [le, List.mem_cons] at hy
    rcases hy with rfl | hy
    · omega
    · exact ih _ y hy
/-- A slice that is answered, new since w. -/
def New (w w' : World) (v : Value) (xs : List Int) : Prop := w'.ownsRow w.heap.size 5 1 v xs.length (nums .u8 xs) ∧ Below w.heap.size w w'
theorem New.bel {w w' : World} {v : Value} {xs : List Int} (h : New w w' v xs) : Below w.heap.size w w' := h.2
theorem New.slice {w w' : World} {v : Value} {xs : List Int} (h : New w w' v xs) : ∃ A c, v = .slice A xs.length c ∧ xs.length ≤ c := by
  rcases h.1.2 with ⟨rfl, hn⟩ | ⟨g, cap, cur, rfl, _, _, hc, _⟩
  · exact ⟨none, 0, by rw [hn], by omega⟩
  · exact ⟨_, cap, rfl, hc⟩
theorem New.reads {w w' : World} {A : Option Addr} {c n : Nat} {xs : List Int} (h : New w w' (.slice A n c) xs) : ReadsInt w' .u8 A xs.length xs := by
  obtain ⟨A', c', e, _⟩ := h.slice
  injection e with e1 e2 e3
  subst e1 e2 e3
  exact own_reads' h.1
/-- New memory lies elsewhere than what was there. -/
theorem New.far {w w' : World} {v : Value} {xs : List Int} (h : New w w' v xs) {k : Nat} (hk : v.ownBlock = some k) : w.heap.size ≤ k := (h.1.lt k hk).1
set_option maxHeartbeats 1000000 in
theorem rBytes_any (x : Int) (n : Nat) (w : World) (h0 : 0 ≤ x) (h1 : x < 18446744073709551616) (hn : n ≤ 1099511627776) :
    Calls Try.prog 29 #[.int .u64 x, .int .i64 (n : Int)] w fun e w' => ∃ v, e = .returned v ∧ New w w' v (le x n) := by
  go_enter Try.func29, Try.ntmps29
  go_wp2
  go_loopw [0, 5, 6] (fun a v i wr => ∃ (k : Nat) (y : Int) (m : List Int), k ≤ n ∧ i = .int .i64 (k : Int) ∧ a = .int .u64 y ∧ 0 ≤ y ∧ y < 18446744073709551616 ∧ Hid (m ++ le y (n - k) = le x n) ∧ Hid (m.length = k) ∧ Hid (wr.ownsRow w.heap.size 5 1 v m.length (nums .u8 m)) ∧ Hid (Below w.heap.size w wr)) (fun _ _ i _ => n - (intOf i).toNat)
  case atStart => exact ⟨0, x, [], Nat.zero_le _, rfl, rfl, h0, h1, rfl, rfl, Lib.hid (own_nil _ _ _ _), Lib.hid (Below.refl _ _)⟩
  case round =>
    obtain ⟨k, y, m, hk, rfl, rfl, hy0, hy1, HE, HM, HO, HB⟩ := hrel
    by_cases hlt : k < n
    · obtain ⟨A, q, c, rfl⟩ := own_slice' HO.out
      have hd1 : y.tmod 256 = y % 256 := Int.tmod_eq_emod_of_nonneg hy0
      have hd2 : y.tdiv 256 = y / 256 := Int.tdiv_eq_ediv_of_nonneg hy0
      go_wp2_with (at_builtin; refine print_append_num (w0 := w) w.heap.size rfl (.tmp 12) (.tmp 16) 24 5 .u8 1 rfl Try.underlying24 info5' (by decide) (.slice A q c) m (y % 256) rfl rfl ?aO ?aB ?aS ?aL ?_; (case aO => exact HO.out); (case aB => exact HB.out); (case aS => exact HB.out.size); (case aL => have h1_ := HM.out; omega); intro v2 w2 ho hb hg hat; obtain ⟨A2, n2, c2, rfl⟩ := own_slice' ho; have G2 := Lib.hid (And.intro ho hb); clear ho hb hg hat)
      go_roundw
      case rel =>
        refine ⟨k + 1, y / 256, m ++ [y % 256], by omega, by go_num, by first | rfl | (simp [go_sem]; done), by omega, by omega, ?_, ?_, Lib.hid G2.out.1, Lib.hid G2.out.2⟩
        · have e1 : n - k = (n - (k + 1)) + 1 := by omega
          have h_ := HE.out
          rw [e1, le] at h_
          exact Lib.hid (by simpa using h_)
        · have h_ := HM.out
          exact Lib.hid (by simp; omega)
      case measure => simp [intOf]; omega
    · have hfin : m = le x n := by have h_ := HE.out; rw [show n - k = 0 by omega, le, List.append_nil] at h_; exact h_
      have HF := Lib.hid hfin
      clear hfin
      go_wp2
      go_ret
      exact ⟨_, rfl, HF.out ▸ HO.out, HB.out⟩
set_option maxHeartbeats 1000000 in
theorem rZeros_any (n : Nat) (w : World) (hn : n ≤ 1099511627776) :
    Calls Try.prog 22 #[.int .i64 (n : Int)] w fun e w' => ∃ v, e = .returned v ∧ New w w' v (List.replicate n 0) := by
  have hmk := print_make (P := Try.prog) 24 5 .u8 1 Try.underlying24 info5' (by decide) n (by omega)
  go_enter Try.func22, Try.ntmps22
  go_wp2
  go_ret
  refine ⟨_, rfl, ?_, (by repeat (first | exact Below.refl _ _ | assumption | apply bl_alloc | apply bl_drew | apply bl_drewN | (refine bl_seq ?_ (by assumption))))⟩
  have h_ := own_made w w.heap.size 5 .u8 n (Nat.le_refl _) (by omega)
  simpa using h_
set_option maxHeartbeats 1000000 in
theorem rIsZero_any (xs : List Int) (A : Option Addr) (c : Nat) (w : World) (hr : ReadsInt w .u8 A xs.length xs) :
    Calls Try.prog 13 #[.slice A xs.length c] w fun e w' => e = .returned (.bool (xs.all (· == 0))) ∧ Drawn0 w w' := by
  have hm := hr.2.1
  have HR := Lib.hid hr
  clear hr
  go_enter Try.func13, Try.ntmps13
  go_wp2
  go_loopw [3] (fun i wr => ∃ k : Nat, k ≤ xs.length ∧ i = .int .i64 (k : Int) ∧ Hid ((xs.take k).all (· == 0) = true) ∧ Hid (Drawn0 w wr)) (fun i _ => xs.length - (intOf i).toNat)
  case atStart => exact ⟨0, Nat.zero_le _, rfl, rfl, Lib.hid (Drawn0.refl _)⟩
  case round =>
    obtain ⟨k, hk, rfl, HZ, HD⟩ := hrel
    by_cases hlt : k < xs.length
    · have hr1 := HR.out.below HD.out.below
      obtain ⟨ad, he, hc⟩ := hr1.at_ (k : Int) (by omega) (by omega)
      subst he
      rw [Int.toNat_natCast, rd_getD] at hc
      clear hr1
      obtain ⟨x0, hx0⟩ : ∃ x0, xs.getD k 0 = x0 := ⟨_, rfl⟩
      rw [hx0] at hc
      have HX := Lib.hid hx0
      clear hx0
      have hi : (0 : Int) ≤ k ∧ (k : Int) < xs.length := by omega
      by_cases hz : x0 = 0
      · subst hz
        go_wp2
        go_roundw
        case rel =>
          refine ⟨k + 1, by omega, by go_num, ?_, ?_⟩
          · have h_ := HZ.out
            have e_ := HX.out
            rw [List.getD_eq_getElem?_getD, List.getElem?_eq_getElem hlt] at e_
            rw [List.take_succ_eq_append_getElem hlt]
            simp only [List.all_append, h_, List.all_cons, List.all_nil, Bool.and_true, Bool.true_and]
            exact Lib.hid (by simpa using e_)
          · first | exact HD | exact Lib.hid (HD.out.step _)
        case measure => simp [intOf]; omega
      · have hz1 : (x0 == 0) = false := by simpa using hz
        have hz2 : (x0 != 0) = true := by simpa using hz
        have hf : xs.all (· == 0) = false := by
          have e_ := HX.out
          rw [List.getD_eq_getElem?_getD, List.getElem?_eq_getElem hlt] at e_
          rw [Bool.eq_false_iff]
          intro ha
          have h2 := List.all_eq_true.1 ha xs[k] (List.getElem_mem _)
          simp only [Option.getD_some] at e_
          simp [e_] at h2
          exact hz h2
        have HF := Lib.hid hf
        clear hf
        go_wp2
        go_ret
        rw [HF.out]
        exact ⟨rfl, by first | exact HD.out | exact HD.out.step _⟩
    · have hf : xs.all (· == 0) = true := by have h_ := HZ.out; rwa [List.take_of_length_le (by omega)] at h_
      have HF := Lib.hid hf
      clear hf
      go_wp2
      go_ret
      rw [HF.out]
      exact ⟨rfl, by first | exact HD.out | exact HD.out.step _⟩
/-- Two slices of bytes as strings. -/
theorem strOfNums_inj {xs ys : List Int} (hx : Byt xs) (hy : Byt ys) : (strOfNums xs).toList = (strOfNums ys).toList ↔ xs = ys := by
  constructor
  · intro h
    have h2 : (strOfNums xs).data.toList = (strOfNums ys).data.toList := by rwa [ByteArray.toList_eq, ByteArray.toList_eq] at h
    rw [strOfNums_data, strOfNums_data] at h2
    have h3 : ∀ zs : List Int, Byt zs → (zs.map fun n => UInt8.ofNat n.toNat).map (fun c => ((c.toNat : Nat) : Int)) = zs := by
      intro zs hz
      rw [List.map_map]
      conv => rhs; rw [← List.map_id zs]
      apply List.map_congr_left
      intro z hzm
      have := hz z hzm
      simp
      omega
    rw [← h3 xs hx, ← h3 ys hy, h2]
  · rintro rfl; rfl
set_option maxHeartbeats 1000000 in
theorem rSame_any (xs ys : List Int) (A B : Option Addr) (n m c d : Nat) (w : World) (hx : ReadsInt w .u8 A n xs) (hy : ReadsInt w .u8 B m ys) (bx : Byt xs) (by_ : Byt ys) :
    Calls Try.prog 11 #[.slice A n c, .slice B m d] w fun e w' => e = .returned (.bool (decide (xs = ys))) ∧ Drawn0 w w' := by
  have kx := string_of_reads (P := Try.prog) (c := c) Try.underlying24 Try.underlying5 Try.underlying9 hx
  have ky := string_of_reads (P := Try.prog) (c := d) Try.underlying24 Try.underlying5 Try.underlying9 hy
  have hd := strOfNums_inj bx by_
  have hb : ((strOfNums xs).toList == (strOfNums ys).toList) = decide (xs = ys) := by
    rw [Bool.eq_iff_iff, beq_iff_eq, decide_eq_true_eq]; exact hd
  have HB := Lib.hid hb
  clear hb hd bx by_ hx hy
  go_enter Try.func11, Try.ntmps11
  go_wp2
  go_ret
  first | exact ⟨by rw [← HB.out]; rfl, by repeat (first | exact Drawn0.refl _ | apply Drawn0.step)⟩ | skip
set_option maxHeartbeats 1000000 in
theorem rPart_any (xs : List Int) (A : Option Addr) (c : Nat) (a n : Int) (w : World) (hr : ReadsInt w .u8 A xs.length xs) (hc : xs.length ≤ c) (ha : 0 ≤ a) (hn : 0 ≤ n) (hb : a + n ≤ xs.length) (hl : xs.length ≤ 1099511627776) :
    Calls Try.prog 31 #[.slice A xs.length c, .int .i64 a, .int .i64 n] w fun e w' => ∃ v, e = .returned v ∧ New w w' v ((xs.take (a + n).toNat).drop a.toNat) := by
  obtain ⟨i0, hi0, _, hs0, _⟩ := info_parts info5'
  obtain ⟨A', k1, k2, k3⟩ := print_mid_int (P := Try.prog) (k := .u8) 24 5 Try.underlying24 hi0 hs0 A c xs a (a + n) ha (by omega) hb hc
  have HR := Lib.hid (k2 w hr)
  clear k2 k3 hr hi0 hs0
  obtain ⟨ys, hys⟩ : ∃ ys, (xs.take (a + n).toNat).drop a.toNat = ys := ⟨_, rfl⟩
  have hyl : ys.length ≤ xs.length := by rw [← hys, List.length_drop, List.length_take]; omega
  rw [hys] at k1 HR
  rw [hys]
  clear hys
  go_enter Try.func31, Try.ntmps31
  go_wp2_with (at_builtin; refine print_append_row (w0 := w) w.heap.size rfl (.tmp 8) (.tmp 14) 24 5 .u8 1 rfl Try.underlying24 info5' (by decide) (.slice none 0 0) [] ys A' _ _ rfl rfl (own_nil _ _ _ _) ?aR ?aB ?aS ?aL ?_; (case aR => exact HR.out); (case aB => exact (by repeat (first | exact Below.refl _ _ | assumption | apply bl_alloc | apply bl_drew | apply bl_drewN | (refine bl_seq ?_ (by assumption))))); (case aS => simp); (case aL => simp; omega); intro v2 w2 ho hb2 hg hat; have G2 := Lib.hid (And.intro ho hb2); clear ho hb2 hg hat)
  go_ret
  exact ⟨_, rfl, G2.out.1, G2.out.2⟩
end Go.Proofs.Ytkbjndfmbimjiaa
