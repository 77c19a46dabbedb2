import Derived.Test.YtffalemndjampaaBase
/-! The writer of package cursor: what each method leaves. -/
namespace Go.Proofs.Ytffalemndjampaa
open Go.RowKit Go.Proofs.YtffalemndjampaaW.PrintWords
/-- A number's n bytes, the lowest first. -/
def le (x : Int) : Nat → List Int
  | 0 => []
  | n + 1 => x % 256 :: le (x / 256) n
theorem le_length (x : Int) (n : Nat) : (le x n).length = n := by induction n generalizing x <;> simp [le, *]
/-- The shape of what is owned, the length a letter. -/
theorem own_slice' {w : World} {base n : Nat} {e : TypeId} {size : Nat} {v : Value} {xs : List Value} (h : w.ownsRow base e size v n xs) : ∃ A m c, v = .slice A m c := by
  obtain ⟨A, c, h⟩ := own_slice h
  exact ⟨A, n, c, h⟩
theorem info5' : (Try.prog.info? 5).map (fun i => (i.zero, i.size, i.bytes)) = some (some (.int .u8 0), 1, 1) := by kernel_rfl
/-- The writer's variable at p, its slice v, which holds l. -/
structure WrV (w : World) (base p : Nat) (v : Value) (l : List Int) : Prop where
  blk : w.heap[p]? = some (.cells #[v] 29 (0, 0))
  own : w.ownsRow base 5 1 v l.length (nums .u8 l)
theorem WrV.ne {w : World} {base p : Nat} {v : Value} {l : List Int} (h : WrV w base p v l) : some p ≠ v.ownBlock := own_ne h.own h.blk (by decide)
theorem WrV.cell {w : World} {base p : Nat} {v : Value} {l : List Int} (h : WrV w base p v l) : w.cell? ⟨p, 0, none⟩ = some v := by rw [blk_cell h.blk]; rfl
theorem WrV.free {w : World} {base p : Nat} {v : Value} {l : List Int} (h : WrV w base p v l) : w.frozen? ⟨p, 0, none⟩ = false := blk_frozen h.blk 0
theorem WrV.lt {w : World} {base p : Nat} {v : Value} {l : List Int} (h : WrV w base p v l) : p < w.heap.size := blk_lt h.blk
theorem WrV.slice {w : World} {base p : Nat} {v : Value} {l : List Int} (h : WrV w base p v l) : ∃ A c, v = .slice A l.length c := own_slice h.own
/-- What a step of the writer leaves: its bytes; of the rest of memory nothing has turned but its variable and its row. -/
def WrS (w : World) (base p : Nat) (v : Value) (l : List Int) (w' : World) : Prop :=
  ∃ v', WrV w' base p v' l ∧ KeepBut w w' p v.ownBlock ∧ (v'.ownBlock = v.ownBlock ∨ ∃ b, v'.ownBlock = some b ∧ w.heap.size ≤ b) ∧ Below base w w'
theorem WrS.refl {w : World} {base p : Nat} {v : Value} {l : List Int} (h : WrV w base p v l) : WrS w base p v l w := ⟨v, h, KeepBut.refl _ _ _, .inl rfl, Below.refl _ _⟩
theorem WrV.alloc {w : World} {base p : Nat} {v : Value} {l : List Int} (h : WrV w base p v l) (o : Obj) : WrV (w.alloc o) base p v l := ⟨(Below.heap_alloc w o p h.lt).trans h.blk, h.own.alloc o⟩
theorem WrV.drewN {w : World} {base p : Nat} {v : Value} {l : List Int} (h : WrV w base p v l) (n : Nat) : WrV (w.drewN n) base p v l := ⟨h.blk, h.own⟩
theorem WrV.drew {w : World} {base p : Nat} {v : Value} {l : List Int} (h : WrV w base p v l) : WrV w.drew base p v l := ⟨h.blk, h.own⟩
theorem WrV.below {w w' : World} {base p : Nat} {v : Value} {l : List Int} (h : WrV w base p v l) (hb : Below w.heap.size w w') : WrV w' base p v l :=
  ⟨(hb.block p h.lt).trans h.blk, own_move h.own fun k hk => hb.block k (h.own.lt k hk).2⟩
theorem WrS.to {w w1 w2 : World} {base p : Nat} {v v1 : Value} {l1 l2 : List Int} (h : WrV w1 base p v1 l1 ∧ KeepBut w w1 p v.ownBlock ∧ (v1.ownBlock = v.ownBlock ∨ ∃ b, v1.ownBlock = some b ∧ w.heap.size ≤ b) ∧ Below base w w1)
    (k : WrS w1 base p v1 l2 w2) : WrS w base p v l2 w2 := by
  obtain ⟨_, k1, r1, b1⟩ := h
  obtain ⟨v2, h2, k2, r2, b2⟩ := k
  refine ⟨v2, h2, k1.trans k2 r1, ?_, b1.trans b2⟩
  rcases r2 with r2 | ⟨b, r2, hb⟩
  · rw [r2]; exact r1
  · exact .inr ⟨b, r2, Nat.le_trans k1.1 hb⟩
/-- New memory of another's (a box, a row that is handed on) ahead of a step. -/
theorem WrS.after {w w1 w2 : World} {base p : Nat} {v : Value} {l l2 : List Int} (h : WrV w base p v l) (hb : Below w.heap.size w w1) (hB : base ≤ w.heap.size) (k : WrS w1 base p v l2 w2) : WrS w base p v l2 w2 :=
  WrS.to ⟨h.below hb, KeepBut.of_below hb _ _, .inl rfl, hb.mono hB⟩ k
/-- The writer's row has been appended to, and laid back. -/
theorem WrS.put {w wr w2 : World} {base p : Nat} {v v1 v2 : Value} {m l : List Int} (g : WrV wr base p v1 m ∧ KeepBut w wr p v.ownBlock ∧ (v1.ownBlock = v.ownBlock ∨ ∃ b, v1.ownBlock = some b ∧ w.heap.size ≤ b) ∧ Below base w wr)
    (hbp : base ≤ p) (ho : w2.ownsRow base 5 1 v2 l.length (nums .u8 l)) (hb : Below base wr w2) (hg : wr.grownBy w2 v1.ownBlock) (hat : v2.ownBlock = v1.ownBlock ∨ ∃ b, v2.ownBlock = some b ∧ wr.heap.size ≤ b) :
    WrS w base p v l (w2.setCell ⟨p, 0, none⟩ v2) := by
  have h1 := blk_grown g.1.blk hg g.1.ne
  refine WrS.to g ⟨v2, ⟨blk_set h1 0 v2, own_setCell ho (own_ne ho h1 (by decide)) v2⟩, (KeepBut.of_grown hg p).set_ 0 v2, hat, hb.setCell hbp v2⟩
theorem KeepBut.own_step {w w' : World} {g : Nat} {row : Option Nat} {base : Nat} {e : TypeId} {n : Nat} {v : Value} {xs : List Value} (h : KeepBut w w' g row) (ho : w.ownsRow base e 1 v n xs) (hg : v.ownBlock ≠ some g) (hr : v.ownBlock = none ∨ v.ownBlock ≠ row) : w'.ownsRow base e 1 v n xs := h.own ho hg hr
set_option maxHeartbeats 1000000 in
theorem num_any (base p : Nat) (v : Value) (l : List Int) (x : Int) (n : Nat) (w : World) (h : WrV w base p v l) (hbp : base ≤ p) (hB : base ≤ w.heap.size) (h0 : 0 ≤ x) (h1 : x < 18446744073709551616) (hl : l.length + n ≤ 1099511627776) :
    Calls Try.prog 28 #[.pointer (some ⟨p, 0, none⟩), .int .u64 x, .int .i64 (n : Int)] w fun e w' => e = .returned (.pointer (some ⟨p, 0, none⟩)) ∧ WrS w base p v (l ++ le x n) w' := by
  have HP := Lib.hid (WrS.refl h); clear h
  have hn : n ≤ 1099511627776 := by omega
  have HL := Lib.hid hl; clear hl
  go_enter Try.func28, Try.ntmps28
  go_wp2
  go_loopw [1, 10] (fun a i wr => ∃ (k : Nat) (y : Int) (m : List Int), k ≤ n ∧ i = .int .i64 (k : Int) ∧ a = .int .u64 y ∧ 0 ≤ y ∧ y < 18446744073709551616 ∧ Hid (m ++ le y (n - k) = l ++ le x n) ∧ Hid (m.length = l.length + k) ∧ Hid (WrS w base p v m wr)) (fun _ i _ => n - (intOf i).toNat)
  case atStart => exact ⟨0, x, l, Nat.zero_le _, rfl, rfl, h0, h1, rfl, rfl, HP⟩
  case round =>
    obtain ⟨k, y, m, hk, rfl, rfl, hy0, hy1, HE, HM, HW⟩ := hrel
    clear HP
    by_cases hlt : k < n
    · obtain ⟨v1, g1, g2, g3, g4⟩ := HW.out
      obtain ⟨A, c, rfl⟩ := g1.slice
      have hc := g1.cell
      have hf := g1.free
      have G := Lib.hid (And.intro g1 (And.intro g2 (And.intro g3 g4)))
      clear g1 g2 g3 g4
      go_wp2_with (at_builtin; refine print_append_num (w0 := wr) base rfl (.tmp 16) (.tmp 19) 27 5 .u8 1 rfl Try.underlying27 info5' (by decide) (.slice A m.length c) m (y % 256) rfl rfl ?aO (Below.refl _ _) ?aS ?aL ?_; (case aO => exact G.out.1.own); (case aS => have := G.out.2.2.2.size; omega); (case aL => have h1_ := HL.out; have h2_ := HM.out; omega); intro v2 w2 ho hb hg hat; obtain ⟨A2, n2, c2, rfl⟩ := own_slice' ho; have g1 := G.out.1; have hb2 := blk_grown g1.blk hg g1.ne; have hc2 := (blk_cell hb2 0).trans rfl; have hf2 := blk_frozen hb2 0; have G2 := Lib.hid (And.intro ho (And.intro hb (And.intro hg (And.intro hat hb2)))); clear ho hb hg hat g1 hb2)
      go_roundw
      case rel =>
        refine ⟨k + 1, y / 256, m ++ [y % 256], by omega, by go_num, by first | rfl | (simp [go_sem]; done), by omega, by omega, ?_, ?_, ?_⟩
        · have e1 : n - k = (n - (k + 1)) + 1 := by omega
          have h_ := HE.out
          rw [e1, le] at h_
          exact Lib.hid (by simpa using h_)
        · have h_ := HM.out
          exact Lib.hid (by simp; omega)
        · obtain ⟨g1, g2, g3, g4⟩ := G.out
          obtain ⟨ho, hb, hg, hat, hb2⟩ := G2.out
          exact Lib.hid (WrS.put ⟨g1, g2, g3, g4⟩ hbp ho hb hg hat)
      case measure => simp [intOf]; omega
    · have hkn : k = n := by omega
      have hfin : m = l ++ le x n := by have h_ := HE.out; rw [show n - k = 0 by omega, le, List.append_nil] at h_; exact h_
      have HF := Lib.hid hfin
      clear hfin hkn
      go_wp2
      go_ret
      exact ⟨rfl, HF.out ▸ HW.out⟩
/-- What is read elsewhere reads as it did. -/
theorem reads_keep {w w' : World} {k : IntKind} {A : Option Addr} {n g : Nat} {xs : List Int} {row : Option Nat} (h : ReadsInt w k A n xs) (hk : KeepBut w w' g row) (hne : 0 < n → ∀ a, A = some a → a.block ≠ g ∧ some a.block ≠ row) : ReadsInt w' k A n xs :=
  ⟨h.1, h.2.1, fun hn => by
    obtain ⟨ad, e, hc⟩ := h.2.2 hn
    refine ⟨ad, e, fun j hj => ?_⟩
    have hb : ((ad.add j).block) = ad.block := by unfold Addr.add; split <;> rfl
    have hlt := World.block_lt_of_cell? w _ (hc j hj)
    rw [World.cell?_of_block (w := w) (hk.2 _ hlt (by rw [hb]; exact (hne hn ad e).1) (by rw [hb]; exact (hne hn ad e).2))]
    exact hc j hj⟩
/-- What came in lies elsewhere than the writer. -/
theorem reads_far {w w' : World} {k : IntKind} {A : Option Addr} {n base p : Nat} {xs l : List Int} {v : Value} (h : ReadsInt w k A n xs) (hw : w.heap.size ≤ base) (hbp : base ≤ p) (hv : WrV w' base p v l) : 0 < n → ∀ a, A = some a → a.block ≠ p ∧ some a.block ≠ v.ownBlock := by
  intro hn a ha
  obtain ⟨ad, e, hc⟩ := h.2.2 hn
  have hb : ((ad.add 0).block) = ad.block := rfl
  have hlt := World.block_lt_of_cell? w _ (hc 0 hn)
  rw [hb] at hlt
  obtain rfl := Option.some.inj (ha.symm.trans e)
  refine ⟨by omega, fun e2 => ?_⟩
  have := (hv.own.lt _ e2.symm).1
  omega
theorem rd_getD (xs : List Int) (k : Nat) : rd xs (k : Int) = xs.getD k 0 := by simp [rd]
def les (n : Nat) (xs : List Int) : List Int := xs.flatMap fun x => le x n
theorem les_length (n : Nat) (xs : List Int) : (les n xs).length = n * xs.length := by
  induction xs with
  | nil => simp [les]
  | cons x xs ih => simp only [les, List.flatMap_cons, List.length_append, le_length, List.length_cons] at ih ⊢; rw [ih, Nat.mul_add]; omega
theorem les_snoc (n : Nat) (xs : List Int) (k : Nat) (hk : k < xs.length) : les n (xs.take (k + 1)) = les n (xs.take k) ++ le (xs.getD k 0) n := by
  rw [List.take_succ_eq_append_getElem hk, les, les, List.flatMap_append]
  simp [List.getD_eq_getElem?_getD, List.getElem?_eq_getElem hk]
set_option maxHeartbeats 1000000 in
theorem U8_any (base p : Nat) (v : Value) (l xs : List Int) (A : Option Addr) (c : Nat) (w : World) (h : WrV w base p v l) (hbp : base ≤ p) (hB : base ≤ w.heap.size) (hr : ReadsInt w .u8 A xs.length xs) (hx : ∀ x ∈ xs, 0 ≤ x ∧ x < 256) (hne : 0 < xs.length → ∀ a, A = some a → a.block ≠ p ∧ some a.block ≠ v.ownBlock) (hl : l.length + 1 * xs.length ≤ 1099511627776) : Calls Try.prog 57 #[.pointer (some ⟨p, 0, none⟩), .slice A xs.length c] w fun e w' => e = .returned (.pointer (some ⟨p, 0, none⟩)) ∧ WrS w base p v (l ++ les 1 xs) w' := by
  have HP := Lib.hid (WrS.refl h)
  have HV := Lib.hid h
  have hn : xs.length ≤ 1099511627776 := by omega
  have HL := Lib.hid hl
  have HX := Lib.hid hx
  have HR := Lib.hid hr
  have HN := Lib.hid hne
  clear h hl hx hr hne
  go_enter Try.func57, Try.ntmps57
  go_wp2
  go_loopw [9] (fun i wr => ∃ k : Nat, k ≤ xs.length ∧ i = .int .i64 (k : Int) ∧ Hid (WrS w base p v (l ++ les 1 (xs.take k)) wr)) (fun i _ => xs.length - (intOf i).toNat)
  case atStart => exact ⟨0, Nat.zero_le _, rfl, by simpa [les] using HP⟩
  case round =>
    obtain ⟨k, hk, rfl, HW⟩ := hrel
    clear HP
    by_cases hlt : k < xs.length
    · obtain ⟨v1, g1, g2, g3, g4⟩ := HW.out
      have hr1 := reads_keep HR.out g2 HN.out
      obtain ⟨ad, he, hc⟩ := hr1.at_ (k : Int) (by omega) (by omega)
      subst he
      rw [Int.toNat_natCast, rd_getD] at hc
      have hxb : 0 ≤ xs.getD k 0 ∧ xs.getD k 0 < 256 := HX.out _ (by rw [List.getD_eq_getElem?_getD, List.getElem?_eq_getElem hlt]; simp)
      have HS := Lib.hid (les_snoc 1 xs k hlt)
      have hle := (les_length 1 (xs.take k)); rw [List.length_take, Nat.min_eq_left hk] at hle
      have HLE := Lib.hid hle
      clear hle
      obtain ⟨x0, hx0⟩ : ∃ x0, xs.getD k 0 = x0 := ⟨_, rfl⟩
      rw [hx0] at hc hxb HS
      obtain ⟨hxa, hxc⟩ := hxb
      have G := Lib.hid (And.intro g1 (And.intro g2 (And.intro g3 g4)))
      clear g1 g2 g3 g4 hr1 hx0
      go_wp2_with fail
      refine (num_any base p v1 (l ++ les 1 (xs.take k)) x0 1 _ G.out.1 hbp (by have := G.out.2.2.2.size; omega) (by omega) (by omega) (by have h1_ := HL.out; have h2_ := HLE.out; rw [List.length_append, h2_]; have : 1 * (k + 1) ≤ 1 * xs.length := Nat.mul_le_mul_left _ hlt; omega)).mono ?_
      rintro e w2 ⟨rfl, hw2⟩
      have H2 := Lib.hid (WrS.to G.out hw2)
      clear hw2
      go_wp2_with fail
      go_roundw
      case rel => exact ⟨k + 1, by omega, by go_num, by have h_ := H2.out; rw [List.append_assoc, ← HS.out] at h_; exact Lib.hid h_⟩
      case measure => simp [intOf]; omega
    · have hkn : xs.take k = xs := List.take_of_length_le (by omega)
      rw [hkn] at HW
      clear hkn
      go_wp2
      go_ret
      exact ⟨rfl, HW.out⟩
set_option maxHeartbeats 1000000 in
theorem U16_any (base p : Nat) (v : Value) (l xs : List Int) (A : Option Addr) (c : Nat) (w : World) (h : WrV w base p v l) (hbp : base ≤ p) (hB : base ≤ w.heap.size) (hr : ReadsInt w .u16 A xs.length xs) (hx : ∀ x ∈ xs, 0 ≤ x ∧ x < 65536) (hne : 0 < xs.length → ∀ a, A = some a → a.block ≠ p ∧ some a.block ≠ v.ownBlock) (hl : l.length + 2 * xs.length ≤ 1099511627776) : Calls Try.prog 5 #[.pointer (some ⟨p, 0, none⟩), .slice A xs.length c] w fun e w' => e = .returned (.pointer (some ⟨p, 0, none⟩)) ∧ WrS w base p v (l ++ les 2 xs) w' := by
  have HP := Lib.hid (WrS.refl h)
  have HV := Lib.hid h
  have hn : xs.length ≤ 1099511627776 := by omega
  have HL := Lib.hid hl
  have HX := Lib.hid hx
  have HR := Lib.hid hr
  have HN := Lib.hid hne
  clear h hl hx hr hne
  go_enter Try.func5, Try.ntmps5
  go_wp2
  go_loopw [9] (fun i wr => ∃ k : Nat, k ≤ xs.length ∧ i = .int .i64 (k : Int) ∧ Hid (WrS w base p v (l ++ les 2 (xs.take k)) wr)) (fun i _ => xs.length - (intOf i).toNat)
  case atStart => exact ⟨0, Nat.zero_le _, rfl, by simpa [les] using HP⟩
  case round =>
    obtain ⟨k, hk, rfl, HW⟩ := hrel
    clear HP
    by_cases hlt : k < xs.length
    · obtain ⟨v1, g1, g2, g3, g4⟩ := HW.out
      have hr1 := reads_keep HR.out g2 HN.out
      obtain ⟨ad, he, hc⟩ := hr1.at_ (k : Int) (by omega) (by omega)
      subst he
      rw [Int.toNat_natCast, rd_getD] at hc
      have hxb : 0 ≤ xs.getD k 0 ∧ xs.getD k 0 < 65536 := HX.out _ (by rw [List.getD_eq_getElem?_getD, List.getElem?_eq_getElem hlt]; simp)
      have HS := Lib.hid (les_snoc 2 xs k hlt)
      have hle := (les_length 2 (xs.take k)); rw [List.length_take, Nat.min_eq_left hk] at hle
      have HLE := Lib.hid hle
      clear hle
      obtain ⟨x0, hx0⟩ : ∃ x0, xs.getD k 0 = x0 := ⟨_, rfl⟩
      rw [hx0] at hc hxb HS
      obtain ⟨hxa, hxc⟩ := hxb
      have G := Lib.hid (And.intro g1 (And.intro g2 (And.intro g3 g4)))
      clear g1 g2 g3 g4 hr1 hx0
      go_wp2_with fail
      refine (num_any base p v1 (l ++ les 2 (xs.take k)) x0 2 _ G.out.1 hbp (by have := G.out.2.2.2.size; omega) (by omega) (by omega) (by have h1_ := HL.out; have h2_ := HLE.out; rw [List.length_append, h2_]; have : 2 * (k + 1) ≤ 2 * xs.length := Nat.mul_le_mul_left _ hlt; omega)).mono ?_
      rintro e w2 ⟨rfl, hw2⟩
      have H2 := Lib.hid (WrS.to G.out hw2)
      clear hw2
      go_wp2_with fail
      go_roundw
      case rel => exact ⟨k + 1, by omega, by go_num, by have h_ := H2.out; rw [List.append_assoc, ← HS.out] at h_; exact Lib.hid h_⟩
      case measure => simp [intOf]; omega
    · have hkn : xs.take k = xs := List.take_of_length_le (by omega)
      rw [hkn] at HW
      clear hkn
      go_wp2
      go_ret
      exact ⟨rfl, HW.out⟩
set_option maxHeartbeats 1000000 in
theorem U32_any (base p : Nat) (v : Value) (l xs : List Int) (A : Option Addr) (c : Nat) (w : World) (h : WrV w base p v l) (hbp : base ≤ p) (hB : base ≤ w.heap.size) (hr : ReadsInt w .u32 A xs.length xs) (hx : ∀ x ∈ xs, 0 ≤ x ∧ x < 4294967296) (hne : 0 < xs.length → ∀ a, A = some a → a.block ≠ p ∧ some a.block ≠ v.ownBlock) (hl : l.length + 4 * xs.length ≤ 1099511627776) : Calls Try.prog 7 #[.pointer (some ⟨p, 0, none⟩), .slice A xs.length c] w fun e w' => e = .returned (.pointer (some ⟨p, 0, none⟩)) ∧ WrS w base p v (l ++ les 4 xs) w' := by
  have HP := Lib.hid (WrS.refl h)
  have HV := Lib.hid h
  have hn : xs.length ≤ 1099511627776 := by omega
  have HL := Lib.hid hl
  have HX := Lib.hid hx
  have HR := Lib.hid hr
  have HN := Lib.hid hne
  clear h hl hx hr hne
  go_enter Try.func7, Try.ntmps7
  go_wp2
  go_loopw [9] (fun i wr => ∃ k : Nat, k ≤ xs.length ∧ i = .int .i64 (k : Int) ∧ Hid (WrS w base p v (l ++ les 4 (xs.take k)) wr)) (fun i _ => xs.length - (intOf i).toNat)
  case atStart => exact ⟨0, Nat.zero_le _, rfl, by simpa [les] using HP⟩
  case round =>
    obtain ⟨k, hk, rfl, HW⟩ := hrel
    clear HP
    by_cases hlt : k < xs.length
    · obtain ⟨v1, g1, g2, g3, g4⟩ := HW.out
      have hr1 := reads_keep HR.out g2 HN.out
      obtain ⟨ad, he, hc⟩ := hr1.at_ (k : Int) (by omega) (by omega)
      subst he
      rw [Int.toNat_natCast, rd_getD] at hc
      have hxb : 0 ≤ xs.getD k 0 ∧ xs.getD k 0 < 4294967296 := HX.out _ (by rw [List.getD_eq_getElem?_getD, List.getElem?_eq_getElem hlt]; simp)
      have HS := Lib.hid (les_snoc 4 xs k hlt)
      have hle := (les_length 4 (xs.take k)); rw [List.length_take, Nat.min_eq_left hk] at hle
      have HLE := Lib.hid hle
      clear hle
      obtain ⟨x0, hx0⟩ : ∃ x0, xs.getD k 0 = x0 := ⟨_, rfl⟩
      rw [hx0] at hc hxb HS
      obtain ⟨hxa, hxc⟩ := hxb
      have G := Lib.hid (And.intro g1 (And.intro g2 (And.intro g3 g4)))
      clear g1 g2 g3 g4 hr1 hx0
      go_wp2_with fail
      refine (num_any base p v1 (l ++ les 4 (xs.take k)) x0 4 _ G.out.1 hbp (by have := G.out.2.2.2.size; omega) (by omega) (by omega) (by have h1_ := HL.out; have h2_ := HLE.out; rw [List.length_append, h2_]; have : 4 * (k + 1) ≤ 4 * xs.length := Nat.mul_le_mul_left _ hlt; omega)).mono ?_
      rintro e w2 ⟨rfl, hw2⟩
      have H2 := Lib.hid (WrS.to G.out hw2)
      clear hw2
      go_wp2_with fail
      go_roundw
      case rel => exact ⟨k + 1, by omega, by go_num, by have h_ := H2.out; rw [List.append_assoc, ← HS.out] at h_; exact Lib.hid h_⟩
      case measure => simp [intOf]; omega
    · have hkn : xs.take k = xs := List.take_of_length_le (by omega)
      rw [hkn] at HW
      clear hkn
      go_wp2
      go_ret
      exact ⟨rfl, HW.out⟩
end Go.Proofs.Ytffalemndjampaa
