import Derived.Test.YthmhbnpaalgdfaaLaid
/-! An item laid by both (gabionlaw01.lay). -/
set_option linter.unusedVariables false
namespace Go.Proofs.Ythmhbnpaalgdfaa
open Go.RowKit Go.Proofs.YthmhbnpaalgdfaaW.PrintWords
theorem le_mod (x : Int) (n : Nat) (m : Int) (h : m = 256 ^ n) : le (x % m) n = le x n := by
  subst h
  induction n generalizing x with
  | zero => rfl
  | succ n ih =>
    have hp : (256 : Int) ^ (n + 1) = 256 * 256 ^ n := by rw [Int.pow_succ, Int.mul_comm]
    have h1 : x % 256 ^ (n + 1) % 256 = x % 256 := Int.emod_emod_of_dvd x ⟨256 ^ n, hp⟩
    have h2 : x % 256 ^ (n + 1) / 256 = x / 256 % 256 ^ n := by
      rw [hp]
      have h3 := Int.emod_add_mul_ediv x 256
      have h4 := Int.emod_add_mul_ediv (x / 256) (256 ^ n)
      have h5 : x % 256 + 256 * (x / 256 % 256 ^ n) + (256 * 256 ^ n) * (x / 256 / 256 ^ n) = x := by
        rw [Int.mul_assoc, Int.add_assoc, ← Int.mul_add, h4]; exact h3
      have hpos : (0 : Int) < 256 ^ n := Int.pow_pos (by omega)
      have h6 := Int.emod_nonneg (x / 256) (show (256 : Int) ^ n ≠ 0 by omega)
      have h7 := Int.emod_lt_of_pos (x / 256) hpos
      have h8 : x % (256 * 256 ^ n) = x % 256 + 256 * (x / 256 % 256 ^ n) := by
        conv => lhs; rw [← h5]
        rw [Int.add_mul_emod_self_left]
        exact Int.emod_eq_of_lt (by omega) (by omega)
      rw [h8]
      omega
    simp only [le]
    rw [h1, h2, ih]
theorem les_one (n : Nat) (x : Int) : les n [x] = le x n := by simp [les]
theorem bytes_nums {xs : List Int} (h : Byt xs) : bytesOf (strOfNums xs) = xs := by
  rw [bytesOf, strOfNums_data, List.map_map]
  conv => rhs; rw [← List.map_id xs]
  refine List.map_congr_left fun x hx => ?_
  have := h x hx
  simp only [Function.comp, UInt8.toNat_ofNat', id]
  omega
/-- An item behind what is laid. -/
def layL (b : List Int) (k n : Int) (xs : List Int) : List Int :=
  if k = 1 then b ++ le n 1 else if k = 2 then b ++ le n 2 else if k = 3 then b ++ xs else if k = 4 then b ++ le n 4 else if k = 5 then b ++ textL xs
  else if k = 6 then padL b (n % 600) else if k = 8 then b ++ le n 8 else b
theorem textL_byt {xs : List Int} (h : Byt xs) : Byt (textL xs) := by
  intro y hy
  simp only [textL, List.mem_cons] at hy
  rcases hy with rfl | hy
  · rw [List.length_take]; omega
  · exact h y (List.take_subset _ _ hy)
theorem padL_byt {xs : List Int} (h : Byt xs) (n : Int) : Byt (padL xs n) := by
  intro y hy
  rcases List.mem_append.1 hy with hy | hy
  · exact h y hy
  · rw [(List.mem_replicate.1 hy).2]; omega
theorem layL_byt {b xs : List Int} (h : Byt b) (hx : Byt xs) (k n : Int) : Byt (layL b k n xs) := by
  have ap : ∀ {u v : List Int}, Byt u → Byt v → Byt (u ++ v) := fun hu hv y hy => (List.mem_append.1 hy).elim (hu y) (hv y)
  unfold layL
  split
  · exact ap h (le_byt _ _)
  split
  · exact ap h (le_byt _ _)
  split
  · exact ap h hx
  split
  · exact ap h (le_byt _ _)
  split
  · exact ap h (textL_byt hx)
  split
  · exact padL_byt h _
  split
  · exact ap h (le_byt _ _)
  exact h
theorem textL_len (xs : List Int) : (textL xs).length ≤ 256 := by simp [textL]; omega
theorem layL_len (b xs : List Int) (k n : Int) (hx : xs.length ≤ 400) (hn : 0 ≤ n) : (layL b k n xs).length ≤ b.length + 600 := by
  have := textL_len xs
  have h6 : n % 600 < 600 := Int.emod_lt_of_pos _ (by omega)
  unfold layL padL
  repeat' split
  all_goals try simp only [List.length_append, le_length, List.length_replicate]
  all_goals omega
/-- A writer, and a row of its own that is laid beside. -/
structure LayS (w : World) (base p : Nat) (v : Value) (L : List Int) (bv : Value) (lb : List Int) : Prop where
  wr : WrV w base p v L
  own : w.ownsRow base 5 1 bv lb.length (nums .u8 lb)
  ne : bv.ownBlock = none ∨ bv.ownBlock ≠ v.ownBlock
theorem LayS.step_w {w w' : World} {base p : Nat} {v bv : Value} {L L' lb : List Int} (h : LayS w base p v L bv lb) (s : WrS w base p v L' w') : ∃ v', LayS w' base p v' L' bv lb ∧ Below base w w' := by
  obtain ⟨v', h1, h2, h3, h4⟩ := s
  refine ⟨v', ⟨h1, h2.own h.own (fun e => own_ne h.own h.wr.blk (by decide) e.symm) h.ne, ?_⟩, h4⟩
  rcases h3 with h3 | ⟨b, h3, hb⟩
  · rw [h3]; exact h.ne
  · cases hv : bv.ownBlock with
    | none => exact .inl rfl
    | some k =>
      refine .inr fun e => ?_
      rw [h3] at e
      injection e with e
      have := (h.own.lt k hv).2
      omega
theorem LayS.below {w w' : World} {base p : Nat} {v bv : Value} {L lb : List Int} (h : LayS w base p v L bv lb) (hb : Below w.heap.size w w') : LayS w' base p v L bv lb :=
  ⟨h.wr.below hb, own_move h.own fun k hk => hb.block k (h.own.lt k hk).2, h.ne⟩
theorem LayS.step_b {w w' : World} {base p : Nat} {v bv bv' : Value} {L lb lb' : List Int} (h : LayS w base p v L bv lb) (ho : w'.ownsRow base 5 1 bv' lb'.length (nums .u8 lb')) (hg : w.grownBy w' bv.ownBlock) (hat : bv'.ownBlock = bv.ownBlock ∨ ∃ b, bv'.ownBlock = some b ∧ w.heap.size ≤ b) : LayS w' base p v L bv' lb' := by
  have hpv : some p ≠ bv.ownBlock := own_ne h.own h.wr.blk (by decide)
  refine ⟨⟨blk_grown h.wr.blk hg hpv, own_move h.wr.own fun k hk => hg.block k (h.wr.own.lt k hk).2 (fun e => ?_)⟩, ho, ?_⟩
  · rcases h.ne with hn | hn
    · rw [hn] at e; cases e
    · exact hn (e.symm.trans hk.symm)
  · rcases hat with hat | ⟨b, hat, hb⟩
    · rw [hat]; exact h.ne
    · rw [hat]
      refine .inr fun e => ?_
      have := (h.wr.own.lt b e.symm).2
      omega
theorem LayS.new_b {w w' : World} {base p : Nat} {v bv bv' : Value} {L lb lb' : List Int} (h : LayS w base p v L bv lb) (hB : base ≤ w.heap.size) (hn : New w w' bv' lb') : LayS w' base p v L bv' lb' := by
  refine ⟨h.wr.below hn.bel, ?_, ?_⟩
  · obtain ⟨h1, h2⟩ := hn.1
    refine ⟨h1, ?_⟩
    rcases h2 with h2 | ⟨g, cap, cur, e, hg, r⟩
    · exact .inl h2
    · exact .inr ⟨g, cap, cur, e, Nat.le_trans hB hg, r⟩
  · cases hv : bv'.ownBlock with
    | none => exact .inl rfl
    | some k =>
      refine .inr fun e => ?_
      have h1 := hn.far hv
      have := (h.wr.own.lt k e.symm).2
      omega
theorem WrS.blk {w w' : World} {base p q : Nat} {v : Value} {L : List Int} {o : Obj} (s : WrS w base p v L w') (hb : w.heap[q]? = some o) (hq : q ≠ p) (hr : some q ≠ v.ownBlock) : w'.heap[q]? = some o := by
  obtain ⟨_, _, h2, _, _⟩ := s
  exact h2.blk hb hq hr
/-- A new block is none of a writer's. -/
theorem WrV.away {w : World} {base p : Nat} {v : Value} {l : List Int} (h : WrV w base p v l) {q : Nat} (hq : w.heap.size ≤ q) : q ≠ p ∧ some q ≠ v.ownBlock := by
  have h1 := h.lt
  refine ⟨by omega, fun e => ?_⟩
  have := (h.own.lt _ e.symm).2
  omega
theorem le_size {B : Nat} {w w' : World} (h : Below B w w') : w.heap.size ≤ w'.heap.size := h.size
theorem w_keep {w w' : World} {base p : Nat} {v : Value} {L : List Int} (s : WrS w base p v L w') : KeepBut w w' p v.ownBlock := by
  obtain ⟨_, _, h2, _, _⟩ := s
  exact h2
def LayPost (w : World) (base p : Nat) (L lb : List Int) (e : Ending) (w' : World) : Prop := ∃ v' bv', e = .returned bv' ∧ LayS w' base p v' L bv' lb ∧ Below base w w'
set_option maxHeartbeats 2000000 in
set_option maxRecDepth 100000 in
theorem lay_k1 (base p : Nat) (v bv : Value) (L lb xs : List Int) (A : Option Addr) (c : Nat) (n : Int) (w : World) (h : LayS w base p v L bv lb) (hbp : base ≤ p) (hB : base ≤ w.heap.size) (hr : ReadsInt w .u8 A xs.length xs) (hc : xs.length ≤ c) (hy : Byt xs) (hx : xs.length ≤ 400) (h0 : 0 ≤ n) (h1 : n < 18446744073709551616) (hL : L.length ≤ 1000000) (hlb : lb.length ≤ 1000000) :
    Calls Try.prog 19 #[.pointer (some ⟨p, 0, none⟩), bv, .agg #[.int .i64 1, .int .u64 n, .slice A xs.length c]] w (LayPost w base p (layL L 1 n xs) (layL lb 1 n xs)) := by
  have HS := Lib.hid h
  have HR := Lib.hid hr
  have HY := Lib.hid hy
  obtain ⟨Ab, nb, cb, rfl⟩ := own_slice' h.own
  clear h hr hy
  have e1 : layL L 1 n xs = L ++ le n 1 := by simp [layL]
  have e2 : layL lb 1 n xs = lb ++ le n 1 := by simp [layL]
  rw [e1, e2]
  clear e1 e2
  have hm0 : 0 ≤ n % 256 := Int.emod_nonneg _ (by omega)
  have hm1 : n % 256 < 256 := Int.emod_lt_of_pos _ (by omega)
  go_enter Try.func19, Try.ntmps19
  go_wp2_with fail
  have hb0 : (w.alloc (.cells #[.int .i64 1, .int .u64 n, .slice A xs.length c] 47)).heap[w.heap.size]? = some (.cells #[.int .i64 1, .int .u64 n, .slice A xs.length c] 47 (0, 0)) := heap_alloc_new w _
  have g0 := HS.out.below (bl_alloc (Below.refl _ _) (.cells #[.int .i64 1, .int .u64 n, .slice A xs.length c] 47))
  have haw := HS.out.wr.away (q := w.heap.size) (Nat.le_refl _)
  refine (U8_box base p v L [(n % 256)] 1 (w.heap.size + 1) (w.alloc (.cells #[.int .i64 1, .int .u64 n, .slice A xs.length c] 47)) _ (by simp) rfl g0.wr hbp (by simp; omega) rfl (by simp; omega) (by omega)).mono ?_
  rintro e w1 ⟨rfl, hw1⟩
  rw [les_one, le_mod n 1 256 (by decide)] at hw1
  have hb1 := hw1.blk hb0 haw.1 haw.2
  obtain ⟨v1, g1, b1⟩ := g0.step_w hw1
  have hq0 := (blk_cell hb1 1).trans rfl
  have G1 := Lib.hid g1
  have B1 : Hid (Below base w w1) := Lib.hid (((Below.refl _ _).alloc hB _).trans b1)
  clear g1 b1 hw1 hb0 hb1 g0 haw
  go_wp2_with fail
  refine (rBytes_any n 1 _ h0 (by omega) (by omega)).mono ?_
  rintro e w2 ⟨v2, rfl, hn2⟩
  obtain ⟨A2, c2, rfl, _⟩ := hn2.slice
  rw [le_length]
  have G2 := Lib.hid (G1.out.below hn2.bel)
  have N2 := Lib.hid hn2
  have S2 : base ≤ w2.heap.size := by have h1_ := le_size B1.out; have h2_ := le_size hn2.bel; omega
  have B2 : Hid (Below base w w2) := Lib.hid (B1.out.trans (hn2.bel.mono (by have h1_ := le_size B1.out; omega)))
  clear hn2 G1 hq0
  go_wp2_with (at_builtin; refine print_append_row (w0 := w2) base rfl (.tmp 17) (.tmp 20) 22 5 .u8 1 rfl Try.underlying22 info5' (by decide) (.slice Ab nb cb) lb (le n 1) A2 _ c2 rfl rfl G2.out.own (by simpa [le_length] using N2.out.reads) (Below.refl _ _) S2 (by omega) ?_; intro v9 w9 ho hb hg hat; obtain ⟨A9, n9, c9, rfl⟩ := own_slice' ho; have G9 := Lib.hid (And.intro (G2.out.step_b ho hg hat) hb); clear ho hb hg hat)
  go_ret
  exact ⟨_, _, rfl, G9.out.1, B2.out.trans G9.out.2⟩
set_option maxHeartbeats 2000000 in
set_option maxRecDepth 100000 in
theorem lay_k2 (base p : Nat) (v bv : Value) (L lb xs : List Int) (A : Option Addr) (c : Nat) (n : Int) (w : World) (h : LayS w base p v L bv lb) (hbp : base ≤ p) (hB : base ≤ w.heap.size) (hr : ReadsInt w .u8 A xs.length xs) (hc : xs.length ≤ c) (hy : Byt xs) (hx : xs.length ≤ 400) (h0 : 0 ≤ n) (h1 : n < 18446744073709551616) (hL : L.length ≤ 1000000) (hlb : lb.length ≤ 1000000) :
    Calls Try.prog 19 #[.pointer (some ⟨p, 0, none⟩), bv, .agg #[.int .i64 2, .int .u64 n, .slice A xs.length c]] w (LayPost w base p (layL L 2 n xs) (layL lb 2 n xs)) := by
  have HS := Lib.hid h
  have HR := Lib.hid hr
  have HY := Lib.hid hy
  obtain ⟨Ab, nb, cb, rfl⟩ := own_slice' h.own
  clear h hr hy
  have e1 : layL L 2 n xs = L ++ le n 2 := by simp [layL]
  have e2 : layL lb 2 n xs = lb ++ le n 2 := by simp [layL]
  rw [e1, e2]
  clear e1 e2
  have hm0 : 0 ≤ n % 65536 := Int.emod_nonneg _ (by omega)
  have hm1 : n % 65536 < 65536 := Int.emod_lt_of_pos _ (by omega)
  go_enter Try.func19, Try.ntmps19
  go_wp2_with fail
  have hb0 : (w.alloc (.cells #[.int .i64 2, .int .u64 n, .slice A xs.length c] 47)).heap[w.heap.size]? = some (.cells #[.int .i64 2, .int .u64 n, .slice A xs.length c] 47 (0, 0)) := heap_alloc_new w _
  have g0 := HS.out.below (bl_alloc (Below.refl _ _) (.cells #[.int .i64 2, .int .u64 n, .slice A xs.length c] 47))
  have haw := HS.out.wr.away (q := w.heap.size) (Nat.le_refl _)
  refine (U16_box base p v L [(n % 65536)] 1 (w.heap.size + 1) (w.alloc (.cells #[.int .i64 2, .int .u64 n, .slice A xs.length c] 47)) _ (by simp) rfl g0.wr hbp (by simp; omega) rfl (by simp; omega) (by omega)).mono ?_
  rintro e w1 ⟨rfl, hw1⟩
  rw [les_one, le_mod n 2 65536 (by decide)] at hw1
  have hb1 := hw1.blk hb0 haw.1 haw.2
  obtain ⟨v1, g1, b1⟩ := g0.step_w hw1
  have hq0 := (blk_cell hb1 1).trans rfl
  have G1 := Lib.hid g1
  have B1 : Hid (Below base w w1) := Lib.hid (((Below.refl _ _).alloc hB _).trans b1)
  clear g1 b1 hw1 hb0 hb1 g0 haw
  go_wp2_with fail
  refine (rBytes_any n 2 _ h0 (by omega) (by omega)).mono ?_
  rintro e w2 ⟨v2, rfl, hn2⟩
  obtain ⟨A2, c2, rfl, _⟩ := hn2.slice
  rw [le_length]
  have G2 := Lib.hid (G1.out.below hn2.bel)
  have N2 := Lib.hid hn2
  have S2 : base ≤ w2.heap.size := by have h1_ := le_size B1.out; have h2_ := le_size hn2.bel; omega
  have B2 : Hid (Below base w w2) := Lib.hid (B1.out.trans (hn2.bel.mono (by have h1_ := le_size B1.out; omega)))
  clear hn2 G1 hq0
  go_wp2_with (at_builtin; refine print_append_row (w0 := w2) base rfl (.tmp 30) (.tmp 33) 22 5 .u8 1 rfl Try.underlying22 info5' (by decide) (.slice Ab nb cb) lb (le n 2) A2 _ c2 rfl rfl G2.out.own (by simpa [le_length] using N2.out.reads) (Below.refl _ _) S2 (by omega) ?_; intro v9 w9 ho hb hg hat; obtain ⟨A9, n9, c9, rfl⟩ := own_slice' ho; have G9 := Lib.hid (And.intro (G2.out.step_b ho hg hat) hb); clear ho hb hg hat)
  go_ret
  exact ⟨_, _, rfl, G9.out.1, B2.out.trans G9.out.2⟩
set_option maxHeartbeats 2000000 in
set_option maxRecDepth 100000 in
theorem lay_k4 (base p : Nat) (v bv : Value) (L lb xs : List Int) (A : Option Addr) (c : Nat) (n : Int) (w : World) (h : LayS w base p v L bv lb) (hbp : base ≤ p) (hB : base ≤ w.heap.size) (hr : ReadsInt w .u8 A xs.length xs) (hc : xs.length ≤ c) (hy : Byt xs) (hx : xs.length ≤ 400) (h0 : 0 ≤ n) (h1 : n < 18446744073709551616) (hL : L.length ≤ 1000000) (hlb : lb.length ≤ 1000000) :
    Calls Try.prog 19 #[.pointer (some ⟨p, 0, none⟩), bv, .agg #[.int .i64 4, .int .u64 n, .slice A xs.length c]] w (LayPost w base p (layL L 4 n xs) (layL lb 4 n xs)) := by
  have HS := Lib.hid h
  have HR := Lib.hid hr
  have HY := Lib.hid hy
  obtain ⟨Ab, nb, cb, rfl⟩ := own_slice' h.own
  clear h hr hy
  have e1 : layL L 4 n xs = L ++ le n 4 := by simp [layL]
  have e2 : layL lb 4 n xs = lb ++ le n 4 := by simp [layL]
  rw [e1, e2]
  clear e1 e2
  have hm0 : 0 ≤ n % 4294967296 := Int.emod_nonneg _ (by omega)
  have hm1 : n % 4294967296 < 4294967296 := Int.emod_lt_of_pos _ (by omega)
  go_enter Try.func19, Try.ntmps19
  go_wp2_with fail
  have hb0 : (w.alloc (.cells #[.int .i64 4, .int .u64 n, .slice A xs.length c] 47)).heap[w.heap.size]? = some (.cells #[.int .i64 4, .int .u64 n, .slice A xs.length c] 47 (0, 0)) := heap_alloc_new w _
  have g0 := HS.out.below (bl_alloc (Below.refl _ _) (.cells #[.int .i64 4, .int .u64 n, .slice A xs.length c] 47))
  have haw := HS.out.wr.away (q := w.heap.size) (Nat.le_refl _)
  refine (U32_box base p v L [(n % 4294967296)] 1 (w.heap.size + 1) (w.alloc (.cells #[.int .i64 4, .int .u64 n, .slice A xs.length c] 47)) _ (by simp) rfl g0.wr hbp (by simp; omega) rfl (by simp; omega) (by omega)).mono ?_
  rintro e w1 ⟨rfl, hw1⟩
  rw [les_one, le_mod n 4 4294967296 (by decide)] at hw1
  have hb1 := hw1.blk hb0 haw.1 haw.2
  obtain ⟨v1, g1, b1⟩ := g0.step_w hw1
  have hq0 := (blk_cell hb1 1).trans rfl
  have G1 := Lib.hid g1
  have B1 : Hid (Below base w w1) := Lib.hid (((Below.refl _ _).alloc hB _).trans b1)
  clear g1 b1 hw1 hb0 hb1 g0 haw
  go_wp2_with fail
  refine (rBytes_any n 4 _ h0 (by omega) (by omega)).mono ?_
  rintro e w2 ⟨v2, rfl, hn2⟩
  obtain ⟨A2, c2, rfl, _⟩ := hn2.slice
  rw [le_length]
  have G2 := Lib.hid (G1.out.below hn2.bel)
  have N2 := Lib.hid hn2
  have S2 : base ≤ w2.heap.size := by have h1_ := le_size B1.out; have h2_ := le_size hn2.bel; omega
  have B2 : Hid (Below base w w2) := Lib.hid (B1.out.trans (hn2.bel.mono (by have h1_ := le_size B1.out; omega)))
  clear hn2 G1 hq0
  go_wp2_with (at_builtin; refine print_append_row (w0 := w2) base rfl (.tmp 53) (.tmp 56) 22 5 .u8 1 rfl Try.underlying22 info5' (by decide) (.slice Ab nb cb) lb (le n 4) A2 _ c2 rfl rfl G2.out.own (by simpa [le_length] using N2.out.reads) (Below.refl _ _) S2 (by omega) ?_; intro v9 w9 ho hb hg hat; obtain ⟨A9, n9, c9, rfl⟩ := own_slice' ho; have G9 := Lib.hid (And.intro (G2.out.step_b ho hg hat) hb); clear ho hb hg hat)
  go_ret
  exact ⟨_, _, rfl, G9.out.1, B2.out.trans G9.out.2⟩
set_option maxHeartbeats 2000000 in
set_option maxRecDepth 100000 in
theorem lay_k8 (base p : Nat) (v bv : Value) (L lb xs : List Int) (A : Option Addr) (c : Nat) (n : Int) (w : World) (h : LayS w base p v L bv lb) (hbp : base ≤ p) (hB : base ≤ w.heap.size) (hr : ReadsInt w .u8 A xs.length xs) (hc : xs.length ≤ c) (hy : Byt xs) (hx : xs.length ≤ 400) (h0 : 0 ≤ n) (h1 : n < 18446744073709551616) (hL : L.length ≤ 1000000) (hlb : lb.length ≤ 1000000) :
    Calls Try.prog 19 #[.pointer (some ⟨p, 0, none⟩), bv, .agg #[.int .i64 8, .int .u64 n, .slice A xs.length c]] w (LayPost w base p (layL L 8 n xs) (layL lb 8 n xs)) := by
  have HS := Lib.hid h
  have HR := Lib.hid hr
  have HY := Lib.hid hy
  obtain ⟨Ab, nb, cb, rfl⟩ := own_slice' h.own
  clear h hr hy
  have e1 : layL L 8 n xs = L ++ le n 8 := by simp [layL]
  have e2 : layL lb 8 n xs = lb ++ le n 8 := by simp [layL]
  rw [e1, e2]
  clear e1 e2
  have hm0 : 0 ≤ n % 18446744073709551616 := Int.emod_nonneg _ (by omega)
  have hm1 : n % 18446744073709551616 < 18446744073709551616 := Int.emod_lt_of_pos _ (by omega)
  go_enter Try.func19, Try.ntmps19
  go_wp2_with fail
  have hb0 : (w.alloc (.cells #[.int .i64 8, .int .u64 n, .slice A xs.length c] 47)).heap[w.heap.size]? = some (.cells #[.int .i64 8, .int .u64 n, .slice A xs.length c] 47 (0, 0)) := heap_alloc_new w _
  have g0 := HS.out.below (bl_alloc (Below.refl _ _) (.cells #[.int .i64 8, .int .u64 n, .slice A xs.length c] 47))
  have haw := HS.out.wr.away (q := w.heap.size) (Nat.le_refl _)
  refine (U64_box base p v L [n] 1 (w.heap.size + 1) (w.alloc (.cells #[.int .i64 8, .int .u64 n, .slice A xs.length c] 47)) _ (by simp) rfl g0.wr hbp (by simp; omega) rfl (by simp; omega) (by omega)).mono ?_
  rintro e w1 ⟨rfl, hw1⟩
  rw [les_one] at hw1
  have hb1 := hw1.blk hb0 haw.1 haw.2
  obtain ⟨v1, g1, b1⟩ := g0.step_w hw1
  have hq0 := (blk_cell hb1 1).trans rfl
  have G1 := Lib.hid g1
  have B1 : Hid (Below base w w1) := Lib.hid (((Below.refl _ _).alloc hB _).trans b1)
  clear g1 b1 hw1 hb0 hb1 g0 haw
  go_wp2_with fail
  refine (rBytes_any n 8 _ h0 (by omega) (by omega)).mono ?_
  rintro e w2 ⟨v2, rfl, hn2⟩
  obtain ⟨A2, c2, rfl, _⟩ := hn2.slice
  rw [le_length]
  have G2 := Lib.hid (G1.out.below hn2.bel)
  have N2 := Lib.hid hn2
  have S2 : base ≤ w2.heap.size := by have h1_ := le_size B1.out; have h2_ := le_size hn2.bel; omega
  have B2 : Hid (Below base w w2) := Lib.hid (B1.out.trans (hn2.bel.mono (by have h1_ := le_size B1.out; omega)))
  clear hn2 G1 hq0
  go_wp2_with (at_builtin; refine print_append_row (w0 := w2) base rfl (.tmp 92) (.tmp 95) 22 5 .u8 1 rfl Try.underlying22 info5' (by decide) (.slice Ab nb cb) lb (le n 8) A2 _ c2 rfl rfl G2.out.own (by simpa [le_length] using N2.out.reads) (Below.refl _ _) S2 (by omega) ?_; intro v9 w9 ho hb hg hat; obtain ⟨A9, n9, c9, rfl⟩ := own_slice' ho; have G9 := Lib.hid (And.intro (G2.out.step_b ho hg hat) hb); clear ho hb hg hat)
  go_ret
  exact ⟨_, _, rfl, G9.out.1, B2.out.trans G9.out.2⟩
set_option maxHeartbeats 2000000 in
set_option maxRecDepth 100000 in
theorem lay_k3 (base p : Nat) (v bv : Value) (L lb xs : List Int) (A : Option Addr) (c : Nat) (n : Int) (w : World) (h : LayS w base p v L bv lb) (hbp : base ≤ p) (hB : base ≤ w.heap.size) (hr : ReadsInt w .u8 A xs.length xs) (hfar : 0 < xs.length → ∀ a, A = some a → a.block ≠ p ∧ some a.block ≠ v.ownBlock) (hc : xs.length ≤ c) (hy : Byt xs) (hx : xs.length ≤ 400) (h0 : 0 ≤ n) (h1 : n < 18446744073709551616) (hL : L.length ≤ 1000000) (hlb : lb.length ≤ 1000000) :
    Calls Try.prog 19 #[.pointer (some ⟨p, 0, none⟩), bv, .agg #[.int .i64 3, .int .u64 n, .slice A xs.length c]] w (LayPost w base p (layL L 3 n xs) (layL lb 3 n xs)) := by
  have HS := Lib.hid h
  have HR := Lib.hid hr
  have HY := Lib.hid hy
  have HF := Lib.hid hfar
  obtain ⟨Ab, nb, cb, rfl⟩ := own_slice' h.own
  clear h hr hy hfar
  have e1 : layL L 3 n xs = L ++ xs := by simp [layL]
  have e2 : layL lb 3 n xs = lb ++ xs := by simp [layL]
  rw [e1, e2]
  clear e1 e2
  go_enter Try.func19, Try.ntmps19
  go_wp2_with fail
  have hb0 : (w.alloc (.cells #[.int .i64 3, .int .u64 n, .slice A xs.length c] 47)).heap[w.heap.size]? = some (.cells #[.int .i64 3, .int .u64 n, .slice A xs.length c] 47 (0, 0)) := heap_alloc_new w _
  have g0 := HS.out.below (bl_alloc (Below.refl _ _) (.cells #[.int .i64 3, .int .u64 n, .slice A xs.length c] 47))
  have haw := HS.out.wr.away (q := w.heap.size) (Nat.le_refl _)
  refine (Raw_any base p v L xs A _ c _ g0.wr hbp (by simp; omega) (HR.out.below (bl_alloc (Below.refl _ _) _)) (by omega)).mono ?_
  rintro e w1 ⟨rfl, hw1⟩
  have hb1 := hw1.blk hb0 haw.1 haw.2
  obtain ⟨v1, g1, b1⟩ := g0.step_w hw1
  have hq0 := (blk_cell hb1 1).trans rfl
  have hq2 := (blk_cell hb1 2).trans rfl
  have R1 := Lib.hid (reads_keep (HR.out.below (bl_alloc (Below.refl _ _) (.cells #[.int .i64 3, .int .u64 n, .slice A xs.length c] 47))) (w_keep hw1) HF.out)
  have G1 := Lib.hid g1
  have B1 : Hid (Below base w w1) := Lib.hid (((Below.refl _ _).alloc hB _).trans b1)
  have S1 : base ≤ w1.heap.size := by have h1_ := le_size B1.out; omega
  clear g1 b1 hb0 g0 haw
  clear hb1 hw1
  go_wp2_with (at_builtin; refine print_append_row (w0 := w1) base rfl (.tmp 41) (.tmp 43) 22 5 .u8 1 rfl Try.underlying22 info5' (by decide) (.slice Ab nb cb) lb xs A _ c rfl rfl G1.out.own R1.out (Below.refl _ _) S1 (by omega) ?_; intro v9 w9 ho hb hg hat; obtain ⟨A9, n9, c9, rfl⟩ := own_slice' ho; have G9 := Lib.hid (And.intro (G1.out.step_b ho hg hat) hb); clear ho hb hg hat)
  go_ret
  exact ⟨_, _, rfl, G9.out.1, B1.out.trans G9.out.2⟩
set_option maxHeartbeats 2000000 in
set_option maxRecDepth 100000 in
theorem lay_k5 (base p : Nat) (v bv : Value) (L lb xs : List Int) (A : Option Addr) (c : Nat) (n : Int) (w : World) (h : LayS w base p v L bv lb) (hbp : base ≤ p) (hB : base ≤ w.heap.size) (hr : ReadsInt w .u8 A xs.length xs) (hfar : 0 < xs.length → ∀ a, A = some a → a.block ≠ p ∧ some a.block ≠ v.ownBlock) (hc : xs.length ≤ c) (hy : Byt xs) (hx : xs.length ≤ 400) (h0 : 0 ≤ n) (h1 : n < 18446744073709551616) (hL : L.length ≤ 1000000) (hlb : lb.length ≤ 1000000) :
    Calls Try.prog 19 #[.pointer (some ⟨p, 0, none⟩), bv, .agg #[.int .i64 5, .int .u64 n, .slice A xs.length c]] w (LayPost w base p (layL L 5 n xs) (layL lb 5 n xs)) := by
  have HS := Lib.hid h
  have HR := Lib.hid hr
  have HY := Lib.hid hy
  have HF := Lib.hid hfar
  obtain ⟨Ab, nb, cb, rfl⟩ := own_slice' h.own
  clear h hr hy hfar
  have e1 : layL L 5 n xs = L ++ textL xs := by simp [layL]
  have e2 : layL lb 5 n xs = lb ++ textL xs := by simp [layL]
  rw [e1, e2]
  clear e1 e2
  have kx := fun (W : World) (h : ReadsInt W .u8 A xs.length xs) => string_of_reads (P := Try.prog) (c := c) Try.underlying22 Try.underlying5 Try.underlying9 h
  have ks := kx _ (HR.out.below (bl_alloc (Below.refl _ _) (.cells #[.int .i64 5, .int .u64 n, .slice A xs.length c] 47)))
  have hbs := bytes_nums HY.out
  have hsz := strOfNums_size xs
  have hst : (strOfNums xs).size ≤ 1099511627776 := by omega
  have HKX := Lib.hid kx
  have HBS := Lib.hid hbs
  have htl := textL_len xs
  clear kx hsz hbs
  go_enter Try.func19, Try.ntmps19
  go_wp2_with fail
  have hb0 : (w.alloc (.cells #[.int .i64 5, .int .u64 n, .slice A xs.length c] 47)).heap[w.heap.size]? = some (.cells #[.int .i64 5, .int .u64 n, .slice A xs.length c] 47 (0, 0)) := heap_alloc_new w _
  have g0 := HS.out.below (bl_alloc (Below.refl _ _) (.cells #[.int .i64 5, .int .u64 n, .slice A xs.length c] 47))
  have haw := HS.out.wr.away (q := w.heap.size) (Nat.le_refl _)
  refine (Text_any base p v L (strOfNums xs) _ g0.wr hbp (by simp; omega) (by omega) hst).mono ?_
  rintro e w1 ⟨rfl, hw1⟩
  rw [HBS.out] at hw1
  have hb1 := hw1.blk hb0 haw.1 haw.2
  obtain ⟨v1, g1, b1⟩ := g0.step_w hw1
  have hq0 := (blk_cell hb1 1).trans rfl
  have hq2 := (blk_cell hb1 2).trans rfl
  have R1 := Lib.hid (reads_keep (HR.out.below (bl_alloc (Below.refl _ _) (.cells #[.int .i64 5, .int .u64 n, .slice A xs.length c] 47))) (w_keep hw1) HF.out)
  have G1 := Lib.hid g1
  have B1 : Hid (Below base w w1) := Lib.hid (((Below.refl _ _).alloc hB _).trans b1)
  have S1 : base ≤ w1.heap.size := by have h1_ := le_size B1.out; omega
  clear g1 b1 hb0 g0 haw
  clear ks
  have ks := HKX.out _ R1.out
  clear hb1 hw1
  go_wp2_with fail
  refine (rText_any (strOfNums xs) _ hst).mono ?_
  rintro e w2 ⟨v2, rfl, hn2⟩
  rw [HBS.out] at hn2
  obtain ⟨A2, c2, rfl, _⟩ := hn2.slice
  have G2 := Lib.hid (G1.out.below hn2.bel)
  have N2 := Lib.hid hn2
  have S2 : base ≤ w2.heap.size := by have h2_ := le_size hn2.bel; omega
  have B2 : Hid (Below base w w2) := Lib.hid (B1.out.trans (hn2.bel.mono S1))
  clear hn2 G1 hq0 hq2 ks
  go_wp2_with (at_builtin; refine print_append_row (w0 := w2) base rfl (.tmp 65) (.tmp 69) 22 5 .u8 1 rfl Try.underlying22 info5' (by decide) (.slice Ab nb cb) lb (textL xs) A2 _ c2 rfl rfl G2.out.own N2.out.reads (Below.refl _ _) S2 (by omega) ?_; intro v9 w9 ho hb hg hat; obtain ⟨A9, n9, c9, rfl⟩ := own_slice' ho; have G9 := Lib.hid (And.intro (G2.out.step_b ho hg hat) hb); clear ho hb hg hat)
  go_ret
  exact ⟨_, _, rfl, G9.out.1, B2.out.trans G9.out.2⟩
set_option maxHeartbeats 2000000 in
set_option maxRecDepth 100000 in
theorem lay_k6 (base p : Nat) (v bv : Value) (L lb xs : List Int) (A : Option Addr) (c : Nat) (n : Int) (w : World) (h : LayS w base p v L bv lb) (hbp : base ≤ p) (hB : base ≤ w.heap.size) (hr : ReadsInt w .u8 A xs.length xs) (hc : xs.length ≤ c) (hy : Byt xs) (hx : xs.length ≤ 400) (h0 : 0 ≤ n) (h1 : n < 18446744073709551616) (hL : L.length ≤ 1000000) (hlb : lb.length ≤ 1000000) :
    Calls Try.prog 19 #[.pointer (some ⟨p, 0, none⟩), bv, .agg #[.int .i64 6, .int .u64 n, .slice A xs.length c]] w (LayPost w base p (layL L 6 n xs) (layL lb 6 n xs)) := by
  have HS := Lib.hid h
  have HR := Lib.hid hr
  have HY := Lib.hid hy
  obtain ⟨Ab, nb, cb, rfl⟩ := own_slice' h.own
  clear h hr hy
  have e1 : layL L 6 n xs = padL L (n % 600) := by simp [layL]
  have e2 : layL lb 6 n xs = padL lb (n % 600) := by simp [layL]
  rw [e1, e2]
  clear e1 e2
  have hm0 : 0 ≤ n % 600 := Int.emod_nonneg _ (by omega)
  have hm1 : n % 600 < 600 := Int.emod_lt_of_pos _ (by omega)
  have hmt : n.tmod 600 = n % 600 := Int.tmod_eq_emod_of_nonneg h0
  go_enter Try.func19, Try.ntmps19
  go_wp2_with fail
  have hb0 : (w.alloc (.cells #[.int .i64 6, .int .u64 n, .slice A xs.length c] 47)).heap[w.heap.size]? = some (.cells #[.int .i64 6, .int .u64 n, .slice A xs.length c] 47 (0, 0)) := heap_alloc_new w _
  have g0 := HS.out.below (bl_alloc (Below.refl _ _) (.cells #[.int .i64 6, .int .u64 n, .slice A xs.length c] 47))
  have haw := HS.out.wr.away (q := w.heap.size) (Nat.le_refl _)
  refine (Pad_any base p v L (n % 600) _ g0.wr hbp (by simp; omega) (by omega) (by omega)).mono ?_
  rintro e w1 ⟨rfl, hw1⟩
  have hb1 := hw1.blk hb0 haw.1 haw.2
  obtain ⟨v1, g1, b1⟩ := g0.step_w hw1
  have hq0 := (blk_cell hb1 1).trans rfl
  have G1 := Lib.hid g1
  have B1 : Hid (Below base w w1) := Lib.hid (((Below.refl _ _).alloc hB _).trans b1)
  have S1 : base ≤ w1.heap.size := by have h1_ := le_size B1.out; omega
  clear g1 b1 hb0 g0 haw
  clear hb1 hw1
  go_wp2_with fail
  have hnb : nb = lb.length := by
    obtain ⟨A', c', e⟩ := own_slice G1.out.own
    injection e
  have hcb : lb.length ≤ cb := by
    rcases G1.out.own.2 with ⟨e, hn⟩ | ⟨g, cap, cur, e, _, _, hc', _⟩
    · rw [hn]; omega
    · injection e with _ _ e3; rw [e3]; exact hc'
  subst hnb
  refine (rPad_any lb Ab cb (n % 600) _ (own_reads' G1.out.own) hcb (by omega) (by omega) (by omega)).mono ?_
  rintro e w2 ⟨v2, rfl, hn2⟩
  have G2 := Lib.hid (G1.out.new_b S1 hn2)
  have B2 : Hid (Below base w w2) := Lib.hid (B1.out.trans (hn2.bel.mono S1))
  obtain ⟨A2, c2, rfl, _⟩ := hn2.slice
  clear hn2 G1 hq0
  go_wp2_with fail
  go_ret
  exact ⟨_, _, rfl, G2.out, B2.out⟩
set_option maxHeartbeats 2000000 in
set_option maxRecDepth 100000 in
theorem lay_k0 (base p : Nat) (v bv : Value) (L lb xs : List Int) (A : Option Addr) (c : Nat) (k n : Int) (w : World) (h : LayS w base p v L bv lb) (hbp : base ≤ p) (hB : base ≤ w.heap.size) (hr : ReadsInt w .u8 A xs.length xs) (hc : xs.length ≤ c) (hy : Byt xs) (hx : xs.length ≤ 400) (h0 : 0 ≤ n) (h1 : n < 18446744073709551616) (hL : L.length ≤ 1000000) (hlb : lb.length ≤ 1000000) (n1 : k ≠ 1) (n2 : k ≠ 2) (n3 : k ≠ 3) (n4 : k ≠ 4) (n5 : k ≠ 5) (n6 : k ≠ 6) (n8 : k ≠ 8) :
    Calls Try.prog 19 #[.pointer (some ⟨p, 0, none⟩), bv, .agg #[.int .i64 k, .int .u64 n, .slice A xs.length c]] w (LayPost w base p (layL L k n xs) (layL lb k n xs)) := by
  have HS := Lib.hid h
  have HR := Lib.hid hr
  have HY := Lib.hid hy
  obtain ⟨Ab, nb, cb, rfl⟩ := own_slice' h.own
  clear h hr hy
  have c1 : (k == 1) = false := by simpa using n1
  have c2 : (k == 2) = false := by simpa using n2
  have c3 : (k == 3) = false := by simpa using n3
  have c4 : (k == 4) = false := by simpa using n4
  have c5 : (k == 5) = false := by simpa using n5
  have c6 : (k == 6) = false := by simpa using n6
  have c8 : (k == 8) = false := by simpa using n8
  have e1 : layL L k n xs = L := by simp [layL, n1, n2, n3, n4, n5, n6, n8]
  have e2 : layL lb k n xs = lb := by simp [layL, n1, n2, n3, n4, n5, n6, n8]
  rw [e1, e2]
  clear e1 e2 n1 n2 n3 n4 n5 n6 n8
  go_enter Try.func19, Try.ntmps19
  go_wp2
  go_ret
  exact ⟨_, _, rfl, HS.out.below (bl_alloc (Below.refl _ _) _), (Below.refl _ _).alloc hB _⟩
set_option maxHeartbeats 2000000 in
set_option maxRecDepth 100000 in
theorem lay_any (base p : Nat) (v bv : Value) (L lb xs : List Int) (A : Option Addr) (c : Nat) (k n : Int) (w : World) (h : LayS w base p v L bv lb) (hbp : base ≤ p) (hB : base ≤ w.heap.size) (hr : ReadsInt w .u8 A xs.length xs) (hfar : 0 < xs.length → ∀ a, A = some a → a.block ≠ p ∧ some a.block ≠ v.ownBlock) (hc : xs.length ≤ c) (hy : Byt xs) (hx : xs.length ≤ 400) (h0 : 0 ≤ n) (h1 : n < 18446744073709551616) (hL : L.length ≤ 1000000) (hlb : lb.length ≤ 1000000) :
    Calls Try.prog 19 #[.pointer (some ⟨p, 0, none⟩), bv, .agg #[.int .i64 k, .int .u64 n, .slice A xs.length c]] w (LayPost w base p (layL L k n xs) (layL lb k n xs)) := by
  by_cases n1 : k = 1
  · subst n1; exact lay_k1 base p v bv L lb xs A c n w h hbp hB hr hc hy hx h0 h1 hL hlb
  by_cases n2 : k = 2
  · subst n2; exact lay_k2 base p v bv L lb xs A c n w h hbp hB hr hc hy hx h0 h1 hL hlb
  by_cases n3 : k = 3
  · subst n3; exact lay_k3 base p v bv L lb xs A c n w h hbp hB hr hfar hc hy hx h0 h1 hL hlb
  by_cases n4 : k = 4
  · subst n4; exact lay_k4 base p v bv L lb xs A c n w h hbp hB hr hc hy hx h0 h1 hL hlb
  by_cases n5 : k = 5
  · subst n5; exact lay_k5 base p v bv L lb xs A c n w h hbp hB hr hfar hc hy hx h0 h1 hL hlb
  by_cases n6 : k = 6
  · subst n6; exact lay_k6 base p v bv L lb xs A c n w h hbp hB hr hc hy hx h0 h1 hL hlb
  by_cases n8 : k = 8
  · subst n8; exact lay_k8 base p v bv L lb xs A c n w h hbp hB hr hc hy hx h0 h1 hL hlb
  exact lay_k0 base p v bv L lb xs A c k n w h hbp hB hr hc hy hx h0 h1 hL hlb n1 n2 n3 n4 n5 n6 n8
end Go.Proofs.Ythmhbnpaalgdfaa
