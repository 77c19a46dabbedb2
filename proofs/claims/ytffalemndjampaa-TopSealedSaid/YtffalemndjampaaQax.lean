/- What the proof of TopSealed leans on: Tx Ty Tz. -/
import Derived.Test.YtffalemndjampaaQaw
section
set_option linter.unusedVariables false
set_option linter.unusedSimpArgs false
namespace Go.Proofs.Ytffalemndjampaa
open Go.RowKit Go.Proofs.YtffalemndjampaaW.PrintWords Go.Proofs.YtffalemndjampaaW.PrintLast
def St.tick (s : St) (j : Nat) : St := { s with ops := s.ops + (j : Int) }
theorem tick_succ (s : St) (j : Nat) : s.tick (j + 1) = { s.tick j with ops := (s.tick j).ops + 1 } := by
 simp only [St.tick, St.mk.injEq, true_and, and_true]; omega
theorem tick_zero (s : St) : s.tick 0 = s := by cases s; simp [St.tick]
theorem nread_on (ar : Ar) (ok : Nat → Prop) (s : St) (b p : Nat) (w : World) (hf : ar.Fix) (hok : ∀ k, ok k → ¬ ar.M k) (h : Arr w ar ok s) (hb : b < 16) (hp : p < 6) (h0 : 0 ≤ s.ops) (h1 : s.ops ≤ 1000000) (hoff : s.off = false) (hk : s.kind ar ≠ 2) :
  Calls Try.prog 46 #[.pointer (some ⟨ar.p, 0, none⟩), .int .i64 0, .int .i64 (b : Int), .int .i64 (p : Int)] w (fun e w' => ∃ D cd O co, e = .returned (.tuple #[.slice (some D) 256 cd, .slice (some O) 64 co, .int .i64 0]) ∧ Arr w' ar ok { s with ops := s.ops + 1 } ∧ Mods ar.M w w' ∧ 256 ≤ cd ∧ 64 ≤ co ∧ ReadsInt w' .u8 (some D) 256 (pgD ((s.bl b).pg p)).1 ∧ ReadsInt w' .u8 (some O) 64 (pgD ((s.bl b).pg p)).2 ∧ w.heap.size ≤ D.block ∧ w.heap.size ≤ O.block) := by
 have hr : readS ar s = ({ s with ops := s.ops + 1 }, 0) := by rw [readS, if_neg (by rw [hoff]; decide), if_neg hk]
 refine (nread_any ar ok s b p w hf hok h hb hp h0 h1).mono ?_
 rintro e w' ⟨dv, ov, rfl, h2, h3, h4⟩
 rw [hr] at h2 h4 ⊢
 obtain ⟨D, cd, O, co, rfl, rfl, h5⟩ := h4 rfl
 exact ⟨D, cd, O, co, rfl, h2, h3, h5⟩
theorem Arr.oklt {w : World} {ar : Ar} {ok : Nat → Prop} {s : St} (h : Arr w ar ok s) : Arr w ar (fun k => ok k ∧ k < w.heap.size) s := by
 obtain ⟨h1, h2, h3, h4, h5, h6, h7⟩ := h
 refine ⟨h1, h2, h3, h4, h5, h6, fun i hi => ?_⟩
 obtain ⟨D, d1, d2, d3⟩ := h7 i hi
 refine ⟨D, d1, d2, fun p hp => ?_⟩
 have h_ := d3 p hp
 cases hpg : (s.bl i).pg p with
 | none => rw [hpg] at h_; exact h_
 | some y =>
  rw [hpg] at h_
  obtain ⟨A, c, B, c', a1, a2, a3, a4, a5, a6, a7, a8, a9⟩ := h_
  have l1 := reads_lt a5 (by decide) A rfl
  have l2 := reads_lt a6 (by decide) B rfl
  exact ⟨A, c, B, c', a1, a2, a3, a4, a5, a6, ⟨a7, l1⟩, ⟨a8, l2⟩, a9⟩
theorem Arr.outB {w : World} {ar : Ar} {ok : Nat → Prop} {s : St} (h : Arr w ar ok s) (he : ∀ x, ar.EA = some x → x.block < w.heap.size) (hl : ∀ x, ar.LA = some x → 0 < ar.ln → x.block < w.heap.size) (hk : ∀ k, ok k → k < w.heap.size) {x : Nat} (hx : w.heap.size ≤ x) : ar.Out ok x := by
 have q1 := World.block_lt_of_cell? w _ h.2.1
 have q2 := World.block_lt_of_cell? w _ h.2.2.1
 simp only at q1 q2
 refine ⟨fun hm => ?_, ?_, ?_, fun y hy e => ?_, fun y hy hp e => ?_, fun e => ?_⟩
 ·have := h.M_lt hm; omega
 ·omega
 ·omega
 ·have := he y hy; omega
 ·have := hl y hy hp; omega
 ·have := hk _ e; omega
theorem own_ge {w : World} {base : Nat} {e : TypeId} {size n : Nat} {v : Value} {xs : List Value} (h : w.ownsRow base e size v n xs) (k : Nat) (hk : v.ownBlock = some k) : base ≤ k := by
 rcases h.2 with ⟨rfl, _⟩ | ⟨g, cap, cur, rfl, hb, _⟩
 ·simp [Value.ownBlock] at hk
 ·simp only [Value.ownBlock, Option.some.injEq] at hk; omega
theorem set5_mods {S : Nat → Prop} {w w1 : World} (h : Mods S w w1) {g : Nat} (hg : S g ∨ w.heap.size ≤ g) (a b c d e : Value) : Mods S w (((((w1.setCell ⟨g, 0, none⟩ a).setCell ⟨g, 1, none⟩ b).setCell ⟨g, 2, none⟩ c).setCell ⟨g, 3, none⟩ d).setCell ⟨g, 4, none⟩ e) :=
 ((((h.at_ hg 0 _).at_ hg 1 _).at_ hg 2 _).at_ hg 3 _).at_ hg 4 _
def LR (w : World) (B : Nat) (l : Value) (n : Nat) (x : List Int × List Int) (xs : List Value) : Prop :=
 w.ownsRow B 131 2 l n xs ∧ (n = 0 ∨ ∃ D cd O co ys, xs = .slice (some D) 256 cd :: .slice (some O) 64 co :: ys ∧ 256 ≤ cd ∧ 64 ≤ co ∧ ReadsInt w .u8 (some D) 256 x.1 ∧ ReadsInt w .u8 (some O) 64 x.2 ∧ l.ownBlock ≠ some D.block ∧ l.ownBlock ≠ some O.block ∧ B ≤ D.block ∧ B ≤ O.block)
theorem LR.mods {S : Nat → Prop} {w w' : World} {B n : Nat} {l : Value} {x : List Int × List Int} {xs : List Value} (h : LR w B l n x xs) (hm : Mods S w w') (hs : ∀ k, B ≤ k → ¬ S k) : LR w' B l n x xs := by
 obtain ⟨h1, h2⟩ := h
 refine ⟨own_mods h1 hm (fun k hk => hs k ?_), ?_⟩
 ·rcases h1.2 with ⟨rfl, -⟩ | ⟨g, cap, cur, rfl, hg, -⟩
  ·simp [Value.ownBlock] at hk
  ·simp only [Value.ownBlock, Option.some.injEq] at hk; omega
 ·rcases h2 with h2 | ⟨D, cd, O, co, ys, e1, e2, e3, e4, e5, e6, e7, e8, e9⟩
  ·exact .inl h2
  ·exact .inr ⟨D, cd, O, co, ys, e1, e2, e3, reads_mods e4 hm (fun y hy => by obtain rfl := Option.some.inj hy; exact hs _ e8), reads_mods e5 hm (fun y hy => by obtain rfl := Option.some.inj hy; exact hs _ e9), e6, e7, e8, e9⟩
theorem LR.app {w w1 : World} {B n : Nat} {l v : Value} {x y : List Int × List Int} {xs : List Value} {D O : Addr} {cd co : Nat} (h : LR w B l n x xs) (ho : w1.ownsRow B 131 2 v (n + 1) (xs ++ [.slice (some D) 256 cd, .slice (some O) 64 co])) (hg : w.grownBy w1 l.ownBlock) (hat : v.ownBlock = l.ownBlock ∨ ∃ b, v.ownBlock = some b ∧ w.heap.size ≤ b)
  (h1 : 256 ≤ cd) (h2 : 64 ≤ co) (h3 : ReadsInt w .u8 (some D) 256 y.1) (h4 : ReadsInt w .u8 (some O) 64 y.2) (h5 : l.ownBlock ≠ some D.block) (h6 : l.ownBlock ≠ some O.block) (h7 : B ≤ D.block) (h8 : B ≤ O.block) (hxy : n = 0 → y = x) : LR w1 B v (n + 1) x (xs ++ [.slice (some D) 256 cd, .slice (some O) 64 co]) := by
 refine ⟨ho, .inr ?_⟩
 have hm : Mods (fun k => l.ownBlock = some k) w w1 := (Mods.refl _ w).grown_ hg (fun k e => .inl e)
 have hv : ∀ A : Addr, l.ownBlock ≠ some A.block → A.block < w.heap.size → v.ownBlock ≠ some A.block := fun A hA hlt => by
  rcases hat with e | ⟨b, e, hb⟩
  ·rw [e]; exact hA
  ·rw [e]; intro e2; have := Option.some.inj e2; omega
 rcases h.2 with rfl | ⟨D', cd', O', co', ys, e1, e2, e3, e4, e5, e6, e7, e8, e9⟩
 ·have hx : xs = [] := List.eq_nil_of_length_eq_zero (by simpa using h.1.1)
  obtain rfl := hxy rfl
  exact ⟨D, cd, O, co, [], by rw [hx]; rfl, h1, h2, reads_mods h3 hm (fun z hz => by obtain rfl := Option.some.inj hz; exact h5), reads_mods h4 hm (fun z hz => by obtain rfl := Option.some.inj hz; exact h6), hv D h5 (reads_lt h3 (by decide) D rfl), hv O h6 (reads_lt h4 (by decide) O rfl), h7, h8⟩
 ·exact ⟨D', cd', O', co', ys ++ [.slice (some D) 256 cd, .slice (some O) 64 co], by rw [e1]; rfl, e2, e3, reads_mods e4 hm (fun z hz => by obtain rfl := Option.some.inj hz; exact e6), reads_mods e5 hm (fun z hz => by obtain rfl := Option.some.inj hz; exact e7), hv D' e6 (reads_lt e4 (by decide) D' rfl), hv O' e7 (reads_lt e5 (by decide) O' rfl), e8, e9⟩
theorem LR.shape {w : World} {B n : Nat} {v : Value} {x : List Int × List Int} {xs : List Value} (h : LR w B v (n + 1) x xs) : ∃ G c D cd O co, v = .slice (some ⟨G, 0, none⟩) (n + 1) c ∧ w.cell? ⟨G, 0, none⟩ = some (.slice (some D) 256 cd) ∧ w.cell? ⟨G, 1, none⟩ = some (.slice (some O) 64 co) ∧ 256 ≤ cd ∧ 64 ≤ co ∧ ReadsInt w .u8 (some D) 256 x.1 ∧ ReadsInt w .u8 (some O) 64 x.2 := by
 obtain ⟨h1, h2⟩ := h
 rcases h2 with h2 | ⟨D, cd, O, co, ys, e1, e2, e3, e4, e5, -⟩
 ·omega
 ·rcases h1.2 with ⟨-, h0⟩ | ⟨g, cap, cur, rfl, hg, _⟩
  ·omega
  ·have hc := h1.cells (g := g) rfl
   subst e1
   refine ⟨g, cap, D, cd, O, co, rfl, ?_, ?_, e2, e3, e4, e5⟩
   ·exact hc 0 _ rfl
   ·exact hc 1 _ rfl
def TxR.T5 : Bool × List (List Nat × List Nat) := (true, [([], []), ([0], [0]), ([1], [1]), ([2], [2]), ([], []), ([4], [4]), ([5], [5]), ([6], [6]), ([], []), ([], []), ([3, 7, 8, 9], [3, 7, 8, 9]), ([10], [10]), ([11], [11]), ([11], [11]), ([11], [11]), ([12, 10, 0, 1, 2, 3, 4, 5, 6, 7, 8, 9, 10, 11, 12], [12]), ([13, 15, 0, 1, 2, 3, 4, 5, 6, 7, 8, 9, 10, 11, 12, 13, 15], [13]), ([14, 16, 0, 1, 2, 3, 4, 5, 6, 7, 8, 9, 10, 11, 12, 13, 14, 15, 16], [14])])
def TxR.B5 : List Nat := [0, 1, 3, 7, 0, 16, 48, 112, 0, 0, 1023, 2047, 4095, 4095, 4095, 8191, 49151, 131071]
theorem TxR.tab5 : rtab .any (opsOf Try.f39 5) = TxR.T5 := by kernel_rfl
theorem TxR.bits5 : waitsOk TxR.T5.2 TxR.B5 = true := by kernel_rfl
theorem LR.lt {w : World} {B n : Nat} {l : Value} {x : List Int × List Int} {xs : List Value} (h : LR w B l n x xs) : ∀ k, l.ownBlock = some k → k < w.heap.size := by
 intro k hk
 rcases h.1.2 with ⟨rfl, -⟩ | ⟨g, cap, cur, rfl, hg, hh, -⟩
 ·simp [Value.ownBlock] at hk
 ·simp only [Value.ownBlock, Option.some.injEq] at hk; have := blk_lt hh; omega
def FindQ (w : World) (ar : Ar) (ok : Nat → Prop) (s : St) (x : List Int × List Int) (e : Ending) (w' : World) : Prop :=
 ∃ j, j ≤ 4 ∧ Arr w' ar ok (s.tick j) ∧ Mods ar.M w w' ∧ ((∃ T C, IsTab x T ∧ e = .returned (.tuple #[.agg C, .bool true, .int .i64 0]) ∧ TbR w' (fun k => w.heap.size ≤ k) C T) ∨ (NoTab x ∧ e = .returned (.tuple #[.agg tb0, .bool false, .int .i64 0])))
theorem infoPage : (Try.prog.info? 131).map (fun i => (i.zero, i.size, i.bytes)) = some (some (.agg #[.slice none 0 0, .slice none 0 0]), 2, 48) := by kernel_rfl
set_option maxHeartbeats 16000000 in
set_option maxRecDepth 100000 in
theorem find_aux (ar : Ar) (ok : Nat → Prop) (s : St) (vp kb : Nat) (c6 c7 c8 c9 c10 : Value) (x1 x2 : List Int) (w : World) (hf : ar.Fix) (hok : ∀ k, ok k → ¬ ar.M k) (hlt : ∀ k, ok k → k < w.heap.size) (he : ∀ x, ar.EA = some x → x.block < w.heap.size) (hl : ∀ x, ar.LA = some x → 0 < ar.ln → x.block < w.heap.size) (h : Arr w ar ok s) (hv : w.heap[vp]? = some (.cells #[.pointer (some ⟨ar.p, 0, none⟩), .int .i64 0, .int .i64 3, .int .i64 16, .int .i64 6, .int .i64 256, c6, c7, c8, c9, c10] 110 (0, 0))) (hvM : ¬ ar.M vp) (hkb : kb < 16) (h0 : 0 ≤ s.ops) (h1 : s.ops + 4 ≤ 1000000) (hoff : s.off = false) (hkd : ∀ j, j ≤ 3 → (s.tick j).kind ar ≠ 2) (hxx : pgD ((s.bl kb).pg 0) = (x1, x2)) (hx : (∃ T, IsTab (x1, x2) T) ∨ NoTab (x1, x2)) :
  Calls Try.prog 39 #[.pointer (some ⟨vp, 0, none⟩), .int .i64 (kb : Int)] w (FindQ w ar ok s (x1, x2)) := by
 have HF := Lib.hid (And.intro hf (And.intro hok (And.intro hoff hkd)))
 have HX := Lib.hid (And.intro hxx hx)
 have HM := Lib.hid (show (∀ k, ar.M k → k < w.heap.size) ∧ (∀ k, w.heap.size ≤ k → ar.Out ok k) ∧ ¬ ar.M vp from ⟨fun k hk => h.M_lt hk, fun k hk => h.outB he hl hlt hk, hvM⟩)
 have HBY := Lib.hid (h.pgbyt kb 0 hkb (by decide))
 have HV := Lib.hid (blk_below hv (bl_alloc (Below.refl w.heap.size w) (.cells #[.int .u32 0, .slice none 0 0, .slice none 0 0, .int .i64 0, .int .i64 0] 108)))
 have HA := Lib.hid (h.below (bl_alloc (Below.refl w.heap.size w) (.cells #[.int .u32 0, .slice none 0 0, .slice none 0 0, .int .i64 0, .int .i64 0] 108)))
 have HG := Lib.hid (heap_alloc_new w (.cells #[.int .u32 0, .slice none 0 0, .slice none 0 0, .int .i64 0, .int .i64 0] 108))
 have HB := Lib.hid (bl_alloc (Below.refl w.heap.size w) (.cells #[.int .u32 0, .slice none 0 0, .slice none 0 0, .int .i64 0, .int .i64 0] 108))
 obtain ⟨g, hg⟩ : ∃ g, w.heap.size = g := ⟨_, rfl⟩
 have HVO := Lib.hid (show vp < w.heap.size from blk_lt hv)
 have HB0 := Lib.hid (show (w.alloc (.cells #[.int .u32 0, .slice none 0 0, .slice none 0 0, .int .i64 0, .int .i64 0] 108)).heap.size = g + 1 by simp [← hg])
 have v4 : (w.alloc (.cells #[.int .u32 0, .slice none 0 0, .slice none 0 0, .int .i64 0, .int .i64 0] 108)).cell? ⟨vp, 4, none⟩ = some (.int .i64 6) := (blk_cell HV.out 4).trans rfl
 clear hf hok hoff hkd hxx hx he hl hlt hvM h hv
 go_enter Try.func39, Try.ntmps39
 go_wp2_with fail
 clear v4
 obtain ⟨w0, hw0⟩ : ∃ w0, w.alloc (.cells #[.int .u32 0, .slice none 0 0, .slice none 0 0, .int .i64 0, .int .i64 0] 108) = w0 := ⟨_, rfl⟩
 rw [hw0] at HV HA HG HB HB0 ⊢
 rw [hg] at HG
 try rw [hg]
 clear hw0
 go_loopw [7, 19] (fun l i wr => ∃ (j : Nat) (xs : List Value) (A : Option Addr) (c : Nat), i = .int .i64 (j : Int) ∧ j ≤ 3 ∧ l = .slice A j c ∧ Hid (Arr wr ar ok (s.tick j) ∧ Mods ar.M w0 wr ∧ LR wr (g + 1) l j (x1, x2) xs ∧ (0 < j → NoTab (x1, x2)))) (fun _ i _ => 4 - (intOf i).toNat)
 case atStart => exact ⟨0, [], none, 0, rfl, by decide, rfl, Lib.hid ⟨by rw [tick_zero]; exact HA.out, Mods.refl _ _, ⟨own_nil _ _ _ _, .inl rfl⟩, fun h => absurd h (by decide)⟩⟩
 case round =>
  obtain ⟨j, xs, A, c, rfl, hj, rfl, HI⟩ := hrel
  have HVW := Lib.hid (HI.out.2.1.blk HV.out HM.out.2.2)
  have hj6 : j < 6 := by omega
  have hs0 : 0 ≤ (s.tick j).ops := by simp only [St.tick]; omega
  have hs1 : (s.tick j).ops ≤ 1000000 := by simp only [St.tick]; omega
  have hjp : (j : Int) < 6 := by omega
  go_wp2_with fail
  refine start_ (n := 18) (S := fun w' => True) (ds := []) _ (by kernel_rfl) rfl rfl trivial (fun hHeld => ?_)
  refine with_tabW TxR.tab5 TxR.bits5 (fun HT_ HW_ => ?_)
  have HVz := Lib.hid (show wr.drew.heap[vp]? = _ from HVW.out)
  have HAz := Lib.hid (HI.out.1.below (show Below wr.heap.size wr wr.drew from bl_drew (Below.refl _ _)))
  have DZ := Lib.hid (show Mods ar.M wr wr.drew from (Mods.refl _ wr).drewN 1)
  generalize wr.drew = wz at HVz HAz DZ hHeld ⊢
  have VB := Lib.hid (Below.refl wz.heap.size wz)
  refine pur_ 0 (some 23) HT_.out rfl rfl (by kernel_rfl) (fun _ _ _ h => h) (by rfl) (fun w' => by go_simp; with_reducible rfl) (by simp only [Act.put, List.setIfInBounds_toArray, List.set_cons_zero, List.set_cons_succ, i64_w, i32_w]; rfl) ?_
  refine pur_ 1 (some 24) HT_.out rfl rfl (by kernel_rfl) (fun _ _ _ h => h) (by rfl) (fun w' => by go_simp; with_reducible rfl) (by simp only [Act.put, List.setIfInBounds_toArray, List.set_cons_zero, List.set_cons_succ, i64_w, i32_w]; rfl) ?_
  refine pur_ 2 (some 25) HT_.out rfl rfl (by kernel_rfl) (fun _ _ _ h => h) (by rfl) (fun w' => by go_simp; with_reducible rfl) (by simp only [Act.put, List.setIfInBounds_toArray, List.set_cons_zero, List.set_cons_succ, i64_w, i32_w]; rfl) ?_
  refine pur_ 4 (some 27) HT_.out rfl rfl (by kernel_rfl) (fun _ _ _ h => h) (by rfl) (fun w' => by go_simp; with_reducible rfl) (by simp only [Act.put, List.setIfInBounds_toArray, List.set_cons_zero, List.set_cons_succ, i64_w, i32_w]; rfl) ?_
  refine pur_ 5 (some 28) HT_.out rfl rfl (by kernel_rfl) (fun _ _ _ h => h) (by rfl) (fun w' => by go_simp; with_reducible rfl) (by simp only [Act.put, List.setIfInBounds_toArray, List.set_cons_zero, List.set_cons_succ, i64_w, i32_w]; rfl) ?_
  refine pur_ 6 (some 29) HT_.out rfl rfl (by kernel_rfl) (fun _ _ _ h => h) (by rfl) (fun w' => by go_simp; with_reducible rfl) (by simp only [Act.put, List.setIfInBounds_toArray, List.set_cons_zero, List.set_cons_succ, i64_w, i32_w]; rfl) ?_
  refine pur_ 8 (some 31) HT_.out rfl rfl (by kernel_rfl) (fun _ _ _ h => h) (by rfl) (fun w' => by go_simp; with_reducible rfl) (by simp only [Act.put, List.setIfInBounds_toArray, List.set_cons_zero, List.set_cons_succ, i64_w, i32_w]; rfl) ?_
  refine pur_ 9 (some 32) HT_.out rfl rfl (by kernel_rfl) (fun _ _ _ h => h) (by rfl) (fun w' => by go_simp; with_reducible rfl) (by simp only [Act.put, List.setIfInBounds_toArray, List.set_cons_zero, List.set_cons_succ, i64_w, i32_w]; rfl) ?_
  refine inv_at [3, 7, 10, 11, 12, 13, 14, 15, 16, 17] (fun a0_ b a w' => ∃ (xD : Addr) (xcd : Nat) (xO : Addr) (xco : Nat) (m10_ : Value) (m11_ : Value) (m12_ : Value) (m13_ : Value) (m15_ : Value) (m16_ : Value), a = putSel a0_ b [(3, 26, .pointer (some ⟨ar.p, 0, none⟩)), (7, 30, .int .i64 0), (10, 33, m10_), (11, 22, m11_), (12, 34, m12_), (13, 35, m13_), (14, 36, .int .i64 0), (15, 9, m15_), (16, 10, m16_), (17, 11, .int .i64 0)] ∧ (b 10 = false → Below wz.heap.size wz w') ∧ (b 10 = true → Arr w' ar ok (s.tick (j + 1)) ∧ Mods ar.M wz w' ∧ 256 ≤ xcd ∧ 64 ≤ xco ∧ ReadsInt w' .u8 (some xD) 256 (pgD ((s.bl kb).pg j)).1 ∧ ReadsInt w' .u8 (some xO) 64 (pgD ((s.bl kb).pg j)).2 ∧ wz.heap.size ≤ xD.block ∧ wz.heap.size ≤ xO.block) ∧ (b 10 = true → (m10_ : Value) = .tuple #[.slice (some xD) 256 xcd, .slice (some xO) 64 xco, .int .i64 0]) ∧ (b 11 = true → (m11_ : Value) = .tuple #[.slice (some xD) 256 xcd, .slice (some xO) 64 xco, .int .i64 0]) ∧ (b 12 = true → (m12_ : Value) = .slice (some xD) 256 xcd) ∧ (b 13 = true → (m13_ : Value) = .slice (some xO) 64 xco) ∧ (b 15 = true → (m15_ : Value) = .slice (some xD) 256 xcd) ∧ (b 16 = true → (m16_ : Value) = .slice (some xO) 64 xco)) HT_.out HW_.out (by kernel_rfl) (by kernel_rfl) ?_ ?_ ?_
  ·exact ⟨⟨0, 0, none⟩, 0, ⟨0, 0, none⟩, 0, .bool false, .bool false, .bool false, .bool false, .bool false, .bool false, by simp only [putSel, Bool.false_eq_true, if_false], fun _ => VB.out, fun h_ => absurd h_ (by decide), fun h_ => absurd h_ (by decide), fun h_ => absurd h_ (by decide), fun h_ => absurd h_ (by decide), fun h_ => absurd h_ (by decide), fun h_ => absurd h_ (by decide), fun h_ => absurd h_ (by decide)⟩
  ·skip
   clear VB
   refine steps_cons ?_ ?_
   ·rintro b a w' ⟨xD, xcd, xO, xco, m10_, m11_, m12_, m13_, m15_, m16_, ha, Q_VB, Q_VQ, Q_X10_, Q_X11_, Q_X12_, Q_X13_, Q_X15_, Q_X16_⟩ hb_ hon hoff
    refine ⟨_, rfl, fun K hK => ?_⟩
    have e25 : a.tmps[25]? = some (.pointer (some ⟨vp, 0, none⟩)) := by rw [ha]; exact (putSel_off rfl).trans rfl
    replace ha := Aside0.mk ha
    have VB := Aside0.mk (Q_VB (hoff 10 (by kernel_rfl)))
    have hc0_ : w'.cell? ⟨vp, 0, none⟩ = some (.pointer (some ⟨ar.p, 0, none⟩)) := (blk_cell (blk_below HVz.out VB.out) 0).trans rfl
    refine value_ (w1 := w') (v := .pointer (some ⟨ar.p, 0, none⟩)) (by rfl) rfl ?_ ?_
    ·go_simp
     (try simp only [i64_w])
     try rfl
    refine hK.out _ _ ⟨xD, xcd, xO, xco, m10_, m11_, m12_, m13_, m15_, m16_, (ptup_ ha.out 0 hb_ rfl rfl rfl), Q_VB, off_ (hoff 10 (by kernel_rfl)), off_ (hoff 10 (by kernel_rfl)), off_ (hoff 11 (by kernel_rfl)), off_ (hoff 12 (by kernel_rfl)), off_ (hoff 13 (by kernel_rfl)), off_ (hoff 15 (by kernel_rfl)), off_ (hoff 16 (by kernel_rfl))⟩
   refine steps_cons ?_ ?_
   ·rintro b a w' ⟨xD, xcd, xO, xco, m10_, m11_, m12_, m13_, m15_, m16_, ha, Q_VB, Q_VQ, Q_X10_, Q_X11_, Q_X12_, Q_X13_, Q_X15_, Q_X16_⟩ hb_ hon hoff
    refine ⟨_, rfl, fun K hK => ?_⟩
    have e29 : a.tmps[29]? = some (.pointer (some ⟨vp, 1, none⟩)) := by rw [ha]; exact (putSel_off rfl).trans rfl
    replace ha := Aside0.mk ha
    have VB := Aside0.mk (Q_VB (hoff 10 (by kernel_rfl)))
    have hc1_ : w'.cell? ⟨vp, 1, none⟩ = some (.int .i64 0) := (blk_cell (blk_below HVz.out VB.out) 1).trans rfl
    refine value_ (w1 := w') (v := .int .i64 0) (by rfl) rfl ?_ ?_
    ·go_simp
     (try simp only [i64_w])
     try rfl
    refine hK.out _ _ ⟨xD, xcd, xO, xco, m10_, m11_, m12_, m13_, m15_, m16_, (ptup_ ha.out 1 hb_ rfl rfl rfl), Q_VB, off_ (hoff 10 (by kernel_rfl)), off_ (hoff 10 (by kernel_rfl)), off_ (hoff 11 (by kernel_rfl)), off_ (hoff 12 (by kernel_rfl)), off_ (hoff 13 (by kernel_rfl)), off_ (hoff 15 (by kernel_rfl)), off_ (hoff 16 (by kernel_rfl))⟩
   refine steps_cons ?_ ?_
   ·rintro b a w' ⟨xD, xcd, xO, xco, m10_, m11_, m12_, m13_, m15_, m16_, ha, Q_VB, Q_VQ, Q_X10_, Q_X11_, Q_X12_, Q_X13_, Q_X15_, Q_X16_⟩ hb_ hon hoff
    refine ⟨_, rfl, fun K hK => ?_⟩
    have e26 : a.tmps[26]? = some (.pointer (some ⟨ar.p, 0, none⟩)) := pton_ ha 0 rfl rfl (hon 3 (by kernel_rfl)) rfl
    have e30 : a.tmps[30]? = some (.int .i64 0) := pton_ ha 1 rfl rfl (hon 7 (by kernel_rfl)) rfl
    have e31 : a.tmps[31]? = some (.int .i64 (kb : Int)) := by rw [ha]; exact (putSel_off rfl).trans rfl
    have e32 : a.tmps[32]? = some (.int .i64 (j : Int)) := by rw [ha]; exact (putSel_off rfl).trans rfl
    replace ha := Aside0.mk ha
    have VB := Aside0.mk (Q_VB hb_)
    refine goes_ Try.func46 (by kernel_rfl) rfl #[.pointer (some ⟨ar.p, 0, none⟩), .int .i64 0, .int .i64 (kb : Int), .int .i64 (j : Int)] (by rfl) rfl rfl (by first | (simp only [List.map_toArray, List.map_cons, List.map_nil, Act.eval, Array.getD_eq_getD_getElem?, Option.getD_some, e26, e30, e31, e32]; done) | (simp only [List.map_toArray, List.map_cons, List.map_nil, Act.eval, Array.getD_eq_getD_getElem?, Option.getD_some, e26, e30, e31, e32]; rfl)) ?_
    refine (nread_on ar ok (s.tick j) kb j w' HF.out.1 HF.out.2.1 (HAz.out.below VB.out) hkb hj6 hs0 hs1 HF.out.2.2.1 (HF.out.2.2.2 j hj)).mono ?_
    rintro e w1 ⟨D_, cd_, O_, co_, rfl, q1, q2, q3, q4, q5, q6, q7, q8⟩
    refine ⟨_, rfl, ?_⟩
    refine hK.out _ _ ⟨D_, cd_, O_, co_, (.tuple #[.slice (some D_) 256 cd_, .slice (some O_) 64 co_, .int .i64 0]), m11_, m12_, m13_, m15_, m16_, (ptup_ ha.out 2 hb_ rfl rfl rfl), fun h0_ => absurd ((up_self b 10).symm.trans h0_) (by decide), fun _ => ⟨by rw [tick_succ]; exact q1, (Mods.of_below VB.out).trans q2, q3, q4, q5, q6, Nat.le_trans VB.out.size q7, Nat.le_trans VB.out.size q8⟩, fun _ => rfl, off_ (hoff 11 (by kernel_rfl)), off_ (hoff 12 (by kernel_rfl)), off_ (hoff 13 (by kernel_rfl)), off_ (hoff 15 (by kernel_rfl)), off_ (hoff 16 (by kernel_rfl))⟩
   refine steps_cons ?_ ?_
   ·rintro b a w' ⟨xD, xcd, xO, xco, m10_, m11_, m12_, m13_, m15_, m16_, ha, Q_VB, Q_VQ, Q_X10_, Q_X11_, Q_X12_, Q_X13_, Q_X15_, Q_X16_⟩ hb_ hon hoff
    refine ⟨_, rfl, fun K hK => ?_⟩
    have e33 : a.tmps[33]? = some (m10_) := pton_ ha 2 rfl rfl (hon 10 (by kernel_rfl)) rfl
    rw [Q_X10_ (hon 10 (by kernel_rfl))] at e33
    replace ha := Aside0.mk ha
    have VQ := Aside0.mk (Q_VQ (hon 10 (by kernel_rfl)))
    refine value_ (w1 := w') (v := .tuple #[.slice (some xD) 256 xcd, .slice (some xO) 64 xco, .int .i64 0]) (by rfl) rfl ?_ ?_
    ·go_simp
     (try simp only [i64_w])
     try rfl
    refine hK.out _ _ ⟨xD, xcd, xO, xco, m10_, (.tuple #[.slice (some xD) 256 xcd, .slice (some xO) 64 xco, .int .i64 0]), m12_, m13_, m15_, m16_, (ptup_ ha.out 3 hb_ rfl rfl rfl), fun h0_ => absurd ((hon 10 (by kernel_rfl)).symm.trans h0_) (by decide), Q_VQ, Q_X10_, fun _ => rfl, off_ (hoff 12 (by kernel_rfl)), off_ (hoff 13 (by kernel_rfl)), off_ (hoff 15 (by kernel_rfl)), off_ (hoff 16 (by kernel_rfl))⟩
   refine steps_cons ?_ ?_
   ·rintro b a w' ⟨xD, xcd, xO, xco, m10_, m11_, m12_, m13_, m15_, m16_, ha, Q_VB, Q_VQ, Q_X10_, Q_X11_, Q_X12_, Q_X13_, Q_X15_, Q_X16_⟩ hb_ hon hoff
    refine ⟨_, rfl, fun K hK => ?_⟩
    have e22 : a.tmps[22]? = some (m11_) := pton_ ha 3 rfl rfl (hon 11 (by kernel_rfl)) rfl
    rw [Q_X11_ (hon 11 (by kernel_rfl))] at e22
    replace ha := Aside0.mk ha
    have VQ := Aside0.mk (Q_VQ (hon 10 (by kernel_rfl)))
    refine value_ (w1 := w') (v := .slice (some xD) 256 xcd) (by rfl) rfl ?_ ?_
    ·go_simp
     (try simp only [i64_w])
     try rfl
    refine hK.out _ _ ⟨xD, xcd, xO, xco, m10_, m11_, (.slice (some xD) 256 xcd), m13_, m15_, m16_, (ptup_ ha.out 4 hb_ rfl rfl rfl), fun h0_ => absurd ((hon 10 (by kernel_rfl)).symm.trans h0_) (by decide), Q_VQ, Q_X10_, Q_X11_, fun _ => rfl, Q_X13_, off_ (hoff 15 (by kernel_rfl)), off_ (hoff 16 (by kernel_rfl))⟩
   refine steps_cons ?_ ?_
   ·rintro b a w' ⟨xD, xcd, xO, xco, m10_, m11_, m12_, m13_, m15_, m16_, ha, Q_VB, Q_VQ, Q_X10_, Q_X11_, Q_X12_, Q_X13_, Q_X15_, Q_X16_⟩ hb_ hon hoff
    refine ⟨_, rfl, fun K hK => ?_⟩
    have e22 : a.tmps[22]? = some (m11_) := pton_ ha 3 rfl rfl (hon 11 (by kernel_rfl)) rfl
    rw [Q_X11_ (hon 11 (by kernel_rfl))] at e22
    replace ha := Aside0.mk ha
    have VQ := Aside0.mk (Q_VQ (hon 10 (by kernel_rfl)))
    refine value_ (w1 := w') (v := .slice (some xO) 64 xco) (by rfl) rfl ?_ ?_
    ·go_simp
     (try simp only [i64_w])
     try rfl
    refine hK.out _ _ ⟨xD, xcd, xO, xco, m10_, m11_, m12_, (.slice (some xO) 64 xco), m15_, m16_, (ptup_ ha.out 5 hb_ rfl rfl rfl), fun h0_ => absurd ((hon 10 (by kernel_rfl)).symm.trans h0_) (by decide), Q_VQ, Q_X10_, Q_X11_, Q_X12_, fun _ => rfl, Q_X15_, off_ (hoff 16 (by kernel_rfl))⟩
   refine steps_cons ?_ ?_
   ·rintro b a w' ⟨xD, xcd, xO, xco, m10_, m11_, m12_, m13_, m15_, m16_, ha, Q_VB, Q_VQ, Q_X10_, Q_X11_, Q_X12_, Q_X13_, Q_X15_, Q_X16_⟩ hb_ hon hoff
    refine ⟨_, rfl, fun K hK => ?_⟩
    have e22 : a.tmps[22]? = some (m11_) := pton_ ha 3 rfl rfl (hon 11 (by kernel_rfl)) rfl
    rw [Q_X11_ (hon 11 (by kernel_rfl))] at e22
    replace ha := Aside0.mk ha
    have VQ := Aside0.mk (Q_VQ (hon 10 (by kernel_rfl)))
    refine value_ (w1 := w') (v := .int .i64 0) (by rfl) rfl ?_ ?_
    ·go_simp
     (try simp only [i64_w])
     try rfl
    refine hK.out _ _ ⟨xD, xcd, xO, xco, m10_, m11_, m12_, m13_, m15_, m16_, (ptup_ ha.out 6 hb_ rfl rfl rfl), fun h0_ => absurd ((hon 10 (by kernel_rfl)).symm.trans h0_) (by decide), Q_VQ, Q_X10_, Q_X11_, Q_X12_, Q_X13_, Q_X15_, Q_X16_⟩
   refine steps_cons ?_ ?_
   ·rintro b a w' ⟨xD, xcd, xO, xco, m10_, m11_, m12_, m13_, m15_, m16_, ha, Q_VB, Q_VQ, Q_X10_, Q_X11_, Q_X12_, Q_X13_, Q_X15_, Q_X16_⟩ hb_ hon hoff
    refine ⟨_, rfl, fun K hK => ?_⟩
    have e34 : a.tmps[34]? = some (m12_) := pton_ ha 4 rfl rfl (hon 12 (by kernel_rfl)) rfl
    rw [Q_X12_ (hon 12 (by kernel_rfl))] at e34
    replace ha := Aside0.mk ha
    have VQ := Aside0.mk (Q_VQ (hon 10 (by kernel_rfl)))
    refine value_ (w1 := w') (v := .slice (some xD) 256 xcd) (by rfl) rfl ?_ ?_
    ·go_simp
     (try simp only [i64_w])
     try rfl
    refine hK.out _ _ ⟨xD, xcd, xO, xco, m10_, m11_, m12_, m13_, (.slice (some xD) 256 xcd), m16_, (ptup_ ha.out 7 hb_ rfl rfl rfl), fun h0_ => absurd ((hon 10 (by kernel_rfl)).symm.trans h0_) (by decide), Q_VQ, Q_X10_, Q_X11_, Q_X12_, Q_X13_, fun _ => rfl, off_ (hoff 16 (by kernel_rfl))⟩
   refine steps_cons ?_ ?_
   ·rintro b a w' ⟨xD, xcd, xO, xco, m10_, m11_, m12_, m13_, m15_, m16_, ha, Q_VB, Q_VQ, Q_X10_, Q_X11_, Q_X12_, Q_X13_, Q_X15_, Q_X16_⟩ hb_ hon hoff
    refine ⟨_, rfl, fun K hK => ?_⟩
    have e35 : a.tmps[35]? = some (m13_) := pton_ ha 5 rfl rfl (hon 13 (by kernel_rfl)) rfl
    rw [Q_X13_ (hon 13 (by kernel_rfl))] at e35
    replace ha := Aside0.mk ha
    have VQ := Aside0.mk (Q_VQ (hon 10 (by kernel_rfl)))
    refine value_ (w1 := w') (v := .slice (some xO) 64 xco) (by rfl) rfl ?_ ?_
    ·go_simp
     (try simp only [i64_w])
     try rfl
    refine hK.out _ _ ⟨xD, xcd, xO, xco, m10_, m11_, m12_, m13_, m15_, (.slice (some xO) 64 xco), (ptup_ ha.out 8 hb_ rfl rfl rfl), fun h0_ => absurd ((hon 10 (by kernel_rfl)).symm.trans h0_) (by decide), Q_VQ, Q_X10_, Q_X11_, Q_X12_, Q_X13_, Q_X15_, fun _ => rfl⟩
   refine steps_cons ?_ ?_
   ·rintro b a w' ⟨xD, xcd, xO, xco, m10_, m11_, m12_, m13_, m15_, m16_, ha, Q_VB, Q_VQ, Q_X10_, Q_X11_, Q_X12_, Q_X13_, Q_X15_, Q_X16_⟩ hb_ hon hoff
    refine ⟨_, rfl, fun K hK => ?_⟩
    have e36 : a.tmps[36]? = some (.int .i64 0) := pton_ ha 6 rfl rfl (hon 14 (by kernel_rfl)) rfl
    replace ha := Aside0.mk ha
    have VQ := Aside0.mk (Q_VQ (hon 10 (by kernel_rfl)))
    refine value_ (w1 := w') (v := .int .i64 0) (by rfl) rfl ?_ ?_
    ·go_simp
     (try simp only [i64_w])
     try rfl
    refine hK.out _ _ ⟨xD, xcd, xO, xco, m10_, m11_, m12_, m13_, m15_, m16_, (ptup_ ha.out 9 hb_ rfl rfl rfl), fun h0_ => absurd ((hon 10 (by kernel_rfl)).symm.trans h0_) (by decide), Q_VQ, Q_X10_, Q_X11_, Q_X12_, Q_X13_, Q_X15_, Q_X16_⟩
   exact steps_nil
  ·rintro b a w' hall ⟨xD, xcd, xO, xco, m10_, m11_, m12_, m13_, m15_, m16_, ha, Q_VB, Q_VQ, Q_X10_, Q_X11_, Q_X12_, Q_X13_, Q_X15_, Q_X16_⟩
   clear VB
   have hb3_ := hall 3 (by kernel_rfl)
   have hb7_ := hall 7 (by kernel_rfl)
   have hb10_ := hall 10 (by kernel_rfl)
   have hb11_ := hall 11 (by kernel_rfl)
   have hb12_ := hall 12 (by kernel_rfl)
   have hb13_ := hall 13 (by kernel_rfl)
   have hb14_ := hall 14 (by kernel_rfl)
   have hb15_ := hall 15 (by kernel_rfl)
   have hb16_ := hall 16 (by kernel_rfl)
   have hb17_ := hall 17 (by kernel_rfl)
   subst ha
   obtain rfl := Q_X10_ hb10_
   obtain rfl := Q_X11_ hb11_
   obtain rfl := Q_X12_ hb12_
   obtain rfl := Q_X13_ hb13_
   obtain rfl := Q_X15_ hb15_
   obtain rfl := Q_X16_ hb16_
   simp only [putSel, hb3_, hb7_, hb10_, hb11_, hb12_, hb13_, hb14_, hb15_, hb16_, hb17_, if_true, Act.put, List.setIfInBounds_toArray, List.set_cons_zero, List.set_cons_succ]
   clear Q_VB
   have VQ := Aside0.mk (Q_VQ hb10_)
   clear Q_VQ
   clear hall hb3_ hb7_ hb10_ hb11_ hb12_ hb13_ hb14_ hb15_ hb16_ hb17_
   have HQ := Lib.hid (show Arr w' ar ok (s.tick (j + 1)) ∧ Mods ar.M w0 w' from ⟨VQ.out.1, HI.out.2.1.trans (DZ.out.trans VQ.out.2.1)⟩)
   have HL := Lib.hid (HI.out.2.2.1.mods (DZ.out.trans VQ.out.2.1) (fun k hk hm => by have h_ := HM.out.1 k hm; omega))
   have HD := Lib.hid (show 256 ≤ xcd ∧ 64 ≤ xco ∧ ReadsInt w' .u8 (some xD) 256 (pgD ((s.bl kb).pg j)).1 ∧ ReadsInt w' .u8 (some xO) 64 (pgD ((s.bl kb).pg j)).2 ∧ (Value.slice A j c).ownBlock ≠ some xD.block ∧ (Value.slice A j c).ownBlock ≠ some xO.block ∧ g + 1 ≤ xD.block ∧ g + 1 ≤ xO.block ∧ (j = 0 → pgD ((s.bl kb).pg j) = (x1, x2)) from by
    have h1 := VQ.out.2.2
    have h2 := HI.out.2.2.1.lt
    have h3 := DZ.out.size
    have h4 := HI.out.2.1.size
    have h5 := HB0.out
    refine ⟨h1.1, h1.2.1, h1.2.2.1, h1.2.2.2.1, fun e => ?_, fun e => ?_, by omega, by omega, fun e => by rw [e]; exact HX.out.1⟩
    ·have := h2 _ e; omega
    ·have := h2 _ e; omega)
   have HV2 := Lib.hid (HQ.out.2.blk HV.out HM.out.2.2)
   have HG2 := Lib.hid (HQ.out.2.blk HG.out (fun hm => by have h_ := HM.out.1 _ hm; omega))
   have HSZ := Lib.hid (show g + 1 ≤ w'.heap.size from by have h_ := HQ.out.2.size; have h5 := HB0.out; omega)
   have HNT := Lib.hid HI.out.2.2.2
   clear VQ DZ HVz HAz HVW HI
   generalize w' = w2 at HQ HL HD HV2 HG2 HSZ ⊢
   go_wp2_with (at_builtin; refine print_append_cells (w0 := w2) (g + 1) rfl (.tmp 41) (.tmp 45) 129 131 (.agg #[.slice none 0 0, .slice none 0 0]) 2 48 rfl Try.underlying129 infoPage rfl (by decide) (by decide) (.slice A j c) j xs [.slice (some xD) 256 xcd, .slice (some xO) 64 xco] rfl rfl rfl (by simp [Value.oneCell']) HL.out.1 (Below.refl _ _) HSZ.out (by omega) ?_; intro v2 w3 ho3 hb3 hg3 hat3; have H3 := Lib.hid (And.intro (HL.out.app ho3 hg3 hat3 HD.out.1 HD.out.2.1 HD.out.2.2.1 HD.out.2.2.2.1 HD.out.2.2.2.2.1 HD.out.2.2.2.2.2.1 HD.out.2.2.2.2.2.2.1 HD.out.2.2.2.2.2.2.2.1 HD.out.2.2.2.2.2.2.2.2) hg3); have hV3 := grown_blk hg3 HV2.out (fun e => by have h_ := own_ge HL.out.1 _ e.symm; have h2_ := HVO.out; omega); have hG3 := grown_blk hg3 HG2.out (fun e => by have h_ := own_ge HL.out.1 _ e.symm; omega); obtain ⟨G, cG, D, cd, O, co, rfl, z0, z1, z2, z3, z4, z5⟩ := H3.out.1.shape; have HZ := Lib.hid (And.intro z0 (And.intro z1 (And.intro z2 (And.intro z3 (And.intro z4 z5))))); have y2 : w3.cell? ⟨vp, 2, none⟩ = some (.int .i64 3) := (blk_cell hV3 2).trans rfl; have y3 : w3.cell? ⟨vp, 3, none⟩ = some (.int .i64 16) := (blk_cell hV3 3).trans rfl; have y4 : w3.cell? ⟨vp, 4, none⟩ = some (.int .i64 6) := (blk_cell hV3 4).trans rfl; have y5 : w3.cell? ⟨vp, 5, none⟩ = some (.int .i64 256) := (blk_cell hV3 5).trans rfl; have HV3 := Lib.hid (And.intro hV3 hG3); clear ho3 hb3 hg3 hat3 z0 z1 z2 z3 z4 z5 hV3 hG3)
   have HS3 := Lib.hid (show w2.heap.size ≤ w3.heap.size from H3.out.2.size)
   have HM3 := Lib.hid (show Mods ar.M w0 w3 from HQ.out.2.grown_ H3.out.2 (fun k e => .inr (by have h_ := own_ge HL.out.1 k e; have h2_ := HB0.out; omega)))
   have HA3 := Lib.hid (show Arr w3 ar ok (s.tick (j + 1)) from HQ.out.1.mods ((Mods.refl (fun k => g ≤ k) w2).grown_ H3.out.2 (fun k e => .inl (by have h_ := own_ge HL.out.1 k e; omega))) (fun k hk => HM.out.2.1 k (by omega)))
   have HL3 := Lib.hid H3.out.1
   have hjb : j + 1 ≤ 100 := by omega
   have HSZ3 := Lib.hid (show g + 1 ≤ w3.heap.size from Nat.le_trans HSZ.out HS3.out)
   clear y2 y3 y4 y5 H3 HL HD HV2 HG2 HQ HS3
   refine (join_any G (j + 1) cG D O cd co x1 x2 w3 HZ.out.1 HZ.out.2.1 HZ.out.2.2.2.2.1 HZ.out.2.2.2.2.2 (by have h_ := HBY.out.1; rw [HX.out.1] at h_; exact h_) (by have h_ := HBY.out.2; rw [HX.out.1] at h_; exact h_) HZ.out.2.2.1 HZ.out.2.2.2.1 (Nat.succ_pos j) hjb HX.out.2).mono ?_
   rintro e w4 ⟨hb4, hc4⟩
   have HB4 := Lib.hid hb4
   have hG4 : ∀ o, (w4.alloc o).heap[g]? = some (.cells #[.int .u32 0, .slice none 0 0, .slice none 0 0, .int .i64 0, .int .i64 0] 108 (0, 0)) := fun o => blk_below HV3.out.2 (bl_alloc hb4 o)
   have z0 : ∀ o, (w4.alloc o).cell? ⟨g, 0, none⟩ = some (.int .u32 0) := fun o => (blk_cell (hG4 o) 0).trans rfl
   have z1 : ∀ o, (w4.alloc o).cell? ⟨g, 1, none⟩ = some (.slice none 0 0) := fun o => (blk_cell (hG4 o) 1).trans rfl
   have z2 : ∀ o, (w4.alloc o).cell? ⟨g, 2, none⟩ = some (.slice none 0 0) := fun o => (blk_cell (hG4 o) 2).trans rfl
   have z3 : ∀ o, (w4.alloc o).cell? ⟨g, 3, none⟩ = some (.int .i64 0) := fun o => (blk_cell (hG4 o) 3).trans rfl
   have z4 : ∀ o, (w4.alloc o).cell? ⟨g, 4, none⟩ = some (.int .i64 0) := fun o => (blk_cell (hG4 o) 4).trans rfl
   have zf := fun o k => blk_frozen (hG4 o) k
   have HG4 := Lib.hid hG4
   clear hb4 hG4
   rcases hc4 with ⟨T, C, hT, rfl, hR⟩ | ⟨hno, rfl⟩
   ·obtain ⟨P3, p3, S3, q3, rfl⟩ := hR.shape
    have HR := Lib.hid hR
    have HT := Lib.hid hT
    clear hR hT
    simp only [tbC]
    go_wp2_with fail
    clear z0 z1 z2 z3 z4 zf
    have hb7 : Below w4.heap.size w4 (w4.alloc (.cells #[.int .u32 T.seq, .slice (some P3) 11 p3, .slice S3 T.spare.length q3, .int .i64 T.t0, .int .i64 T.t1] 108)) := bl_alloc (Below.refl _ _) _
    have ht7 := HR.out.below hb7
    have hg7 := HG4.out (.cells #[.int .u32 T.seq, .slice (some P3) 11 p3, .slice S3 T.spare.length q3, .int .i64 T.t0, .int .i64 T.t1] 108)
    have hA7 := (HA3.out.below HB4.out).below hb7
    have hM7 : Mods ar.M w (w4.alloc (.cells #[.int .u32 T.seq, .slice (some P3) 11 p3, .slice S3 T.spare.length q3, .int .i64 T.t0, .int .i64 T.t1] 108)) := (((Mods.of_below HB.out : Mods ar.M w w0).trans HM3.out).trans (Mods.of_below HB4.out)).alloc _
    obtain ⟨w7, hw7⟩ : ∃ w7, w4.alloc (.cells #[.int .u32 T.seq, .slice (some P3) 11 p3, .slice S3 T.spare.length q3, .int .i64 T.t0, .int .i64 T.t1] 108) = w7 := ⟨_, rfl⟩
    rw [hw7] at hg7 hA7 hM7 ht7 ⊢
    have hz9 := put5 hg7 (.int .u32 T.seq) (.slice (some P3) 11 p3) (.slice S3 T.spare.length q3) (.int .i64 T.t0) (.int .i64 T.t1)
    have hm9 := set5_mods (Mods.refl (fun k => k = g) w7) (.inl rfl) (.int .u32 T.seq) (.slice (some P3) 11 p3) (.slice S3 T.spare.length q3) (.int .i64 T.t0) (.int .i64 T.t1)
    have hM9 := set5_mods hM7 (g := g) (.inr (by omega)) (.int .u32 T.seq) (.slice (some P3) 11 p3) (.slice S3 T.spare.length q3) (.int .i64 T.t0) (.int .i64 T.t1)
    have hA9 := hA7.mods hm9 (fun k hk => HM.out.2.1 k (by omega))
    have ht9 := ht7.mods hm9 (fun k hk => by have h_ := HSZ3.out; omega)
    obtain ⟨w9, hw9⟩ : ∃ w9, ((((w7.setCell ⟨g, 0, none⟩ (.int .u32 T.seq)).setCell ⟨g, 1, none⟩ (.slice (some P3) 11 p3)).setCell ⟨g, 2, none⟩ (.slice S3 T.spare.length q3)).setCell ⟨g, 3, none⟩ (.int .i64 T.t0)).setCell ⟨g, 4, none⟩ (.int .i64 T.t1) = w9 := ⟨_, rfl⟩
    rw [hw9] at hz9 hM9 hA9 ht9 ⊢
    have c0 : w9.cell? ⟨g, 0, none⟩ = some (.int .u32 T.seq) := (blk_cell hz9 0).trans rfl
    have c1 : w9.cell? ⟨g, 1, none⟩ = some (.slice (some P3) 11 p3) := (blk_cell hz9 1).trans rfl
    have c2 : w9.cell? ⟨g, 2, none⟩ = some (.slice S3 T.spare.length q3) := (blk_cell hz9 2).trans rfl
    have c3 : w9.cell? ⟨g, 3, none⟩ = some (.int .i64 T.t0) := (blk_cell hz9 3).trans rfl
    have c4 : w9.cell? ⟨g, 4, none⟩ = some (.int .i64 T.t1) := (blk_cell hz9 4).trans rfl
    clear hw9 hz9 hw7
    refine bodyPost_ret (v := .tuple #[.agg #[.int .u32 T.seq, .slice (some P3) 11 p3, .slice S3 T.spare.length q3, .int .i64 T.t0, .int .i64 T.t1], .bool true, .int .i64 0]) (by simp [results, Try.results39, go_sem, c0, c1, c2, c3, c4]) rfl ⟨j + 1, by omega, hA9, hM9, .inl ⟨T, _, HT.out, rfl, ht9.mono (fun k hk => by have h_ := HSZ3.out; omega)⟩⟩
   ·simp only [tb0]
    by_cases hj3 : j = 3
    ·subst hj3
     go_wp2_with fail
     have hb7 : Below w4.heap.size w4 (w4.alloc (.cells #[.int .u32 0, .slice none 0 0, .slice none 0 0, .int .i64 0, .int .i64 0] 108)) := bl_alloc (Below.refl _ _) _
     have hg7 := HG4.out (.cells #[.int .u32 0, .slice none 0 0, .slice none 0 0, .int .i64 0, .int .i64 0] 108)
     have hA7 := (HA3.out.below HB4.out).below hb7
     have hM7 : Mods ar.M w (w4.alloc (.cells #[.int .u32 0, .slice none 0 0, .slice none 0 0, .int .i64 0, .int .i64 0] 108)) := (((Mods.of_below HB.out : Mods ar.M w w0).trans HM3.out).trans (Mods.of_below HB4.out)).alloc _
     obtain ⟨w7, hw7⟩ : ∃ w7, w4.alloc (.cells #[.int .u32 0, .slice none 0 0, .slice none 0 0, .int .i64 0, .int .i64 0] 108) = w7 := ⟨_, rfl⟩
     rw [hw7] at hg7 hA7 hM7 ⊢
     have hz9 := put5 hg7 (.int .u32 0) (.slice none 0 0) (.slice none 0 0) (.int .i64 0) (.int .i64 0)
     have hm9 := set5_mods (Mods.refl (fun k => k = g) w7) (.inl rfl) (.int .u32 0) (.slice none 0 0) (.slice none 0 0) (.int .i64 0) (.int .i64 0)
     have hM9 := set5_mods hM7 (g := g) (.inr (by omega)) (.int .u32 0) (.slice none 0 0) (.slice none 0 0) (.int .i64 0) (.int .i64 0)
     have hA9 := hA7.mods hm9 (fun k hk => HM.out.2.1 k (by omega))
     obtain ⟨w9, hw9⟩ : ∃ w9, ((((w7.setCell ⟨g, 0, none⟩ (.int .u32 0)).setCell ⟨g, 1, none⟩ (.slice none 0 0)).setCell ⟨g, 2, none⟩ (.slice none 0 0)).setCell ⟨g, 3, none⟩ (.int .i64 0)).setCell ⟨g, 4, none⟩ (.int .i64 0) = w9 := ⟨_, rfl⟩
     rw [hw9] at hz9 hM9 hA9 ⊢
     have c0 : w9.cell? ⟨g, 0, none⟩ = some (.int .u32 0) := (blk_cell hz9 0).trans rfl
     have c1 : w9.cell? ⟨g, 1, none⟩ = some (.slice none 0 0) := (blk_cell hz9 1).trans rfl
     have c2 : w9.cell? ⟨g, 2, none⟩ = some (.slice none 0 0) := (blk_cell hz9 2).trans rfl
     have c3 : w9.cell? ⟨g, 3, none⟩ = some (.int .i64 0) := (blk_cell hz9 3).trans rfl
     have c4 : w9.cell? ⟨g, 4, none⟩ = some (.int .i64 0) := (blk_cell hz9 4).trans rfl
     clear hw9 hz9 hw7
     refine bodyPost_ret (v := .tuple #[.agg #[.int .u32 0, .slice none 0 0, .slice none 0 0, .int .i64 0, .int .i64 0], .bool false, .int .i64 0]) (by simp [results, Try.results39, go_sem, c0, c1, c2, c3, c4]) rfl ⟨4, by omega, hA9, hM9, .inr ⟨hno, rfl⟩⟩
    ·have hjn : ¬ ((2 : Int) < (j : Int)) := by omega
     clear z0 z1 z2 z3 z4 zf
     go_wp2_with fail
     go_roundw
     case rel => exact ⟨j + 1, _, _, _, by go_num, by omega, rfl, Lib.hid ⟨(HA3.out.below HB4.out).below (bl_alloc (Below.refl _ _) _), (HM3.out.trans (Mods.of_below HB4.out)).alloc _, HL3.out.mods (S := fun _ => False) ((Mods.of_below HB4.out).alloc _) (fun _ _ h => h), fun _ => hno⟩⟩
     case measure => simp [intOf]; omega
end Go.Proofs.Ytffalemndjampaa
end
section
set_option linter.unusedVariables false
set_option linter.unusedSimpArgs false
namespace Go.Proofs.Ytffalemndjampaa
open Go.RowKit Go.Proofs.YtffalemndjampaaW.PrintWords Go.Proofs.YtffalemndjampaaW.PrintLast
theorem find_any (ar : Ar) (ok : Nat → Prop) (s : St) (vp kb : Nat) (c6 c7 c8 c9 c10 : Value) (w : World) (hf : ar.Fix) (hok : ∀ k, ok k → ¬ ar.M k) (hlt : ∀ k, ok k → k < w.heap.size) (he : ∀ x, ar.EA = some x → x.block < w.heap.size) (hl : ∀ x, ar.LA = some x → 0 < ar.ln → x.block < w.heap.size) (h : Arr w ar ok s) (hv : w.heap[vp]? = some (.cells #[.pointer (some ⟨ar.p, 0, none⟩), .int .i64 0, .int .i64 3, .int .i64 16, .int .i64 6, .int .i64 256, c6, c7, c8, c9, c10] 110 (0, 0))) (hvM : ¬ ar.M vp) (hkb : kb < 16) (h0 : 0 ≤ s.ops) (h1 : s.ops + 4 ≤ 1000000) (hoff : s.off = false) (hkd : ∀ j, j ≤ 3 → (s.tick j).kind ar ≠ 2) (hx : (∃ T, IsTab (pgD ((s.bl kb).pg 0)) T) ∨ NoTab (pgD ((s.bl kb).pg 0))) :
  Calls Try.prog 39 #[.pointer (some ⟨vp, 0, none⟩), .int .i64 (kb : Int)] w (FindQ w ar ok s (pgD ((s.bl kb).pg 0))) := by
 obtain ⟨⟨x1, x2⟩, hxx⟩ : ∃ x, pgD ((s.bl kb).pg 0) = x := ⟨_, rfl⟩
 rw [hxx] at hx ⊢
 exact find_aux ar ok s vp kb c6 c7 c8 c9 c10 x1 x2 w hf hok hlt he hl h hv hvM hkb h0 h1 hoff hkd hxx hx
theorem IsTab.seq {x : List Int × List Int} {T T' : Tb} (h : IsTab x T) (h' : IsTab x T') : T.seq = T'.seq := by
 have h1 := (tab_open h.2.1).2
 have h2 := (tab_open h'.2.1).2
 have e1 : tbD T = tbD T' := congrArg Prod.fst (h.1.symm.trans h'.1)
 have e2 : tbO T = tbO T' := congrArg Prod.snd (h.1.symm.trans h'.1)
 rw [e1, e2] at h1
 have h3 := h1.symm.trans h2
 simp only [tbH, Hd.mk.injEq] at h3
 exact h3.2.1
theorem IsTab.no {x : List Int × List Int} {T : Tb} (h : IsTab x T) : ¬ NoTab x := by
 intro hn
 have h1 := tab_open h.2.1
 refine hn ?_
 rw [h.1]
 refine ⟨h1.1, ?_⟩
 have h2 := h1.2
 rw [openR_yes h1.1] at h2
 rw [h2]; rfl
def MaxTab (s : St) (n : Nat) (T : Tb) : Prop := (∃ k, k < n ∧ IsTab (pgD ((s.bl k).pg 0)) T) ∧ ∀ k T', k < n → IsTab (pgD ((s.bl k).pg 0)) T' → T'.seq ≤ T.seq
theorem MaxTab.keep {s : St} {n : Nat} {T : Tb} (h : MaxTab s n T) (hn : ∀ T', IsTab (pgD ((s.bl n).pg 0)) T' → T'.seq ≤ T.seq) : MaxTab s (n + 1) T := by
 obtain ⟨⟨k, hk, h1⟩, h2⟩ := h
 refine ⟨⟨k, by omega, h1⟩, fun k' T' hk' hT' => ?_⟩
 by_cases e : k' = n
 ·subst e; exact hn T' hT'
 ·exact h2 k' T' (by omega) hT'
theorem MaxTab.new {s : St} {n : Nat} {T : Tb} (h : IsTab (pgD ((s.bl n).pg 0)) T) (hn : ∀ k T', k < n → IsTab (pgD ((s.bl k).pg 0)) T' → T'.seq ≤ T.seq) : MaxTab s (n + 1) T := by
 refine ⟨⟨n, by omega, h⟩, fun k' T' hk' hT' => ?_⟩
 by_cases e : k' = n
 ·subst e; exact Int.le_of_eq (hT'.seq h)
 ·exact hn k' T' (by omega) hT'
def OpnS (w : World) (N : Nat → Prop) (p vp : Nat) (s : St) (j : Nat) (fb : Bool) (q : Int) (c7 c8 c9 c10 : Value) : Prop :=
 w.heap[vp]? = some (.cells #[.pointer (some ⟨p, 0, none⟩), .int .i64 0, .int .i64 3, .int .i64 16, .int .i64 6, .int .i64 256, .int .u32 q, c7, c8, c9, c10] 110 (0, 0)) ∧ (fb = false → ∀ k, k < j → NoTab (pgD ((s.bl k).pg 0))) ∧ (fb = true → ∃ T, T.seq = q ∧ TbR w N #[.int .u32 q, c7, c8, c9, c10] T ∧ MaxTab s j T)
def OpenQ (w : World) (ar : Ar) (ok : Nat → Prop) (s : St) (e : Ending) (w' : World) : Prop :=
 ∃ vp T m, e = .returned (.tuple #[.pointer (some ⟨vp, 0, none⟩), .int .i64 0]) ∧ m ≤ 64 ∧ Arr w' ar ok (s.tick m) ∧ Mods ar.M w w' ∧ w.heap.size ≤ vp ∧ vp < w'.heap.size ∧ VolR w' vp ar.p (fun k => w.heap.size ≤ k ∧ k ≠ vp) T ∧ MaxTab s 16 T
theorem tick_tick (s : St) (a b : Nat) : (s.tick a).tick b = s.tick (a + b) := by simp only [St.tick, St.mk.injEq, true_and, and_true]; omega
def TyR.T11 : Bool × List (List Nat × List Nat) := (true, [([], []), ([0], [0]), ([1], [1]), ([2, 1], [1, 2]), ([3, 1, 1], [1, 3]), ([4], [4]), ([5, 4], [4, 5]), ([4], [4]), ([7, 4], [4, 7]), ([8, 4], [4, 8]), ([9, 4], [4, 9]), ([10, 4], [4, 10]), ([6, 11, 4], [4, 6, 11]), ([4, 12, 1], [1, 4, 12]), ([1, 13], [1, 13])])
def TyR.B11 : List Nat := [0, 1, 3, 7, 15, 31, 63, 31, 159, 415, 927, 1951, 4095, 8191, 16383]
theorem TyR.tab11 : rtab .any (opsOf Try.f21 11) = TyR.T11 := by kernel_rfl
theorem TyR.bits11 : waitsOk TyR.T11.2 TyR.B11 = true := by kernel_rfl
set_option maxHeartbeats 16000000 in
set_option maxRecDepth 100000 in
theorem open_aux (ar : Ar) (ok : Nat → Prop) (s : St) (w : World) (hf : ar.Fix) (hok : ∀ k, ok k → ¬ ar.M k) (hlt : ∀ k, ok k → k < w.heap.size) (he : ∀ x, ar.EA = some x → x.block < w.heap.size) (hl : ∀ x, ar.LA = some x → 0 < ar.ln → x.block < w.heap.size) (h : Arr w ar ok s) (h0 : 0 ≤ s.ops) (h1 : s.ops + 64 ≤ 1000000) (hoff : s.off = false) (hkd : ∀ j, j < 64 → (s.tick j).kind ar ≠ 2) (hx : ∀ k, k < 16 → (∃ T, IsTab (pgD ((s.bl k).pg 0)) T) ∨ NoTab (pgD ((s.bl k).pg 0))) (hex : ∃ k T, k < 16 ∧ IsTab (pgD ((s.bl k).pg 0)) T) :
  Calls Try.prog 21 #[.pointer (some ⟨ar.p, 0, none⟩), .int .i64 0] w (OpenQ w ar ok s) := by
 have HF := Lib.hid (And.intro hf (And.intro hok (And.intro hlt (And.intro he (And.intro hl (And.intro hoff hkd))))))
 have HX := Lib.hid (And.intro hx hex)
 have HM := Lib.hid (show (∀ k, ar.M k → k < w.heap.size) ∧ (∀ k, w.heap.size ≤ k → ar.Out ok k) from ⟨fun k hk => h.M_lt hk, fun k hk => h.outB he hl hlt hk⟩)
 have HA := Lib.hid h
 have HGE := Lib.hid (geo_any ar ok s w h)
 clear hf hok hlt he hl hoff hkd hx hex h
 go_enter Try.func21, Try.ntmps21
 go_wp2_with fail
 refine HGE.out.mono ?_
 rintro e w1 ⟨rfl, hb1⟩
 have HB1 := Lib.hid hb1
 have hv1 := heap_alloc_new w1 (.cells #[.pointer (some ⟨ar.p, 0, none⟩), .int .i64 0, .int .i64 3, .int .i64 16, .int .i64 6, .int .i64 256, .int .u32 0, .slice none 0 0, .slice none 0 0, .int .i64 0, .int .i64 0] 110)
 have y3 : (w1.alloc (.cells #[.pointer (some ⟨ar.p, 0, none⟩), .int .i64 0, .int .i64 3, .int .i64 16, .int .i64 6, .int .i64 256, .int .u32 0, .slice none 0 0, .slice none 0 0, .int .i64 0, .int .i64 0] 110)).cell? ⟨w1.heap.size, 3, none⟩ = some (.int .i64 16) := (blk_cell hv1 3).trans rfl
 clear hb1 HGE
 go_wp2_with fail
 clear y3
 obtain ⟨vp, hvp⟩ : ∃ vp, w1.heap.size = vp := ⟨_, rfl⟩
 have HVP := Lib.hid (show w.heap.size ≤ vp ∧ (w1.alloc (.cells #[.pointer (some ⟨ar.p, 0, none⟩), .int .i64 0, .int .i64 3, .int .i64 16, .int .i64 6, .int .i64 256, .int .u32 0, .slice none 0 0, .slice none 0 0, .int .i64 0, .int .i64 0] 110)).heap.size = vp + 1 ∧ Mods ar.M w (w1.alloc (.cells #[.pointer (some ⟨ar.p, 0, none⟩), .int .i64 0, .int .i64 3, .int .i64 16, .int .i64 6, .int .i64 256, .int .u32 0, .slice none 0 0, .slice none 0 0, .int .i64 0, .int .i64 0] 110)) from ⟨by rw [← hvp]; exact HB1.out.size, by simp [← hvp], (Mods.of_below HB1.out).alloc _⟩)
 have HA0 := Lib.hid ((HA.out.below HB1.out).below (bl_alloc (Below.refl _ _) (.cells #[.pointer (some ⟨ar.p, 0, none⟩), .int .i64 0, .int .i64 3, .int .i64 16, .int .i64 6, .int .i64 256, .int .u32 0, .slice none 0 0, .slice none 0 0, .int .i64 0, .int .i64 0] 110)))
 obtain ⟨w0, hw0⟩ : ∃ w0, w1.alloc (.cells #[.pointer (some ⟨ar.p, 0, none⟩), .int .i64 0, .int .i64 3, .int .i64 16, .int .i64 6, .int .i64 256, .int .u32 0, .slice none 0 0, .slice none 0 0, .int .i64 0, .int .i64 0] 110) = w0 := ⟨_, rfl⟩
 rw [hw0] at HVP HA0 hv1 ⊢
 rw [hvp] at hv1
 try rw [hvp]
 have HV1 := Lib.hid hv1
 clear hv1 hw0
 go_loopw [7, 25] (fun f i wr => ∃ (j m : Nat) (fb : Bool) (q : Int) (c7 c8 c9 c10 : Value), i = .int .i64 (j : Int) ∧ f = .bool fb ∧ j ≤ 16 ∧ m ≤ 4 * j ∧ Hid (Arr wr ar ok (s.tick m) ∧ Mods ar.M w wr ∧ vp < wr.heap.size ∧ OpnS wr (fun k => w.heap.size ≤ k ∧ k ≠ vp) ar.p vp s j fb q c7 c8 c9 c10)) (fun _ i _ => 16 - (intOf i).toNat)
 case atStart => exact ⟨0, 0, false, 0, _, _, _, _, rfl, rfl, by decide, by decide, Lib.hid ⟨by rw [tick_zero]; exact HA0.out, HVP.out.2.2, by have h_ := HVP.out.2.1; omega, HV1.out, fun _ k hk => absurd hk (Nat.not_lt_zero k), fun h => absurd h (by decide)⟩⟩
 case round =>
  obtain ⟨j, m, fb, q, c7, c8, c9, c10, rfl, rfl, hj, hm, HI⟩ := hrel
  by_cases hlt16 : j < 16
  ·have hjp : (j : Int) < 16 := by omega
   go_wp2_with fail
   refine (find_any ar ok (s.tick m) vp j (.int .u32 q) c7 c8 c9 c10 wr HF.out.1 HF.out.2.1 (fun k hk => Nat.lt_of_lt_of_le (HF.out.2.2.1 k hk) HI.out.2.1.size) (fun x hx => Nat.lt_of_lt_of_le (HF.out.2.2.2.1 x hx) HI.out.2.1.size) (fun x hx hp => Nat.lt_of_lt_of_le (HF.out.2.2.2.2.1 x hx hp) HI.out.2.1.size) HI.out.1 HI.out.2.2.2.1 (fun hM => by have h_ := HM.out.1 _ hM; have h2_ := HVP.out.1; omega) hlt16 (by simp only [St.tick]; omega) (by simp only [St.tick]; omega) HF.out.2.2.2.2.2.1 (fun i hi => by rw [tick_tick]; exact HF.out.2.2.2.2.2.2 _ (by omega)) (HX.out.1 j hlt16)).mono ?_
   rintro e w2 ⟨n, hn, hA2, hM2, hc⟩
   rw [tick_tick] at hA2
   have H2 := Lib.hid (show Arr w2 ar ok (s.tick (m + n)) ∧ Mods ar.M w w2 ∧ w2.heap[vp]? = _ ∧ vp < w2.heap.size from ⟨hA2, HI.out.2.1.trans hM2, hM2.blk HI.out.2.2.2.1 (fun hM => by have h_ := HM.out.1 _ hM; have h2_ := HVP.out.1; omega), Nat.lt_of_lt_of_le HI.out.2.2.1 hM2.size⟩)
   have HMR := Lib.hid hM2
   clear hA2 hM2
   rcases hc with ⟨T', C, hT, rfl, hR⟩ | ⟨hno, rfl⟩
   ·obtain ⟨P3, p3, S3, q3, rfl⟩ := hR.shape
    have HR := Lib.hid hR
    have HT := Lib.hid hT
    clear hR hT
    simp only [tbC]
    cases fb with
    | false =>
     go_wp2_with fail
     have hb3 := bl_alloc (Below.refl w2.heap.size w2) (.cells #[.int .u32 T'.seq, .slice (some P3) 11 p3, .slice S3 T'.spare.length q3, .int .i64 T'.t0, .int .i64 T'.t1] 108)
     have hg3 := heap_alloc_new w2 (.cells #[.int .u32 T'.seq, .slice (some P3) 11 p3, .slice S3 T'.spare.length q3, .int .i64 T'.t0, .int .i64 T'.t1] 108)
     obtain ⟨w3, hw3⟩ : ∃ w3, w2.alloc (.cells #[.int .u32 T'.seq, .slice (some P3) 11 p3, .slice S3 T'.spare.length q3, .int .i64 T'.t0, .int .i64 T'.t1] 108) = w3 := ⟨_, rfl⟩
     rw [hw3] at hb3 hg3 ⊢
     obtain ⟨g9, hg9⟩ : ∃ g9, w2.heap.size = g9 := ⟨_, rfl⟩
     rw [hg9] at hg3
     try rw [hg9]
     have hne9 : g9 ≠ vp := by have h_ := H2.out.2.2.2; omega
     have HZ := Lib.hid (show Arr w3.drew ar ok (s.tick (m + n)) ∧ Mods ar.M w w3.drew ∧ w3.drew.heap[vp]? = _ ∧ w3.drew.heap[g9]? = _ ∧ vp < w3.drew.heap.size ∧ TbR w3.drew (fun k => w.heap.size ≤ k ∧ k ≠ vp) (tbC P3 p3 S3 q3 T') T' from ⟨(H2.out.1.below hb3).below (bl_drew (Below.refl _ _)), ((H2.out.2.1.trans (Mods.of_below hb3)).drewN 1), (show w3.heap[vp]? = _ from blk_below H2.out.2.2.1 hb3), hg3, Nat.lt_of_lt_of_le H2.out.2.2.2 hb3.size, ((HR.out.below hb3).below (bl_drew (Below.refl _ _))).mono (fun k hk => ⟨Nat.le_trans HI.out.2.1.size hk, by have h_ := HI.out.2.2.1; omega⟩)⟩)
     clear hb3 hg3 hw3
     refine start_ (n := 15) (S := fun w' => True) (ds := []) _ (by kernel_rfl) rfl rfl trivial (fun hHeld => ?_)
     refine with_tabW TyR.tab11 TyR.bits11 (fun HT_ HW_ => ?_)
     generalize w3.drew = wz at HZ hHeld ⊢
     refine pur_ 0 (some 38) HT_.out rfl rfl (by kernel_rfl) (fun _ _ _ h => h) (by rfl) (fun w' => by go_simp; with_reducible rfl) (by simp only [Act.put, List.setIfInBounds_toArray, List.set_cons_zero, List.set_cons_succ, i64_w, i32_w]; rfl) ?_
     refine pur_ 1 (some 39) HT_.out rfl rfl (by kernel_rfl) (fun _ _ _ h => h) (by rfl) (fun w' => by go_simp; with_reducible rfl) (by simp only [Act.put, List.setIfInBounds_toArray, List.set_cons_zero, List.set_cons_succ, i64_w, i32_w]; rfl) ?_
     refine pur_ 2 (some 40) HT_.out rfl rfl (by kernel_rfl) (fun _ _ _ h => h) (by rfl) (fun w' => by go_simp; with_reducible rfl) (by simp only [Act.put, List.setIfInBounds_toArray, List.set_cons_zero, List.set_cons_succ, i64_w, i32_w]; rfl) ?_
     refine pur_ 3 (some 41) HT_.out rfl rfl (by kernel_rfl) (fun _ _ _ h => h) (by rfl) (fun w' => by go_simp; with_reducible rfl) (by simp only [Act.put, List.setIfInBounds_toArray, List.set_cons_zero, List.set_cons_succ, i64_w, i32_w]; rfl) ?_
     refine pur_ 4 (some 42) HT_.out rfl rfl (by kernel_rfl) (fun _ _ _ h => h) (by rfl) (fun w' => by go_simp; with_reducible rfl) (by simp only [Act.put, List.setIfInBounds_toArray, List.set_cons_zero, List.set_cons_succ, i64_w, i32_w]; rfl) ?_
     refine purn_ 5 (some 43) HT_.out rfl rfl (by kernel_rfl) (fun _ _ _ h => h) (by rfl) (by simp only [Act.put, List.setIfInBounds_toArray, List.set_cons_zero, List.set_cons_succ, i64_w, i32_w]; rfl) ?_
     refine purn_ 6 (some 44) HT_.out rfl rfl (by kernel_rfl) (fun _ _ _ h => h) (by rfl) (by simp only [Act.put, List.setIfInBounds_toArray, List.set_cons_zero, List.set_cons_succ, i64_w, i32_w]; rfl) ?_
     refine purn_ 7 (some 45) HT_.out rfl rfl (by kernel_rfl) (fun _ _ _ h => h) (by rfl) (by simp only [Act.put, List.setIfInBounds_toArray, List.set_cons_zero, List.set_cons_succ, i64_w, i32_w]; rfl) ?_
     refine purn_ 8 (some 46) HT_.out rfl rfl (by kernel_rfl) (fun _ _ _ h => h) (by rfl) (by simp only [Act.put, List.setIfInBounds_toArray, List.set_cons_zero, List.set_cons_succ, i64_w, i32_w]; rfl) ?_
     refine purn_ 9 (some 47) HT_.out rfl rfl (by kernel_rfl) (fun _ _ _ h => h) (by rfl) (by simp only [Act.put, List.setIfInBounds_toArray, List.set_cons_zero, List.set_cons_succ, i64_w, i32_w]; rfl) ?_
     refine purn_ 10 (some 48) HT_.out rfl rfl (by kernel_rfl) (fun _ _ _ h => h) (by rfl) (by simp only [Act.put, List.setIfInBounds_toArray, List.set_cons_zero, List.set_cons_succ, i64_w, i32_w]; rfl) ?_
     refine purn_ 11 (some 49) HT_.out rfl rfl (by kernel_rfl) (fun _ _ _ h => h) (by rfl) (by simp only [Act.put, List.setIfInBounds_toArray, List.set_cons_zero, List.set_cons_succ, i64_w, i32_w]; rfl) ?_
     refine purn_ 12 (some 50) HT_.out rfl rfl (by kernel_rfl) (fun _ _ _ h => h) (by rfl) (by simp only [Act.put, List.setIfInBounds_toArray, List.set_cons_zero, List.set_cons_succ, i64_w, i32_w]; rfl) ?_
     refine pur_ 13 (some 51) HT_.out rfl rfl (by kernel_rfl) (fun _ _ _ h => h) (by rfl) (fun w' => by go_simp; with_reducible rfl) (by simp only [Act.put, List.setIfInBounds_toArray, List.set_cons_zero, List.set_cons_succ, i64_w, i32_w]; rfl) ?_
     refine pur_ 14 (some 52) HT_.out rfl rfl (by kernel_rfl) (fun _ _ _ h => h) (by rfl) (fun w' => by go_simp; with_reducible rfl) (by simp only [Act.put, List.setIfInBounds_toArray, List.set_cons_zero, List.set_cons_succ, i64_w, i32_w]; rfl) ?_
     refine done_ (done_of HT_.out (by kernel_rfl)) ?_
     have c0 : wz.cell? ⟨g9, 0, none⟩ = some (.int .u32 T'.seq) := (blk_cell HZ.out.2.2.2.1 0).trans rfl
     have c1 : wz.cell? ⟨g9, 1, none⟩ = some (.slice (some P3) 11 p3) := (blk_cell HZ.out.2.2.2.1 1).trans rfl
     have c2 : wz.cell? ⟨g9, 2, none⟩ = some (.slice S3 T'.spare.length q3) := (blk_cell HZ.out.2.2.2.1 2).trans rfl
     have c3 : wz.cell? ⟨g9, 3, none⟩ = some (.int .i64 T'.t0) := (blk_cell HZ.out.2.2.2.1 3).trans rfl
     have c4 : wz.cell? ⟨g9, 4, none⟩ = some (.int .i64 T'.t1) := (blk_cell HZ.out.2.2.2.1 4).trans rfl
     have x6 : wz.cell? ⟨vp, 6, none⟩ = some (.int .u32 q) := (blk_cell HZ.out.2.2.1 6).trans rfl
     have x7 : wz.cell? ⟨vp, 7, none⟩ = some (c7) := (blk_cell HZ.out.2.2.1 7).trans rfl
     have x8 : wz.cell? ⟨vp, 8, none⟩ = some (c8) := (blk_cell HZ.out.2.2.1 8).trans rfl
     have x9 : wz.cell? ⟨vp, 9, none⟩ = some (c9) := (blk_cell HZ.out.2.2.1 9).trans rfl
     have x10 : wz.cell? ⟨vp, 10, none⟩ = some (c10) := (blk_cell HZ.out.2.2.1 10).trans rfl
     have xf := fun k => blk_frozen HZ.out.2.2.1 k
     go_wp2_with fail
     clear c0 c1 c2 c3 c4 x6 x7 x8 x9 x10 xf
     have hz9 := volput HZ.out.2.2.1 (.int .u32 T'.seq) (.slice (some P3) 11 p3) (.slice S3 T'.spare.length q3) (.int .i64 T'.t0) (.int .i64 T'.t1)
     have hm9 := volmods (w := wz) (w' := wz) (S := fun k => k = vp) (Mods.refl _ _) (.inl rfl) (.int .u32 T'.seq) (.slice (some P3) 11 p3) (.slice S3 T'.spare.length q3) (.int .i64 T'.t0) (.int .i64 T'.t1)
     have hM9 := volmods (w := w) (w' := wz) (S := ar.M) (g := vp) HZ.out.2.1 (.inr HVP.out.1) (.int .u32 T'.seq) (.slice (some P3) 11 p3) (.slice S3 T'.spare.length q3) (.int .i64 T'.t0) (.int .i64 T'.t1)
     have hA9 := HZ.out.1.mods hm9 (fun k hk => by subst hk; exact HM.out.2 _ HVP.out.1)
     have hT9 := HZ.out.2.2.2.2.2.mods hm9 (fun k hk => hk.2)
     have hl9 := Nat.lt_of_lt_of_le HZ.out.2.2.2.2.1 hm9.size
     go_roundw
     case rel => exact ⟨j + 1, m + n, true, T'.seq, _, _, _, _, by go_num, rfl, by omega, by omega, Lib.hid ⟨hA9, hM9, hl9, hz9, fun h => absurd h (by decide), fun _ => ⟨T', rfl, hT9, MaxTab.new HT.out (fun k T'' hk hT'' => absurd (HI.out.2.2.2.2.1 rfl k hk) hT''.no)⟩⟩⟩
     case measure => simp [intOf]; omega
    | true =>
     go_wp2_with fail
     have hb3 := bl_alloc (Below.refl w2.heap.size w2) (.cells #[.int .u32 T'.seq, .slice (some P3) 11 p3, .slice S3 T'.spare.length q3, .int .i64 T'.t0, .int .i64 T'.t1] 108)
     have hg3 := heap_alloc_new w2 (.cells #[.int .u32 T'.seq, .slice (some P3) 11 p3, .slice S3 T'.spare.length q3, .int .i64 T'.t0, .int .i64 T'.t1] 108)
     obtain ⟨w3, hw3⟩ : ∃ w3, w2.alloc (.cells #[.int .u32 T'.seq, .slice (some P3) 11 p3, .slice S3 T'.spare.length q3, .int .i64 T'.t0, .int .i64 T'.t1] 108) = w3 := ⟨_, rfl⟩
     rw [hw3] at hb3 hg3 ⊢
     obtain ⟨g9, hg9⟩ : ∃ g9, w2.heap.size = g9 := ⟨_, rfl⟩
     rw [hg9] at hg3
     try rw [hg9]
     have hne9 : g9 ≠ vp := by have h_ := H2.out.2.2.2; omega
     have HZ := Lib.hid (show Arr w3.drew ar ok (s.tick (m + n)) ∧ Mods ar.M w w3.drew ∧ w3.drew.heap[vp]? = _ ∧ w3.drew.heap[g9]? = _ ∧ vp < w3.drew.heap.size ∧ TbR w3.drew (fun k => w.heap.size ≤ k ∧ k ≠ vp) (tbC P3 p3 S3 q3 T') T' ∧ (∀ T, T.seq = q → TbR wr (fun k => w.heap.size ≤ k ∧ k ≠ vp) #[.int .u32 q, c7, c8, c9, c10] T → TbR w3.drew (fun k => w.heap.size ≤ k ∧ k ≠ vp) #[.int .u32 q, c7, c8, c9, c10] T) from ⟨(H2.out.1.below hb3).below (bl_drew (Below.refl _ _)), ((H2.out.2.1.trans (Mods.of_below hb3)).drewN 1), (show w3.heap[vp]? = _ from blk_below H2.out.2.2.1 hb3), hg3, Nat.lt_of_lt_of_le H2.out.2.2.2 hb3.size, ((HR.out.below hb3).below (bl_drew (Below.refl _ _))).mono (fun k hk => ⟨Nat.le_trans HI.out.2.1.size hk, by have h_ := HI.out.2.2.1; omega⟩), (fun T _ h_ => ((h_.mods HMR.out (fun k hk hM => by have h1_ := HM.out.1 _ hM; omega)).below hb3).below (bl_drew (Below.refl _ _)))⟩)
     clear hb3 hg3 hw3
     have hs9 : w3.drew.cell? ⟨g9, 0, none⟩ = some (.int .u32 T'.seq) := (blk_cell HZ.out.2.2.2.1 0).trans rfl
     have hs6 : w3.drew.cell? ⟨vp, 6, none⟩ = some (.int .u32 q) := (blk_cell HZ.out.2.2.1 6).trans rfl
     by_cases hq : q < T'.seq
     ·have hqd : decide (q < T'.seq) = true := decide_eq_true hq
      refine start_ (n := 15) (S := fun w' => w'.cell? ⟨g9, 0, none⟩ = some (.int .u32 T'.seq) ∧ w'.cell? ⟨vp, 6, none⟩ = some (.int .u32 q)) (ds := []) #[false, false, false, false, false, false, false, false, false, false, false, false, false, false, false] (by kernel_rfl) rfl rfl ⟨hs9, hs6⟩ (fun hHeld => ?_)
      refine with_tabW TyR.tab11 TyR.bits11 (fun HT_ HW_ => ?_)
      generalize w3.drew = wz at HZ hHeld ⊢
      refine pur_ 0 (some 38) HT_.out rfl rfl (by kernel_rfl) (fun _ _ _ h => h) (by rfl) (fun w' => by go_simp; with_reducible rfl) (by simp only [Act.put, List.setIfInBounds_toArray, List.set_cons_zero, List.set_cons_succ, i64_w, i32_w]; rfl) ?_
      refine pur_ 1 (some 39) HT_.out rfl rfl (by kernel_rfl) (fun _ _ _ h => h) (by rfl) (fun w' => by go_simp; with_reducible rfl) (by simp only [Act.put, List.setIfInBounds_toArray, List.set_cons_zero, List.set_cons_succ, i64_w, i32_w]; rfl) ?_
      refine pur_ 2 (some 40) HT_.out rfl rfl (by kernel_rfl) (fun _ _ _ h => h) (by rfl) (fun w' => by go_simp; with_reducible rfl) (by simp only [Act.put, List.setIfInBounds_toArray, List.set_cons_zero, List.set_cons_succ, i64_w, i32_w]; rfl) ?_
      refine pur_ 3 (some 41) HT_.out rfl rfl (by kernel_rfl) (fun _ _ _ h => h) (by rfl) (fun w' => by go_simp; with_reducible rfl) (by simp only [Act.put, List.setIfInBounds_toArray, List.set_cons_zero, List.set_cons_succ, i64_w, i32_w]; rfl) ?_
      refine pur_ 4 (some 42) HT_.out rfl rfl (by kernel_rfl) (fun _ _ _ h => h) (by rfl) (fun w' => by go_simp; with_reducible rfl) (by simp only [Act.put, List.setIfInBounds_toArray, List.set_cons_zero, List.set_cons_succ, i64_w, i32_w]; rfl) ?_
      refine pur_ 5 (some 43) HT_.out rfl rfl (by kernel_rfl) (fun _ _ _ h => h) (by rfl) (fun w' => by go_simp; with_reducible rfl) (by simp only [Act.put, List.setIfInBounds_toArray, List.set_cons_zero, List.set_cons_succ, i64_w, i32_w]; rfl) ?_
      refine pur_ 7 (some 45) HT_.out rfl rfl (by kernel_rfl) (fun _ _ _ h => h) (by rfl) (fun w' => by go_simp; with_reducible rfl) (by simp only [Act.put, List.setIfInBounds_toArray, List.set_cons_zero, List.set_cons_succ, i64_w, i32_w]; rfl) ?_
      refine pur_ 8 (some 46) HT_.out rfl rfl (by kernel_rfl) (fun _ _ _ h => h) (by rfl) (fun w' => by go_simp; with_reducible rfl) (by simp only [Act.put, List.setIfInBounds_toArray, List.set_cons_zero, List.set_cons_succ, i64_w, i32_w]; rfl) ?_
      refine pur_ 9 (some 47) HT_.out rfl rfl (by kernel_rfl) (fun _ _ _ h => h) (by rfl) (fun w' => by go_simp; with_reducible rfl) (by simp only [Act.put, List.setIfInBounds_toArray, List.set_cons_zero, List.set_cons_succ, i64_w, i32_w]; rfl) ?_
      refine pur_ 10 (some 48) HT_.out rfl rfl (by kernel_rfl) (fun _ _ _ h => h) (by rfl) (fun w' => by go_simp; with_reducible rfl) (by simp only [Act.put, List.setIfInBounds_toArray, List.set_cons_zero, List.set_cons_succ, i64_w, i32_w]; rfl) ?_
      refine take_ (i := 6) (N := some 44) (v := ?_) (a' := ?_) #[true, true, true, true, true, true, true, true, true, true, true, false, false, false, false] rfl rfl (take_ofW HT_.out HW_.out (by kernel_rfl)) (fun _ _ _ h => h) (Or.inl ⟨by rfl, ?_⟩) hHeld ?_ ?_
      rotate_left
      ·rintro w' ⟨s0, s1⟩
       go_simp
       with_reducible rfl
      rotate_left
      ·simp only [Act.put, List.setIfInBounds_toArray, List.set_cons_zero, List.set_cons_succ, i64_w, i32_w]
       rfl
      refine take_ (i := 11) (N := some 49) (v := ?_) (a' := ?_) #[true, true, true, true, true, true, true, true, true, true, true, true, false, false, false] rfl rfl (take_ofW HT_.out HW_.out (by kernel_rfl)) (fun _ _ _ h => h) (Or.inl ⟨by rfl, ?_⟩) hHeld ?_ ?_
      rotate_left
      ·rintro w' ⟨s0, s1⟩
       go_simp
       with_reducible rfl
      rotate_left
      ·simp only [Act.put, List.setIfInBounds_toArray, List.set_cons_zero, List.set_cons_succ, i64_w, i32_w]
       rfl
      refine pur_ 12 (some 50) HT_.out rfl rfl (by kernel_rfl) (fun _ _ _ h => h) (by rfl) (fun w' => by go_simp; with_reducible rfl) (by simp only [Act.put, List.setIfInBounds_toArray, List.set_cons_zero, List.set_cons_succ, i64_w, i32_w]; rfl) ?_
      refine pur_ 13 (some 51) HT_.out rfl rfl (by kernel_rfl) (fun _ _ _ h => h) (by rfl) (fun w' => by go_simp; with_reducible rfl) (by simp only [Act.put, List.setIfInBounds_toArray, List.set_cons_zero, List.set_cons_succ, i64_w, i32_w]; rfl) ?_
      refine pur_ 14 (some 52) HT_.out rfl rfl (by kernel_rfl) (fun _ _ _ h => h) (by rfl) (fun w' => by go_simp; with_reducible rfl) (by simp only [Act.put, List.setIfInBounds_toArray, List.set_cons_zero, List.set_cons_succ, i64_w, i32_w]; rfl) ?_
      refine done_ (done_of HT_.out (by kernel_rfl)) ?_
      have c0 : wz.cell? ⟨g9, 0, none⟩ = some (.int .u32 T'.seq) := (blk_cell HZ.out.2.2.2.1 0).trans rfl
      have c1 : wz.cell? ⟨g9, 1, none⟩ = some (.slice (some P3) 11 p3) := (blk_cell HZ.out.2.2.2.1 1).trans rfl
      have c2 : wz.cell? ⟨g9, 2, none⟩ = some (.slice S3 T'.spare.length q3) := (blk_cell HZ.out.2.2.2.1 2).trans rfl
      have c3 : wz.cell? ⟨g9, 3, none⟩ = some (.int .i64 T'.t0) := (blk_cell HZ.out.2.2.2.1 3).trans rfl
      have c4 : wz.cell? ⟨g9, 4, none⟩ = some (.int .i64 T'.t1) := (blk_cell HZ.out.2.2.2.1 4).trans rfl
      have x6 : wz.cell? ⟨vp, 6, none⟩ = some (.int .u32 q) := (blk_cell HZ.out.2.2.1 6).trans rfl
      have x7 : wz.cell? ⟨vp, 7, none⟩ = some (c7) := (blk_cell HZ.out.2.2.1 7).trans rfl
      have x8 : wz.cell? ⟨vp, 8, none⟩ = some (c8) := (blk_cell HZ.out.2.2.1 8).trans rfl
      have x9 : wz.cell? ⟨vp, 9, none⟩ = some (c9) := (blk_cell HZ.out.2.2.1 9).trans rfl
      have x10 : wz.cell? ⟨vp, 10, none⟩ = some (c10) := (blk_cell HZ.out.2.2.1 10).trans rfl
      have xf := fun k => blk_frozen HZ.out.2.2.1 k
      go_wp2_with fail
      clear c0 c1 c2 c3 c4 x6 x7 x8 x9 x10 xf
      have hz9 := volput HZ.out.2.2.1 (.int .u32 T'.seq) (.slice (some P3) 11 p3) (.slice S3 T'.spare.length q3) (.int .i64 T'.t0) (.int .i64 T'.t1)
      have hm9 := volmods (w := wz) (w' := wz) (S := fun k => k = vp) (Mods.refl _ _) (.inl rfl) (.int .u32 T'.seq) (.slice (some P3) 11 p3) (.slice S3 T'.spare.length q3) (.int .i64 T'.t0) (.int .i64 T'.t1)
      have hM9 := volmods (w := w) (w' := wz) (S := ar.M) (g := vp) HZ.out.2.1 (.inr HVP.out.1) (.int .u32 T'.seq) (.slice (some P3) 11 p3) (.slice S3 T'.spare.length q3) (.int .i64 T'.t0) (.int .i64 T'.t1)
      have hA9 := HZ.out.1.mods hm9 (fun k hk => by subst hk; exact HM.out.2 _ HVP.out.1)
      have hT9 := HZ.out.2.2.2.2.2.1.mods hm9 (fun k hk => hk.2)
      have hl9 := Nat.lt_of_lt_of_le HZ.out.2.2.2.2.1 hm9.size
      go_roundw
      case rel => exact ⟨j + 1, m + n, true, T'.seq, _, _, _, _, by go_num, rfl, by omega, by omega, Lib.hid ⟨hA9, hM9, hl9, hz9, fun h => absurd h (by decide), fun _ => ⟨T', rfl, hT9, MaxTab.new HT.out (fun k T'' hk hT'' => by obtain ⟨T, e1, _, e2⟩ := HI.out.2.2.2.2.2 rfl; have h_ := e2.2 k T'' hk hT''; omega)⟩⟩⟩
      case measure => simp [intOf]; omega
     ·have hqd : decide (q < T'.seq) = false := decide_eq_false hq
      refine start_ (n := 15) (S := fun w' => w'.cell? ⟨g9, 0, none⟩ = some (.int .u32 T'.seq) ∧ w'.cell? ⟨vp, 6, none⟩ = some (.int .u32 q)) (ds := []) #[false, false, false, false, false, false, false, false, false, false, false, false, false, false, false] (by kernel_rfl) rfl rfl ⟨hs9, hs6⟩ (fun hHeld => ?_)
      refine with_tabW TyR.tab11 TyR.bits11 (fun HT_ HW_ => ?_)
      generalize w3.drew = wz at HZ hHeld ⊢
      refine pur_ 0 (some 38) HT_.out rfl rfl (by kernel_rfl) (fun _ _ _ h => h) (by rfl) (fun w' => by go_simp; with_reducible rfl) (by simp only [Act.put, List.setIfInBounds_toArray, List.set_cons_zero, List.set_cons_succ, i64_w, i32_w]; rfl) ?_
      refine pur_ 1 (some 39) HT_.out rfl rfl (by kernel_rfl) (fun _ _ _ h => h) (by rfl) (fun w' => by go_simp; with_reducible rfl) (by simp only [Act.put, List.setIfInBounds_toArray, List.set_cons_zero, List.set_cons_succ, i64_w, i32_w]; rfl) ?_
      refine pur_ 2 (some 40) HT_.out rfl rfl (by kernel_rfl) (fun _ _ _ h => h) (by rfl) (fun w' => by go_simp; with_reducible rfl) (by simp only [Act.put, List.setIfInBounds_toArray, List.set_cons_zero, List.set_cons_succ, i64_w, i32_w]; rfl) ?_
      refine pur_ 3 (some 41) HT_.out rfl rfl (by kernel_rfl) (fun _ _ _ h => h) (by rfl) (fun w' => by go_simp; with_reducible rfl) (by simp only [Act.put, List.setIfInBounds_toArray, List.set_cons_zero, List.set_cons_succ, i64_w, i32_w]; rfl) ?_
      refine pur_ 4 (some 42) HT_.out rfl rfl (by kernel_rfl) (fun _ _ _ h => h) (by rfl) (fun w' => by go_simp; with_reducible rfl) (by simp only [Act.put, List.setIfInBounds_toArray, List.set_cons_zero, List.set_cons_succ, i64_w, i32_w]; rfl) ?_
      refine pur_ 5 (some 43) HT_.out rfl rfl (by kernel_rfl) (fun _ _ _ h => h) (by rfl) (fun w' => by go_simp; with_reducible rfl) (by simp only [Act.put, List.setIfInBounds_toArray, List.set_cons_zero, List.set_cons_succ, i64_w, i32_w]; rfl) ?_
      refine pur_ 7 (some 45) HT_.out rfl rfl (by kernel_rfl) (fun _ _ _ h => h) (by rfl) (fun w' => by go_simp; with_reducible rfl) (by simp only [Act.put, List.setIfInBounds_toArray, List.set_cons_zero, List.set_cons_succ, i64_w, i32_w]; rfl) ?_
      refine pur_ 8 (some 46) HT_.out rfl rfl (by kernel_rfl) (fun _ _ _ h => h) (by rfl) (fun w' => by go_simp; with_reducible rfl) (by simp only [Act.put, List.setIfInBounds_toArray, List.set_cons_zero, List.set_cons_succ, i64_w, i32_w]; rfl) ?_
      refine pur_ 9 (some 47) HT_.out rfl rfl (by kernel_rfl) (fun _ _ _ h => h) (by rfl) (fun w' => by go_simp; with_reducible rfl) (by simp only [Act.put, List.setIfInBounds_toArray, List.set_cons_zero, List.set_cons_succ, i64_w, i32_w]; rfl) ?_
      refine pur_ 10 (some 48) HT_.out rfl rfl (by kernel_rfl) (fun _ _ _ h => h) (by rfl) (fun w' => by go_simp; with_reducible rfl) (by simp only [Act.put, List.setIfInBounds_toArray, List.set_cons_zero, List.set_cons_succ, i64_w, i32_w]; rfl) ?_
      refine take_ (i := 6) (N := some 44) (v := ?_) (a' := ?_) #[true, true, true, true, true, true, true, true, true, true, true, false, false, false, false] rfl rfl (take_ofW HT_.out HW_.out (by kernel_rfl)) (fun _ _ _ h => h) (Or.inl ⟨by rfl, ?_⟩) hHeld ?_ ?_
      rotate_left
      ·rintro w' ⟨s0, s1⟩
       go_simp
       with_reducible rfl
      rotate_left
      ·simp only [Act.put, List.setIfInBounds_toArray, List.set_cons_zero, List.set_cons_succ, i64_w, i32_w]
       rfl
      refine take_ (i := 11) (N := some 49) (v := ?_) (a' := ?_) #[true, true, true, true, true, true, true, true, true, true, true, true, false, false, false] rfl rfl (take_ofW HT_.out HW_.out (by kernel_rfl)) (fun _ _ _ h => h) (Or.inl ⟨by rfl, ?_⟩) hHeld ?_ ?_
      rotate_left
      ·rintro w' ⟨s0, s1⟩
       go_simp
       with_reducible rfl
      rotate_left
      ·simp only [Act.put, List.setIfInBounds_toArray, List.set_cons_zero, List.set_cons_succ, i64_w, i32_w]
       rfl
      refine pur_ 12 (some 50) HT_.out rfl rfl (by kernel_rfl) (fun _ _ _ h => h) (by rfl) (fun w' => by go_simp; with_reducible rfl) (by simp only [Act.put, List.setIfInBounds_toArray, List.set_cons_zero, List.set_cons_succ, i64_w, i32_w]; rfl) ?_
      refine pur_ 13 (some 51) HT_.out rfl rfl (by kernel_rfl) (fun _ _ _ h => h) (by rfl) (fun w' => by go_simp; with_reducible rfl) (by simp only [Act.put, List.setIfInBounds_toArray, List.set_cons_zero, List.set_cons_succ, i64_w, i32_w]; rfl) ?_
      refine pur_ 14 (some 52) HT_.out rfl rfl (by kernel_rfl) (fun _ _ _ h => h) (by rfl) (fun w' => by go_simp; with_reducible rfl) (by simp only [Act.put, List.setIfInBounds_toArray, List.set_cons_zero, List.set_cons_succ, i64_w, i32_w]; rfl) ?_
      refine done_ (done_of HT_.out (by kernel_rfl)) ?_
      go_wp2_with fail
      go_roundw
      case rel => exact ⟨j + 1, m + n, true, q, c7, c8, c9, c10, by go_num, rfl, by omega, by omega, Lib.hid ⟨HZ.out.1, HZ.out.2.1, HZ.out.2.2.2.2.1, HZ.out.2.2.1, fun h => absurd h (by decide), fun _ => by obtain ⟨T, e1, e2, e3⟩ := HI.out.2.2.2.2.2 rfl; exact ⟨T, e1, HZ.out.2.2.2.2.2.2 T e1 e2, e3.keep (fun T'' hT'' => by have h_ := hT''.seq HT.out; omega)⟩⟩⟩
      case measure => simp [intOf]; omega
   ·simp only [tb0]
    go_wp2_with fail
    have hb3 := bl_alloc (Below.refl w2.heap.size w2) (.cells #[.int .u32 0, .slice none 0 0, .slice none 0 0, .int .i64 0, .int .i64 0] 108)
    have hg3 := heap_alloc_new w2 (.cells #[.int .u32 0, .slice none 0 0, .slice none 0 0, .int .i64 0, .int .i64 0] 108)
    obtain ⟨w3, hw3⟩ : ∃ w3, w2.alloc (.cells #[.int .u32 0, .slice none 0 0, .slice none 0 0, .int .i64 0, .int .i64 0] 108) = w3 := ⟨_, rfl⟩
    rw [hw3] at hb3 hg3 ⊢
    obtain ⟨g9, hg9⟩ : ∃ g9, w2.heap.size = g9 := ⟨_, rfl⟩
    rw [hg9] at hg3
    try rw [hg9]
    have hne9 : g9 ≠ vp := by have h_ := H2.out.2.2.2; omega
    have HZ := Lib.hid (show Arr w3.drew ar ok (s.tick (m + n)) ∧ Mods ar.M w w3.drew ∧ w3.drew.heap[vp]? = _ ∧ w3.drew.heap[g9]? = _ ∧ vp < w3.drew.heap.size ∧ (∀ T, T.seq = q → TbR wr (fun k => w.heap.size ≤ k ∧ k ≠ vp) #[.int .u32 q, c7, c8, c9, c10] T → TbR w3.drew (fun k => w.heap.size ≤ k ∧ k ≠ vp) #[.int .u32 q, c7, c8, c9, c10] T) from ⟨(H2.out.1.below hb3).below (bl_drew (Below.refl _ _)), ((H2.out.2.1.trans (Mods.of_below hb3)).drewN 1), (show w3.heap[vp]? = _ from blk_below H2.out.2.2.1 hb3), hg3, Nat.lt_of_lt_of_le H2.out.2.2.2 hb3.size, (fun T _ h_ => ((h_.mods HMR.out (fun k hk hM => by have h1_ := HM.out.1 _ hM; omega)).below hb3).below (bl_drew (Below.refl _ _)))⟩)
    clear hb3 hg3 hw3
    refine start_ (n := 15) (S := fun w' => True) (ds := []) _ (by kernel_rfl) rfl rfl trivial (fun hHeld => ?_)
    refine with_tabW TyR.tab11 TyR.bits11 (fun HT_ HW_ => ?_)
    generalize w3.drew = wz at HZ hHeld ⊢
    refine pur_ 0 (some 38) HT_.out rfl rfl (by kernel_rfl) (fun _ _ _ h => h) (by rfl) (fun w' => by go_simp; with_reducible rfl) (by simp only [Act.put, List.setIfInBounds_toArray, List.set_cons_zero, List.set_cons_succ, i64_w, i32_w]; rfl) ?_
    refine pur_ 1 (some 39) HT_.out rfl rfl (by kernel_rfl) (fun _ _ _ h => h) (by rfl) (fun w' => by go_simp; with_reducible rfl) (by simp only [Act.put, List.setIfInBounds_toArray, List.set_cons_zero, List.set_cons_succ, i64_w, i32_w]; rfl) ?_
    refine purn_ 2 (some 40) HT_.out rfl rfl (by kernel_rfl) (fun _ _ _ h => h) (by rfl) (by simp only [Act.put, List.setIfInBounds_toArray, List.set_cons_zero, List.set_cons_succ, i64_w, i32_w]; rfl) ?_
    refine purn_ 3 (some 41) HT_.out rfl rfl (by kernel_rfl) (fun _ _ _ h => h) (by rfl) (by simp only [Act.put, List.setIfInBounds_toArray, List.set_cons_zero, List.set_cons_succ, i64_w, i32_w]; rfl) ?_
    refine purn_ 4 (some 42) HT_.out rfl rfl (by kernel_rfl) (fun _ _ _ h => h) (by rfl) (by simp only [Act.put, List.setIfInBounds_toArray, List.set_cons_zero, List.set_cons_succ, i64_w, i32_w]; rfl) ?_
    refine purn_ 5 (some 43) HT_.out rfl rfl (by kernel_rfl) (fun _ _ _ h => h) (by rfl) (by simp only [Act.put, List.setIfInBounds_toArray, List.set_cons_zero, List.set_cons_succ, i64_w, i32_w]; rfl) ?_
    refine purn_ 6 (some 44) HT_.out rfl rfl (by kernel_rfl) (fun _ _ _ h => h) (by rfl) (by simp only [Act.put, List.setIfInBounds_toArray, List.set_cons_zero, List.set_cons_succ, i64_w, i32_w]; rfl) ?_
    refine purn_ 7 (some 45) HT_.out rfl rfl (by kernel_rfl) (fun _ _ _ h => h) (by rfl) (by simp only [Act.put, List.setIfInBounds_toArray, List.set_cons_zero, List.set_cons_succ, i64_w, i32_w]; rfl) ?_
    refine purn_ 8 (some 46) HT_.out rfl rfl (by kernel_rfl) (fun _ _ _ h => h) (by rfl) (by simp only [Act.put, List.setIfInBounds_toArray, List.set_cons_zero, List.set_cons_succ, i64_w, i32_w]; rfl) ?_
    refine purn_ 9 (some 47) HT_.out rfl rfl (by kernel_rfl) (fun _ _ _ h => h) (by rfl) (by simp only [Act.put, List.setIfInBounds_toArray, List.set_cons_zero, List.set_cons_succ, i64_w, i32_w]; rfl) ?_
    refine purn_ 10 (some 48) HT_.out rfl rfl (by kernel_rfl) (fun _ _ _ h => h) (by rfl) (by simp only [Act.put, List.setIfInBounds_toArray, List.set_cons_zero, List.set_cons_succ, i64_w, i32_w]; rfl) ?_
    refine purn_ 11 (some 49) HT_.out rfl rfl (by kernel_rfl) (fun _ _ _ h => h) (by rfl) (by simp only [Act.put, List.setIfInBounds_toArray, List.set_cons_zero, List.set_cons_succ, i64_w, i32_w]; rfl) ?_
    refine purn_ 12 (some 50) HT_.out rfl rfl (by kernel_rfl) (fun _ _ _ h => h) (by rfl) (by simp only [Act.put, List.setIfInBounds_toArray, List.set_cons_zero, List.set_cons_succ, i64_w, i32_w]; rfl) ?_
    refine purn_ 13 (some 51) HT_.out rfl rfl (by kernel_rfl) (fun _ _ _ h => h) (by rfl) (by simp only [Act.put, List.setIfInBounds_toArray, List.set_cons_zero, List.set_cons_succ, i64_w, i32_w]; rfl) ?_
    refine pur_ 14 (some 52) HT_.out rfl rfl (by kernel_rfl) (fun _ _ _ h => h) (by rfl) (fun w' => by go_simp; with_reducible rfl) (by simp only [Act.put, List.setIfInBounds_toArray, List.set_cons_zero, List.set_cons_succ, i64_w, i32_w]; rfl) ?_
    refine done_ (done_of HT_.out (by kernel_rfl)) ?_
    go_wp2_with fail
    go_roundw
    case rel => exact ⟨j + 1, m + n, fb, q, c7, c8, c9, c10, by go_num, rfl, by omega, by omega, Lib.hid ⟨HZ.out.1, HZ.out.2.1, HZ.out.2.2.2.2.1, HZ.out.2.2.1, fun hfb k hk => by
       by_cases e : k = j
       ·rw [e]; exact hno
       ·exact HI.out.2.2.2.2.1 hfb k (by omega), fun hfb => by obtain ⟨T, e1, e2, e3⟩ := HI.out.2.2.2.2.2 hfb; exact ⟨T, e1, HZ.out.2.2.2.2.2 T e1 e2, e3.keep (fun T'' hT'' => absurd hno hT''.no)⟩⟩⟩
    case measure => simp [intOf]; omega
  ·obtain rfl : j = 16 := by omega
   cases fb with
   | false => exact absurd HX.out.2 (fun ⟨k, T, hk, hT⟩ => hT.no (HI.out.2.2.2.2.1 rfl k hk))
   | true =>
    go_wp2_with fail
    go_ret2
    obtain ⟨T, e1, e2, e3⟩ := HI.out.2.2.2.2.2 rfl
    obtain ⟨PA, pc, SA, sc, e4⟩ := e2.shape
    have hv9 := HI.out.2.2.2.1
    simp only [tbC, Array.mk.injEq, List.cons.injEq, Value.int.injEq, true_and, and_true] at e4
    obtain ⟨rfl, rfl, rfl, rfl, rfl⟩ := e4
    exact ⟨vp, T, m, rfl, by omega, HI.out.1, HI.out.2.1, HVP.out.1, HI.out.2.2.1, ⟨PA, pc, SA, sc, hv9, e2⟩, e3⟩
end Go.Proofs.Ytffalemndjampaa
end
section
set_option linter.unusedVariables false
set_option linter.unusedSimpArgs false
namespace Go.Proofs.Ytffalemndjampaa
open Go.RowKit Go.Proofs.YtffalemndjampaaW.PrintWords Go.Proofs.YtffalemndjampaaW.PrintLast
theorem cpN (t e : TypeId) (z : Value) (sz bytes : Nat) (ht : Try.prog.underlying t = some (.slice e)) (hinfo : (Try.prog.info? e).map (fun i => (i.zero, i.size, i.bytes)) = some (some z, sz, bytes)) (hz : z.cells.size = sz) (hs : 0 < sz) (hb : bytes ≤ 1000) {w : World} {a : Addr} {m c : Nat} {news : List Value} (hl : news.length = m * sz) (hnews : ∀ j u, news[j]? = some u → w.cell? (a.add j) = some u) (h1 : ∀ u ∈ news, u.oneCell' = true) (hm : 0 < m) (hm2 : m ≤ 1000) :
  ∃ g c1 D w1, (Builtin.append_ #[t, t] t #[.slice none 0 0, .slice (some a) m c]).run Try.prog w = .ok (.slice (some ⟨g, 0, none⟩) m c1) w1 ∧ Below w.heap.size w w1 ∧ w.heap.size ≤ g ∧ m ≤ c1 ∧ w1.heap[g]? = some (.cells D e (0, 0)) ∧ D.toList.take (m * sz) = news := by
 obtain ⟨i0, hi, hzz⟩ := Option.map_eq_some_iff.1 hinfo
 simp only [Prod.mk.injEq] at hzz
 obtain ⟨hz0, hz1, hz2⟩ := hzz
 obtain ⟨v', w', hr, ho, hg, hnil⟩ := run_append_own_wide (P := Try.prog) w w.heap.size t t e i0 z sz bytes ht hi hz0 hz1 hz2 hz hs (.slice none 0 0) 0 [] (own_nil _ _ _ _) a m c news hl hnews h1 (by simp only [maxLen]; omega)
  (by rw [Nat.zero_add]; exact Nat.le_trans (Nat.mul_le_mul (show m + m / 4 + 192 ≤ 2000 by omega) hb) (by decide)) (Nat.le_refl _)
 rcases ho.2 with ⟨-, h0⟩ | ⟨g, cap, cur, rfl, hbg, hh, hc, hc2, hsz, htk⟩
 ·omega
 ·rw [Nat.zero_add] at hr htk hc
  exact ⟨g, cap, cur, w', hr, ⟨hg.os, hg.tape, hg.output, hg.size, fun k hk => hg.block k hk (by simp [Value.ownBlock])⟩, hbg, hc, hh, by simpa using htk⟩
theorem take_cell {D : Array Value} {n : Nat} {l : List Value} (h : D.toList.take n = l) {j : Nat} {v : Value} (hj : l[j]? = some v) : D[j]? = some v := by
 subst h
 rw [List.getElem?_take] at hj
 split at hj
 ·rw [← Array.getElem?_toList]; exact hj
 ·cases hj
def evL (LV : Value) : List Ev0 → List Value
 | [] => []
 | x :: r => .int .i64 x.1 :: .int .i64 x.2 :: .int .i64 0 :: LV :: evL LV r
theorem evL_len (LV : Value) (evs : List Ev0) : (evL LV evs).length = evs.length * 4 := by
 induction evs with
 | nil => rfl
 | cons x r ih => simp only [evL, List.length_cons, ih]; omega
theorem evL_at (LV : Value) : ∀ (evs : List Ev0) (j : Nat) (x : Ev0), evs[j]? = some x → (evL LV evs)[4 * j]? = some (.int .i64 x.1) ∧ (evL LV evs)[4 * j + 1]? = some (.int .i64 x.2) ∧ (evL LV evs)[4 * j + 2]? = some (.int .i64 0) ∧ (evL LV evs)[4 * j + 3]? = some LV := by
 intro evs
 induction evs with
 | nil => intro j x h; simp at h
 | cons y r ih =>
  intro j x h
  cases j with
  | zero => simp only [List.getElem?_cons_zero, Option.some.injEq] at h; subst h; simp [evL]
  | succ j =>
   have h_ := ih j x (by simpa using h)
   have e : ∀ i, 4 * (j + 1) + i = 4 * j + i + 1 + 1 + 1 + 1 := fun i => by omega
   refine ⟨?_, ?_, ?_, ?_⟩
   ·rw [show 4 * (j + 1) = 4 * j + 1 + 1 + 1 + 1 by omega]; simpa [evL] using h_.1
   ·rw [e 1]; simpa [evL] using h_.2.1
   ·rw [e 2]; simpa [evL] using h_.2.2.1
   ·rw [e 3]; simpa [evL] using h_.2.2.2
theorem evL_one (LV : Value) (hL : LV.oneCell' = true) : ∀ (evs : List Ev0), ∀ u ∈ evL LV evs, u.oneCell' = true := by
 intro evs
 induction evs with
 | nil => intro u hu; simp [evL] at hu
 | cons x r ih =>
  intro u hu
  simp only [evL, List.mem_cons] at hu
  rcases hu with rfl | rfl | rfl | rfl | hu
  ·rfl
  ·rfl
  ·rfl
  ·exact hL
  ·exact ih u hu
theorem evL_cell {LV : Value} {w : World} {b : Nat} : ∀ (evs : List Ev0) (o : Nat), (∀ j x, evs[j]? = some x → w.cell? ⟨b, o + 4 * j, none⟩ = some (.int .i64 x.1) ∧ w.cell? ⟨b, o + (4 * j + 1), none⟩ = some (.int .i64 x.2) ∧ w.cell? ⟨b, o + (4 * j + 2), none⟩ = some (.int .i64 0) ∧ w.cell? ⟨b, o + (4 * j + 3), none⟩ = some LV) → ∀ j u, (evL LV evs)[j]? = some u → w.cell? ⟨b, o + j, none⟩ = some u := by
 intro evs
 induction evs with
 | nil => intro o h j u hu; simp [evL] at hu
 | cons x r ih =>
  intro o h j u hu
  have h0 := h 0 x rfl
  match j, hu with
  | 0, hu => simp only [evL, List.getElem?_cons_zero, Option.some.injEq] at hu; subst hu; exact h0.1
  | 1, hu => simp only [evL, List.getElem?_cons_succ, List.getElem?_cons_zero, Option.some.injEq] at hu; subst hu; exact h0.2.1
  | 2, hu => simp only [evL, List.getElem?_cons_succ, List.getElem?_cons_zero, Option.some.injEq] at hu; subst hu; exact h0.2.2.1
  | 3, hu => simp only [evL, List.getElem?_cons_succ, List.getElem?_cons_zero, Option.some.injEq] at hu; subst hu; exact h0.2.2.2
  | j + 4, hu =>
   have h_ := ih (o + 4) (fun j x hx => by
    have h1 := h (j + 1) x (by simpa using hx)
    have e : ∀ i, o + 4 + (4 * j + i) = o + (4 * (j + 1) + i) := fun i => by omega
    refine ⟨?_, ?_, ?_, ?_⟩
    ·rw [show o + 4 + 4 * j = o + 4 * (j + 1) by omega]; exact h1.1
    ·rw [e 1]; exact h1.2.1
    ·rw [e 2]; exact h1.2.2.1
    ·rw [e 3]; exact h1.2.2.2) j u (by simpa [evL] using hu)
   rw [show o + (j + 4) = o + 4 + j by omega]; exact h_
theorem add_zero_ (b o : Nat) : (⟨b, 0, none⟩ : Addr).add o = ⟨b, o, none⟩ := by
 unfold Addr.add
 by_cases h : o = 0
 ·subst h; simp
 ·simp [h]
theorem infoEv : (Try.prog.info? 59).map (fun i => (i.zero, i.size, i.bytes)) = some (some (.agg #[.int .i64 0, .int .i64 0, .int .i64 0, .slice none 0 0]), 4, 48) := by kernel_rfl
theorem infoBool : (Try.prog.info? 4).map (fun i => (i.zero, i.size, i.bytes)) = some (some (.bool false), 1, 1) := by kernel_rfl
theorem infoNPage : (Try.prog.info? 127).map (fun i => (i.zero, i.size, i.bytes)) = some (some (.agg #[.slice none 0 0, .slice none 0 0]), 2, 48) := by kernel_rfl
theorem cpE {w : World} {EA : Option Addr} {n ec : Nat} {LA : Option Addr} {ln lc : Nat} {evs : List Ev0} (h : EvR w EA n (.slice LA ln lc) evs) (h0 : n = 0 → EA = none ∧ ec = 0) (hn : n ≤ 1000) :
  ∃ E' c1 w1, (Builtin.append_ #[60, 60] 60 #[.slice none 0 0, .slice EA n ec]).run Try.prog w = .ok (.slice E' n c1) w1 ∧ Below w.heap.size w w1 ∧ EvR w1 E' n (.slice LA ln lc) evs ∧ (n = 0 → E' = none ∧ c1 = 0) ∧ ∀ x, E' = some x → w.heap.size ≤ x.block ∧ ∃ D, w1.heap[x.block]? = some (.cells D 59 (0, 0)) := by
 by_cases hz : n = 0
 ·subst hz
  obtain ⟨rfl, rfl⟩ := h0 rfl
  obtain ⟨i0, hi, hzz⟩ := Option.map_eq_some_iff.1 infoEv
  refine ⟨none, 0, w, ?_, Below.refl _ _, ⟨h.1, fun hh => absurd hh (by omega)⟩, fun _ => ⟨rfl, rfl⟩, fun x hx => by cases hx⟩
  simp [Builtin.append_, run_underlying Try.underlying60, sizeOf, typeInfo, hi, Builtin.lenOf, Builtin.firstCells, loadCells, loadCellsFrom]
 ·obtain ⟨b, rfl, hc⟩ := h.2 (by omega)
  obtain ⟨g, c1, D, w1, hr, hb, hg, hm, hD, htk⟩ := cpN 60 59 _ 4 48 Try.underlying60 infoEv rfl (by decide) (by decide) (w := w) (a := ⟨b, 0, none⟩) (m := n) (c := ec) (news := evL (.slice LA ln lc) evs) (by rw [evL_len, h.1])
   (fun j u hu => by rw [add_zero_]; have h_ := evL_cell evs 0 (fun j x hx => by simpa using hc j x hx) j u hu; simpa using h_) (evL_one _ rfl evs) (by omega) hn
  refine ⟨some ⟨g, 0, none⟩, c1, w1, hr, hb, ⟨h.1, fun _ => ⟨g, rfl, fun j x hx => ?_⟩⟩, fun e => absurd e hz, fun x hx => by obtain rfl := Option.some.inj hx; exact ⟨hg, D, hD⟩⟩
  obtain ⟨a0, a1, a2, a3⟩ := evL_at (.slice LA ln lc) evs j x hx
  exact ⟨(blk_cell hD _).trans (take_cell htk a0), (blk_cell hD _).trans (take_cell htk a1), (blk_cell hD _).trans (take_cell htk a2), (blk_cell hD _).trans (take_cell htk a3)⟩
def ChipR (w : World) (r : Nat) (C : Array Value) (pr pc : Nat → Nat) (n : Nat) (F : Nat → Int × Int × Bool) (G : Nat → Nat → Value) : Prop :=
 w.heap[r]? = some (.cells C 96 (0, 0)) ∧ (∀ i, i < n → C[i * 4]? = some (.slice (some ⟨pr i, 0, none⟩) 6 (pc i)) ∧ C[i * 4 + 1]? = some (.int .i64 (F i).1) ∧ C[i * 4 + 2]? = some (.int .i64 (F i).2.1) ∧ C[i * 4 + 3]? = some (.bool (F i).2.2)) ∧
 (∀ i, i < n → ∃ D, w.heap[pr i]? = some (.cells D 127 (0, 0)) ∧ 12 ≤ D.size ∧ ∀ j, j < 12 → D[j]? = some (G i j))
theorem ChipR.step {w w' : World} {r g c k : Nat} {C C' D : Array Value} {pr pc : Nat → Nat} {F : Nat → Int × Int × Bool} {G : Nat → Nat → Value} (h : ChipR w r C pr pc k F G) (hr : w'.heap[r]? = some (.cells C' 96 (0, 0))) (hk : ∀ i, i < k → w'.heap[pr i]? = w.heap[pr i]?)
  (ho : ∀ j, j < 4 * k → C'[j]? = C[j]?) (h0 : C'[k * 4]? = some (.slice (some ⟨g, 0, none⟩) 6 c)) (h1 : C'[k * 4 + 1]? = some (.int .i64 (F k).1)) (h2 : C'[k * 4 + 2]? = some (.int .i64 (F k).2.1)) (h3 : C'[k * 4 + 3]? = some (.bool (F k).2.2)) (hg : w'.heap[g]? = some (.cells D 127 (0, 0))) (hD : 12 ≤ D.size) (hG : ∀ j, j < 12 → D[j]? = some (G k j)) :
  ChipR w' r C' (upd pr k g) (upd pc k c) (k + 1) F G := by
 refine ⟨hr, fun i hi => ?_, fun i hi => ?_⟩
 ·by_cases e : i = k
  ·subst e; rw [upd_same, upd_same]; exact ⟨h0, h1, h2, h3⟩
  ·have hi' : i < k := by omega
   rw [upd_other _ _ _ _ e, upd_other _ _ _ _ e, ho _ (by omega), ho _ (by omega), ho _ (by omega), ho _ (by omega)]
   exact h.2.1 i hi'
 ·by_cases e : i = k
  ·subst e; rw [upd_same]; exact ⟨D, hg, hD, hG⟩
  ·rw [upd_other _ _ _ _ e, hk i (by omega)]; exact h.2.2 i (by omega)
def Apart (pr : Nat → Nat) (n : Nat) : Prop := ∀ i j, i < n → j < n → i ≠ j → pr i ≠ pr j
theorem Apart.step {pr : Nat → Nat} {k g : Nat} (h : Apart pr k) (hg : ∀ i, i < k → pr i < g) : Apart (upd pr k g) (k + 1) := by
 intro i j hi hj hij
 by_cases e : i = k
 ·subst e
  rw [upd_same, upd_other _ _ _ _ (Ne.symm hij)]
  have := hg j (by omega); omega
 ·rw [upd_other _ _ _ _ e]
  by_cases e2 : j = k
  ·subst e2; rw [upd_same]; have := hg i (by omega); omega
  ·rw [upd_other _ _ _ _ e2]; exact h i j (by omega) (by omega) hij
end Go.Proofs.Ytffalemndjampaa
end
