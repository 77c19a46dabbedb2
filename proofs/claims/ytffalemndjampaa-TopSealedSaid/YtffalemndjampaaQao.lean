/- What the proof of TopSealed leans on: Te Tf. -/
import Derived.Test.YtffalemndjampaaQan
import Derived.Test.YtffalemndjampaaQab
import Derived.Test.YtffalemndjampaaQac
import Derived.Test.YtffalemndjampaaQad
import Derived.Test.YtffalemndjampaaQam
import Derived.Deep.AppendSrc
import Derived.Deep.AppendLies
import Derived.Laws.Cover3
section
set_option linter.unusedVariables false
set_option linter.unusedSimpArgs false
namespace Go.Proofs.Ytffalemndjampaa
open Go.RowKit Go.Proofs.YtffalemndjampaaW.PrintWords Go.Proofs.YtffalemndjampaaW.PrintLast
section
variable {P : Program} {ops : Array Oper} {Q : Exit → Act → World → Prop}
theorem app_ {oi : Oper} {N : Option Tmp} {a : Act} {w w1 : World} {v v0 v1 : Value} {s x : Operand} {t tx ty : TypeId} {K : Act → World → Prop} (hw : Region.wanted oi (yielded ops a.tmps) = true) (hN : oi.dst = N)
  (hop : oi.op = .call { callee := .builtin .append, args := #[s, x], argTypes := #[t, tx] }) (hty : oi.type = ty) (hs : a.eval s = v0) (hx : a.eval x = v1)
  (hrun : (Builtin.append_ #[t, tx] ty #[v0, v1]).run P w = .ok v w1) (h : K (a.put N v) w1) : if Region.wanted oi (yielded ops a.tmps) = true then Oper.wp P oi a w K Q else K (a.put N undef) w := by
 refine value_ (w1 := w1) (v := v) hw hN ?_ h
 subst hty
 unfold execOp
 simp only [hop, resolve, invoke, builtin, Sem.run_bind, Sem.run_pure, Result.andThen_ok, List.map_toArray, List.map_cons, List.map_nil, hs, hx, hrun]
end
theorem int_src {w : World} {A : Addr} {n c : Nat} {xs : List Int} (h : ReadsInt w .u8 (some A) n xs) : Src Try.prog 1 27 (.slice (some A) n c) n (nums .u8 xs) w := by
 have hl : (nums .u8 xs).length = n * 1 := by simp [nums, h.1]
 have h1 : ∀ u ∈ nums .u8 xs, u.oneCell' = true := fun u hu => by
  obtain ⟨x, _, rfl⟩ := List.mem_map.1 hu
  rfl
 refine Src.ofSlice w Try.underlying27 A n c _ hl (fun j u hu => ?_) h1
 simp only [nums, List.getElem?_map] at hu
 obtain ⟨x, hx, rfl⟩ := Option.map_eq_some_iff.1 hu
 have hj : j < xs.length := (List.getElem?_eq_some_iff.1 hx).1
 obtain ⟨ad', e, hc⟩ := h.at_ (j : Int) (by omega) (by have := h.1; omega)
 obtain rfl := Option.some.inj e
 rw [Int.toNat_natCast, rd_getD, List.getD_eq_getElem?_getD, hx] at hc
 exact hc
theorem eq_nil8 (A : Option Addr) (n c : Nat) (W : World) : (binOp .eql 27 (.slice A n c) (.slice none 0 0)).run Try.prog W = .ok (.bool A.isNone) W := by
 simp only [binOp]
 simp [run_equal_slice_nil W _ _ A n c Try.underlying27]
theorem appB {w : World} {A : Addr} {n d : Nat} {xs : List Int} (hr : ReadsInt w .u8 (some A) n xs) (h0 : 0 < n) (hl : n ≤ 1000) :
  ∃ c1 w1, (Builtin.append_ #[27, 27] 27 #[.slice none 0 0, .slice (some A) n d]).run Try.prog w = .ok (.slice (some ⟨w.heap.size, 0, none⟩) n c1) w1 ∧ Below w.heap.size w w1 ∧ ReadsInt w1 .u8 (some ⟨w.heap.size, 0, none⟩) n xs ∧ n ≤ c1 := by
 obtain ⟨i0, hi, hzz⟩ := Option.map_eq_some_iff.1 info5'
 simp only [Prod.mk.injEq] at hzz
 obtain ⟨hz0, hz1, hz2⟩ := hzz
 have hold : (Builtin.firstCells i0.size 0 (.slice none 0 0)).run Try.prog w.drew = .ok ([] : List Value).toArray w.drew := by rfl
 have h_ := growslice_fits (need := 0 + n) (old := 0) (bytes := 1) (by omega) (by omega)
 have hrun := run_append_grow_src (P := Try.prog) w 27 27 27 5 i0 (.int .u8 0) Try.underlying27 hi hz0 none 0 0 [] hold (.slice (some A) n d) n (nums .u8 xs) (by rw [hz1]; exact int_src hr) (by omega) (by omega) (by rw [hz2]; exact h_)
 rw [Nat.zero_add] at hrun
 have hge := grownCap_ge w n 0 5
 have hcm : grownCap w n 0 5 ≤ maxLen := grownCap_le_maxLen w n 0 5 (by simp only [maxLen]; omega)
 refine ⟨_, _, hrun, below_alloc (below_drew (Below.refl _ _)) _, ?_, hge⟩
 have hln : (nums .u8 xs).length = n := by simp [nums, hr.1]
 have ho : (w.drew.alloc (.cells (([] ++ nums .u8 xs).toArray ++ Builtin.zeroCells (Value.int .u8 0).cells (grownCap w n 0 5 - n)) 5)).ownsRow w.heap.size 5 1 (.slice (some ⟨w.heap.size, 0, none⟩) n (grownCap w n 0 5)) n (nums .u8 xs) := by
  refine ⟨by simp [hln], .inr ⟨w.heap.size, _, _, rfl, Nat.le_refl _, heap_alloc_new w.drew _, hge, hcm, ?_, ?_⟩⟩
  ·simp only [Array.size_append, size_zeroCells, List.size_toArray, List.nil_append, hln]
   simp [Value.cells]
   omega
  ·rw [Array.toList_append, Nat.mul_one, List.nil_append]
   conv => lhs; rw [← hln]
   exact List.take_left
 exact own_reads' ho
set_option maxHeartbeats 4000000 in
set_option maxRecDepth 100000 in
theorem full_any (n : Nat) (w : World) (hn : n ≤ 1000) :
  Calls Try.prog 58 #[.int .i64 (n : Int)] w fun e w' => ∃ g, e = .returned (.slice (some ⟨g, 0, none⟩) n n) ∧ w.heap.size ≤ g ∧ Below w.heap.size w w' ∧ ReadsInt w' .u8 (some ⟨g, 0, none⟩) n (List.replicate n 255) := by
 have hmk := print_make (P := Try.prog) 27 5 .u8 1 Try.underlying27 info5' (by decide) n (by omega)
 have ho0 := own_made w w.heap.size 5 .u8 n (Nat.le_refl _) (by omega)
 have hb0 : Below w.heap.size w (w.alloc (.cells (madeCells #[.int .u8 0] n) 5)) := bl_alloc (Below.refl _ _) _
 have HZ := Lib.hid (And.intro ho0 hb0)
 clear ho0 hb0
 go_enter Try.func58, Try.ntmps58
 go_wp2_with fail
 obtain ⟨g, hg⟩ : ∃ g, w.heap.size = g := ⟨_, rfl⟩
 have HG := Lib.hid hg
 obtain ⟨W1, hW1⟩ : ∃ W1, w.alloc (.cells (madeCells #[.int .u8 0] n) 5) = W1 := ⟨_, rfl⟩
 rw [hW1] at HZ ⊢
 rw [hg] at HZ
 try rw [hg]
 clear hW1 hg hmk
 go_loopw [9] (fun i wr => ∃ j : Nat, j ≤ n ∧ i = .int .i64 (j : Int) ∧ Hid (wr.ownsRow g 5 1 (.slice (some ⟨g, 0, none⟩) n n) n (nums .u8 (List.replicate j 255 ++ List.replicate (n - j) 0)) ∧ Below g w wr)) (fun i _ => n - (intOf i).toNat)
 case atStart => exact ⟨0, Nat.zero_le _, rfl, Lib.hid ⟨by simpa using HZ.out.1, HZ.out.2⟩⟩
 case round =>
  obtain ⟨j, hj, rfl, HS⟩ := hrel
  by_cases hlt : j < n
  ·have hst := (own_store HS.out.1 (j : Int) 255).1
   obtain ⟨hg1, hg2⟩ := own_at HS.out.1 (j : Int) (by omega) (by omega)
   rw [Int.toNat_natCast] at hst hg1 hg2
   have hset : (List.replicate j (255 : Int) ++ List.replicate (n - j) 0).set j 255 = List.replicate (j + 1) 255 ++ List.replicate (n - (j + 1)) 0 := by
    have h1 : n - j = (n - (j + 1)) + 1 := by omega
    rw [h1, List.replicate_succ, List.set_append_right _ _ (by simp), List.replicate_succ']
    simp
   rw [hset] at hst
   have HN := Lib.hid (And.intro hst (HS.out.2.setCell (p := ⟨g, j, none⟩) (Nat.le_refl _) (.int .u8 255)))
   have hltI : (j : Int) < (n : Int) := by omega
   clear hst hset
   go_wp2_with fail
   go_roundw
   case rel => exact ⟨j + 1, by omega, by go_num, HN⟩
   case measure => simp [intOf]; omega
  ·obtain rfl : j = n := by omega
   have hr := own_reads' HS.out.1
   rw [Nat.sub_self, List.replicate_zero, List.append_nil] at hr
   have HR := Lib.hid hr
   clear hr
   go_wp2_with fail
   go_ret
   exact ⟨g, rfl, by rw [HG.out]; exact Nat.le_refl _, by rw [HG.out]; exact HS.out.2, HR.out⟩
def TeR.T12 : Bool × List (List Nat × List Nat) := (true, [([], []), ([0], [0]), ([1], [1]), ([], []), ([3], [3]), ([4, 2], [4]), ([2, 5, 0, 1, 2], [2]), ([5, 6, 0, 1, 2, 3, 4, 5, 6], [5]), ([7, 0, 1, 2, 3, 4, 5, 6, 7], [])])
def TeR.B12 : List Nat := [0, 1, 3, 0, 8, 31, 63, 127, 255]
theorem TeR.tab12 : rtab .any (opsOf Try.f46 12) = TeR.T12 := by kernel_rfl
theorem TeR.bits12 : waitsOk TeR.T12.2 TeR.B12 = true := by kernel_rfl
def pgD (x : Option (List Int × List Int)) : List Int × List Int := x.getD (List.replicate 256 255, List.replicate 64 255)
def St.kind (a : Ar) (s : St) : Int := evK (evFind a.evs (s.ops + 1))
def readS (a : Ar) (s : St) : St × Int :=
 if s.off = true then (s, 72) else if s.kind a = 2 then ({ s with ops := s.ops + 1, off := true }, 72) else ({ s with ops := s.ops + 1 }, 0)
def ReadQ (w : World) (a : Ar) (ok : Nat → Prop) (s : St) (x : Option (List Int × List Int)) (e : Ending) (w' : World) : Prop :=
 ∃ dv ov, e = .returned (.tuple #[dv, ov, .int .i64 (readS a s).2]) ∧ Arr w' a ok (readS a s).1 ∧ Mods a.M w w' ∧ ((readS a s).2 = 0 → ∃ A c B c', dv = .slice (some A) 256 c ∧ ov = .slice (some B) 64 c' ∧ 256 ≤ c ∧ 64 ≤ c' ∧
  ReadsInt w' .u8 (some A) 256 (pgD x).1 ∧ ReadsInt w' .u8 (some B) 64 (pgD x).2 ∧ w.heap.size ≤ A.block ∧ w.heap.size ≤ B.block)
theorem Arr.bk {w : World} {a : Ar} {ok : Nat → Prop} {s : St} (h : Arr w a ok s) (i : Nat) (hi : i < 16) :
  w.cell? ⟨a.r, i * 4, none⟩ = some (.slice (some ⟨a.pr i, 0, none⟩) 6 (a.pc i)) ∧ w.cell? ⟨a.r, i * 4 + 1, none⟩ = some (.int .i64 ((s.bl i).nx : Int)) ∧ (∃ er, w.cell? ⟨a.r, i * 4 + 2, none⟩ = some (.int .i64 er)) ∧ w.cell? ⟨a.r, i * 4 + 3, none⟩ = some (.bool (s.bl i).bad) ∧ (∀ o, w.frozen? ⟨a.r, o, none⟩ = false) := by
 obtain ⟨C, hC, hB⟩ := h.2.2.2.2.2.1
 obtain ⟨g1, g2, ⟨er, g3⟩, g4⟩ := hB i hi
 exact ⟨(blk_cell hC _).trans g1, (blk_cell hC _).trans g2, ⟨er, (blk_cell hC _).trans g3⟩, (blk_cell hC _).trans g4, fun o => blk_frozen hC o⟩
theorem Arr.pg {w : World} {a : Ar} {ok : Nat → Prop} {s : St} (h : Arr w a ok s) (i p : Nat) (hi : i < 16) (hp : p < 6) :
  ((s.bl i).pg p = none ∧ w.cell? ⟨a.pr i, p * 2, none⟩ = some (.slice none 0 0) ∧ w.cell? ⟨a.pr i, p * 2 + 1, none⟩ = some (.slice none 0 0)) ∨
  ∃ x A c B c', (s.bl i).pg p = some x ∧ w.cell? ⟨a.pr i, p * 2, none⟩ = some (.slice (some A) 256 c) ∧ w.cell? ⟨a.pr i, p * 2 + 1, none⟩ = some (.slice (some B) 64 c') ∧ 256 ≤ c ∧ 64 ≤ c' ∧ ReadsInt w .u8 (some A) 256 x.1 ∧ ReadsInt w .u8 (some B) 64 x.2 ∧ ok A.block ∧ ok B.block ∧ Byt x.1 ∧ Byt x.2 := by
 obtain ⟨D, hD, _, hg⟩ := h.2.2.2.2.2.2 i hi
 have h_ := hg p hp
 cases hx : (s.bl i).pg p with
 | none => rw [hx] at h_; exact .inl ⟨rfl, (blk_cell hD _).trans h_.1, (blk_cell hD _).trans h_.2⟩
 | some x =>
  rw [hx] at h_
  obtain ⟨A, c, B, c', g1, g2, g3⟩ := h_
  exact .inr ⟨x, A, c, B, c', rfl, (blk_cell hD _).trans g1, (blk_cell hD _).trans g2, g3⟩
theorem kind_none {a : Ar} {s : St} (h : evFind a.evs (s.ops + 1) = none) : s.kind a = 0 := by rw [St.kind, h]; rfl
theorem kind_some {a : Ar} {s : St} {x : Ev0} (h : evFind a.evs (s.ops + 1) = some x) : s.kind a = x.2 := by rw [St.kind, h]; rfl
theorem readS_on {a : Ar} {s : St} (h : s.off = false) (hk : s.kind a ≠ 2) : readS a s = ({ s with ops := s.ops + 1, off := false }, 0) := by
 rw [readS, if_neg (by rw [h]; decide), if_neg hk]; cases s; simp_all
theorem readS_crash {a : Ar} {s : St} (h : s.off = false) (hk : s.kind a = 2) : readS a s = ({ s with ops := s.ops + 1, off := true }, 72) := by
 rw [readS, if_neg (by rw [h]; decide), if_pos hk]
theorem readS_off {a : Ar} {s : St} (h : s.off = true) : readS a s = (s, 72) := by rw [readS, if_pos h]
set_option maxHeartbeats 8000000 in
set_option maxRecDepth 100000 in
theorem nread_any (a : Ar) (ok : Nat → Prop) (s : St) (b p : Nat) (w : World) (hf : a.Fix) (hok : ∀ k, ok k → ¬ a.M k) (h : Arr w a ok s) (hb : b < 16) (hp : p < 6) (h0 : 0 ≤ s.ops) (h1 : s.ops ≤ 1000000) :
  Calls Try.prog 46 #[.pointer (some ⟨a.p, 0, none⟩), .int .i64 0, .int .i64 (b : Int), .int .i64 (p : Int)] w (ReadQ w a ok s ((s.bl b).pg p)) := by
 cases hoff : s.off with
 | true =>
  have hq := readS_off (a := a) hoff
  have hp1 := h.1
  rw [hoff] at hp1
  have HA := Lib.hid h
  have HB := Lib.hid (begin_off a.p b _ _ _ s.ops w hp1)
  clear h hp1 hf hok
  go_enter Try.func46, Try.ntmps46
  go_wp2_with fail
  refine HB.out.mono ?_
  rintro e w1 ⟨rfl, hb1⟩
  have HB1 := Lib.hid hb1
  clear hb1
  simp only [evC]
  go_wp2_with fail
  go_ret3
  refine ⟨.slice none 0 0, .slice none 0 0, by rw [hq]; rfl, by rw [hq]; exact HA.out.below (bl_seq HB1.out (bl_alloc (Below.refl _ _) _)), Mods.of_below (bl_seq HB1.out (bl_alloc (Below.refl _ _) _)), fun e => by rw [hq] at e; simp at e⟩
 | false =>
  have hp1 := h.1
  rw [hoff] at hp1
  have hbg := begin_on a.p a.q a.dq a.r b a.qc a.dc a.rc a.EA a.n a.ec a.LA a.ln a.lc a.evs s.ops w hp1 h.2.1 h.2.2.1 (fun e => hf.q_M (.inl e)) (fun e => hf.d_M (.inl e)) (fun x hx e => hf.e_M x hx (.inl e)) h.2.2.2.1 hf.ev hf.n_le hb h0 h1
  have HBG := Lib.hid hbg
  have HA := Lib.hid h
  have HF := Lib.hid (And.intro hf hok)
  have HO := Lib.hid hoff
  clear h hp1 hbg hf hok hoff
  go_enter Try.func46, Try.ntmps46
  go_wp2_with fail
  refine HBG.out.mono ?_
  rintro e w1 ⟨rfl, hp1, hm1⟩
  have HM1 := Lib.hid (head_M hm1)
  have HA1 := Lib.hid (HA.out.head HF.out.1 HF.out.2 hm1 (s.ops + 1) false hp1)
  clear hp1 hm1 HBG
  cases hfd : evFind a.evs (s.ops + 1) with
  | none =>
   have HQ := Lib.hid (readS_on HO.out (by rw [kind_none hfd]; decide))
   clear hfd
   simp only [evC]
   have al2 : ∀ o1 o2, Below w1.heap.size w1 ((w1.alloc o1).alloc o2) := fun o1 o2 => bl_alloc (bl_alloc (Below.refl _ _) o1) o2
   have y2 : ∀ o, (w1.alloc o).cell? ⟨a.p, 2, none⟩ = some (.int .i64 6) := fun o => pw_cell_below (bl_alloc (Below.refl _ _) o) (arr_cells HA1.out.1).2.2.1
   have y3 : ∀ o1 o2, ((w1.alloc o1).alloc o2).cell? ⟨a.p, 3, none⟩ = some (.int .i64 256) := fun o1 o2 => pw_cell_below (al2 o1 o2) (arr_cells HA1.out.1).2.2.2.1
   have yr : ∀ o, (w1.alloc o).cell? ⟨a.r, b * 4, none⟩ = some (.slice (some ⟨a.pr b, 0, none⟩) 6 (a.pc b)) := fun o => pw_cell_below (bl_alloc (Below.refl _ _) o) (HA1.out.bk b hb).1
   have p1 : decide ((p : Int) < 0) = false := decide_eq_false (by omega)
   have p2 : decide ((6 : Int) ≤ (p : Int)) = false := decide_eq_false (by omega)
   have p3 : decide (6 ≤ p) = false := decide_eq_false (by omega)
   have p4 : (p : Int) < 6 := by omega
   rcases HA1.out.pg b p hb hp with ⟨hx, c0, c1⟩ | ⟨x, A, cA, B, cB, hx, c0, c1, hA, hB, hD, hOo, -⟩
   ·have z0 : ∀ o, (w1.alloc o).cell? ⟨a.pr b, p * 2, none⟩ = some (.slice none 0 0) := fun o => pw_cell_below (bl_alloc (Below.refl _ _) o) c0
    have z1 : ∀ o, (w1.alloc o).cell? ⟨a.pr b, p * 2 + 1, none⟩ = some (.slice none 0 0) := fun o => pw_cell_below (bl_alloc (Below.refl _ _) o) c1
    have HX := Lib.hid (show (s.bl b).pg p = none from hx)
    have hnl := eq_nil8 none 0 0
    simp only [Option.isNone_none] at hnl
    clear hx c0 c1 al2
    go_wp2_with fail
    obtain ⟨W2, hW2⟩ : ∃ W2, (w1.alloc (.cells #[.int .i64 0, .int .i64 0, .int .i64 0, .slice none 0 0] 59)).alloc (.cells #[.slice none 0 0, .slice none 0 0] 127) = W2 := ⟨_, rfl⟩
    have hbl : Below w1.heap.size w1 W2 := by rw [← hW2]; exact bl_alloc (bl_alloc (Below.refl _ _) _) _
    rw [hW2]
    have HB2 := Lib.hid hbl
    have f256 := full_any 256 W2 (by omega)
    clear hW2 hbl
    refine f256.mono ?_
    rintro e w3 ⟨g1, rfl, hg1, hb3, hr3⟩
    have HB3 := Lib.hid (bl_seq HB2.out hb3)
    have HR3 := Lib.hid (And.intro hr3 (show w1.heap.size ≤ g1 from Nat.le_trans HB2.out.size hg1))
    clear hb3 hr3 hg1
    have f64 := full_any 64 w3 (by omega)
    go_wp2_with fail
    refine f64.mono ?_
    rintro e w4 ⟨g2, rfl, hg2, hb4, hr4⟩
    have HB4 := Lib.hid (bl_seq HB3.out hb4)
    have HR4 := Lib.hid (And.intro hr4 (And.intro (show w1.heap.size ≤ g2 from Nat.le_trans HB3.out.size hg2) (HR3.out.1.below hb4)))
    clear hb4 hr4 hg2 f256 f64
    go_wp2_with fail
    go_ret3
    refine ⟨_, _, by rw [HQ.out]; rfl, by rw [HQ.out]; exact HA1.out.below HB4.out, HM1.out.trans (Mods.of_below HB4.out), fun _ => ⟨_, _, _, _, rfl, rfl, by decide, by decide, ?_, ?_, Nat.le_trans HM1.out.size HR3.out.2, Nat.le_trans HM1.out.size HR4.out.2.1⟩⟩
    ·rw [HX.out]; exact HR4.out.2.2
    ·rw [HX.out]; exact HR4.out.1
   ·have z0 : ∀ o, (w1.alloc o).cell? ⟨a.pr b, p * 2, none⟩ = some (.slice (some A) 256 cA) := fun o => pw_cell_below (bl_alloc (Below.refl _ _) o) c0
    have z1 : ∀ o, (w1.alloc o).cell? ⟨a.pr b, p * 2 + 1, none⟩ = some (.slice (some B) 64 cB) := fun o => pw_cell_below (bl_alloc (Below.refl _ _) o) c1
    obtain ⟨d, o⟩ := x
    simp only at hD hOo
    have HX := Lib.hid (show (s.bl b).pg p = some (d, o) from hx)
    have hnl := eq_nil8 (some A) 256 cA
    simp only [Option.isNone_some] at hnl
    have HD1 := Lib.hid hD
    have HO1 := Lib.hid hOo
    clear hx c0 c1 hD hOo
    go_wp2_with fail
    obtain ⟨wi, hwi⟩ : ∃ wi, (w1.alloc (.cells #[.int .i64 0, .int .i64 0, .int .i64 0, .slice none 0 0] 59)).alloc (.cells #[.slice (some A) 256 cA, .slice (some B) 64 cB] 127) = wi := ⟨_, rfl⟩
    have hbl : Below w1.heap.size w1 wi := by rw [← hwi]; exact al2 _ _
    have hgi : wi.heap[w1.heap.size + 1]? = some (.cells #[.slice (some A) 256 cA, .slice (some B) 64 cB] 127 (0, 0)) := by
     rw [← hwi]
     have h_ := heap_alloc_new (w1.alloc (.cells #[.int .i64 0, .int .i64 0, .int .i64 0, .slice none 0 0] 59)) (.cells #[.slice (some A) 256 cA, .slice (some B) 64 cB] 127)
     simpa using h_
    rw [hwi]
    obtain ⟨g, hg⟩ : ∃ g, w1.heap.size + 1 = g := ⟨_, rfl⟩
    try rw [hg]
    rw [hg] at hgi
    have HGi := Lib.hid hgi
    have HBi := Lib.hid hbl
    have HDi := Lib.hid (HD1.out.below hbl)
    have HOi := Lib.hid (HO1.out.below hbl)
    clear hwi hbl hgi hg al2 y2 y3 yr z0 z1 HD1 HO1
    refine start_ (n := 9) (S := fun w' => True) (ds := []) _ (by kernel_rfl) rfl rfl trivial (fun hHeld => ?_)
    refine with_tabW TeR.tab12 TeR.bits12 (fun HT_ HW_ => ?_)
    have HGz := Lib.hid (show wi.drew.heap[g]? = _ from HGi.out)
    have HDz := Lib.hid ((HDi.out).below (bl_drew (Below.refl _ _)))
    have HOz := Lib.hid ((HOi.out).below (bl_drew (Below.refl _ _)))
    have DZ := Lib.hid (fun W (h_ : Below wi.drew.heap.size wi.drew W) => (⟨h_.os, h_.tape, h_.output, h_.size, h_.block⟩ : Below wi.heap.size wi W))
    have SZ := Lib.hid (show wi.heap.size = wi.drew.heap.size from rfl)
    generalize wi.drew = wz at HGz HDz HOz DZ SZ hHeld ⊢
    have BB := Lib.hid (Below.refl wz.heap.size wz)
    refine inv_at [0, 1, 2, 3, 4, 5, 6, 7, 8] (fun a0_ b a w' => ∃ (x0 : Nat) (y0 : Nat) (x1 : Nat) (y1 : Nat) (m2_ : Value) (m5_ : Value) (m6_ : Value) (m7_ : Value), a = putSel a0_ b [(0, 62, .pointer (some ⟨g, 0, none⟩)), (1, 63, .slice (some A) 256 cA), (2, 64, m2_), (3, 65, .pointer (some ⟨g, 1, none⟩)), (4, 66, .slice (some B) 64 cB), (5, 67, m5_), (6, 8, m6_), (7, 9, m7_), (8, 10, .int .i64 0)] ∧ (Below wz.heap.size wz w') ∧ (b 2 = true → ReadsInt w' .u8 (some ⟨x0, 0, none⟩) 256 d ∧ wz.heap.size ≤ x0 ∧ 256 ≤ y0) ∧ (b 5 = true → ReadsInt w' .u8 (some ⟨x1, 0, none⟩) 64 o ∧ wz.heap.size ≤ x1 ∧ 64 ≤ y1) ∧ (b 2 = true → (m2_ : Value) = .slice (some ⟨x0, 0, none⟩) 256 y0) ∧ (b 5 = true → (m5_ : Value) = .slice (some ⟨x1, 0, none⟩) 64 y1) ∧ (b 6 = true → (m6_ : Value) = .slice (some ⟨x0, 0, none⟩) 256 y0) ∧ (b 7 = true → (m7_ : Value) = .slice (some ⟨x1, 0, none⟩) 64 y1)) HT_.out HW_.out (by kernel_rfl) (by kernel_rfl) ?_ ?_ ?_
    ·exact ⟨0, 0, 0, 0, .bool false, .bool false, .bool false, .bool false, by simp only [putSel, Bool.false_eq_true, if_false], BB.out, fun h_ => absurd h_ (by decide), fun h_ => absurd h_ (by decide), fun h_ => absurd h_ (by decide), fun h_ => absurd h_ (by decide), fun h_ => absurd h_ (by decide), fun h_ => absurd h_ (by decide)⟩
    ·skip
     clear BB
     refine steps_cons ?_ ?_
     ·rintro b a w' ⟨x0, y0, x1, y1, m2_, m5_, m6_, m7_, ha, Q_BB, Q_RA, Q_RB, Q_X2_, Q_X5_, Q_X6_, Q_X7_⟩ hb_ hon hoff
      refine ⟨_, rfl, fun K hK => ?_⟩
      have e13 : a.tmps[13]? = some (.pointer (some ⟨g, 0, none⟩)) := by rw [ha]; exact (putSel_off rfl).trans rfl
      replace ha := Aside0.mk ha
      have BB := Aside0.mk Q_BB
      refine value_ (w1 := w') (v := .pointer (some ⟨g, 0, none⟩)) (by rfl) rfl ?_ ?_
      ·go_simp
       (try simp only [i64_w])
       try rfl
      refine hK.out _ _ ⟨x0, y0, x1, y1, m2_, m5_, m6_, m7_, (ptup_ ha.out 0 hb_ rfl rfl rfl), Q_BB, off_ (hoff 2 (by kernel_rfl)), off_ (hoff 5 (by kernel_rfl)), off_ (hoff 2 (by kernel_rfl)), off_ (hoff 5 (by kernel_rfl)), off_ (hoff 6 (by kernel_rfl)), off_ (hoff 7 (by kernel_rfl))⟩
     refine steps_cons ?_ ?_
     ·rintro b a w' ⟨x0, y0, x1, y1, m2_, m5_, m6_, m7_, ha, Q_BB, Q_RA, Q_RB, Q_X2_, Q_X5_, Q_X6_, Q_X7_⟩ hb_ hon hoff
      refine ⟨_, rfl, fun K hK => ?_⟩
      have e62 : a.tmps[62]? = some (.pointer (some ⟨g, 0, none⟩)) := pton_ ha 0 rfl rfl (hon 0 (by kernel_rfl)) rfl
      replace ha := Aside0.mk ha
      have BB := Aside0.mk Q_BB
      have hc_ : w'.cell? ⟨g, 0, none⟩ = some (.slice (some A) 256 cA) := (blk_cell (blk_below HGz.out BB.out) 0).trans rfl
      refine value_ (w1 := w') (v := .slice (some A) 256 cA) (by rfl) rfl ?_ ?_
      ·go_simp
       (try simp only [i64_w])
       try rfl
      refine hK.out _ _ ⟨x0, y0, x1, y1, m2_, m5_, m6_, m7_, (ptup_ ha.out 1 hb_ rfl rfl rfl), Q_BB, off_ (hoff 2 (by kernel_rfl)), off_ (hoff 5 (by kernel_rfl)), off_ (hoff 2 (by kernel_rfl)), off_ (hoff 5 (by kernel_rfl)), off_ (hoff 6 (by kernel_rfl)), off_ (hoff 7 (by kernel_rfl))⟩
     refine steps_cons ?_ ?_
     ·rintro b a w' ⟨x0, y0, x1, y1, m2_, m5_, m6_, m7_, ha, Q_BB, Q_RA, Q_RB, Q_X2_, Q_X5_, Q_X6_, Q_X7_⟩ hb_ hon hoff
      refine ⟨_, rfl, fun K hK => ?_⟩
      have e63 : a.tmps[63]? = some (.slice (some A) 256 cA) := pton_ ha 1 rfl rfl (hon 1 (by kernel_rfl)) rfl
      replace ha := Aside0.mk ha
      have BB := Aside0.mk Q_BB
      obtain ⟨c43, w1, hr43, hb43, ho43, hc43⟩ := appB (d := cA) (HDz.out.below BB.out) (by decide) (by decide)
      have hx43 : wz.heap.size ≤ w'.heap.size := BB.out.size
      refine app_ (by rfl) rfl rfl rfl (by rfl) (eval_of e63) hr43 ?_
      refine hK.out _ _ ⟨w'.heap.size, c43, x1, y1, (.slice (some ⟨w'.heap.size, 0, none⟩) 256 c43), m5_, m6_, m7_, (ptup_ ha.out 2 hb_ rfl rfl rfl), bl_seq BB.out hb43, fun _ => ⟨ho43, hx43, hc43⟩, off_ (hoff 5 (by kernel_rfl)), fun _ => rfl, off_ (hoff 5 (by kernel_rfl)), off_ (hoff 6 (by kernel_rfl)), off_ (hoff 7 (by kernel_rfl))⟩
     refine steps_cons ?_ ?_
     ·rintro b a w' ⟨x0, y0, x1, y1, m2_, m5_, m6_, m7_, ha, Q_BB, Q_RA, Q_RB, Q_X2_, Q_X5_, Q_X6_, Q_X7_⟩ hb_ hon hoff
      refine ⟨_, rfl, fun K hK => ?_⟩
      have e13 : a.tmps[13]? = some (.pointer (some ⟨g, 0, none⟩)) := by rw [ha]; exact (putSel_off rfl).trans rfl
      replace ha := Aside0.mk ha
      have BB := Aside0.mk Q_BB
      refine value_ (w1 := w') (v := .pointer (some ⟨g, 1, none⟩)) (by rfl) rfl ?_ ?_
      ·go_simp
       (try simp only [i64_w])
       try rfl
      refine hK.out _ _ ⟨x0, y0, x1, y1, m2_, m5_, m6_, m7_, (ptup_ ha.out 3 hb_ rfl rfl rfl), Q_BB, Q_RA, off_ (hoff 5 (by kernel_rfl)), Q_X2_, off_ (hoff 5 (by kernel_rfl)), off_ (hoff 6 (by kernel_rfl)), off_ (hoff 7 (by kernel_rfl))⟩
     refine steps_cons ?_ ?_
     ·rintro b a w' ⟨x0, y0, x1, y1, m2_, m5_, m6_, m7_, ha, Q_BB, Q_RA, Q_RB, Q_X2_, Q_X5_, Q_X6_, Q_X7_⟩ hb_ hon hoff
      refine ⟨_, rfl, fun K hK => ?_⟩
      have e65 : a.tmps[65]? = some (.pointer (some ⟨g, 1, none⟩)) := pton_ ha 3 rfl rfl (hon 3 (by kernel_rfl)) rfl
      replace ha := Aside0.mk ha
      have BB := Aside0.mk Q_BB
      have hc_ : w'.cell? ⟨g, 1, none⟩ = some (.slice (some B) 64 cB) := (blk_cell (blk_below HGz.out BB.out) 1).trans rfl
      refine value_ (w1 := w') (v := .slice (some B) 64 cB) (by rfl) rfl ?_ ?_
      ·go_simp
       (try simp only [i64_w])
       try rfl
      refine hK.out _ _ ⟨x0, y0, x1, y1, m2_, m5_, m6_, m7_, (ptup_ ha.out 4 hb_ rfl rfl rfl), Q_BB, Q_RA, off_ (hoff 5 (by kernel_rfl)), Q_X2_, off_ (hoff 5 (by kernel_rfl)), off_ (hoff 6 (by kernel_rfl)), off_ (hoff 7 (by kernel_rfl))⟩
     refine steps_cons ?_ ?_
     ·rintro b a w' ⟨x0, y0, x1, y1, m2_, m5_, m6_, m7_, ha, Q_BB, Q_RA, Q_RB, Q_X2_, Q_X5_, Q_X6_, Q_X7_⟩ hb_ hon hoff
      refine ⟨_, rfl, fun K hK => ?_⟩
      have e66 : a.tmps[66]? = some (.slice (some B) 64 cB) := pton_ ha 4 rfl rfl (hon 4 (by kernel_rfl)) rfl
      replace ha := Aside0.mk ha
      have BB := Aside0.mk Q_BB
      have RA := Aside0.mk (Q_RA (hon 2 (by kernel_rfl)))
      obtain ⟨c43, w1, hr43, hb43, ho43, hc43⟩ := appB (d := cB) (HOz.out.below BB.out) (by decide) (by decide)
      have hx43 : wz.heap.size ≤ w'.heap.size := BB.out.size
      refine app_ (by rfl) rfl rfl rfl (by rfl) (eval_of e66) hr43 ?_
      refine hK.out _ _ ⟨x0, y0, w'.heap.size, c43, m2_, (.slice (some ⟨w'.heap.size, 0, none⟩) 64 c43), m6_, m7_, (ptup_ ha.out 5 hb_ rfl rfl rfl), bl_seq BB.out hb43, fun _ => ⟨RA.out.1.below hb43, RA.out.2⟩, fun _ => ⟨ho43, hx43, hc43⟩, Q_X2_, fun _ => rfl, off_ (hoff 6 (by kernel_rfl)), off_ (hoff 7 (by kernel_rfl))⟩
     refine steps_cons ?_ ?_
     ·rintro b a w' ⟨x0, y0, x1, y1, m2_, m5_, m6_, m7_, ha, Q_BB, Q_RA, Q_RB, Q_X2_, Q_X5_, Q_X6_, Q_X7_⟩ hb_ hon hoff
      refine ⟨_, rfl, fun K hK => ?_⟩
      have e64 : a.tmps[64]? = some (m2_) := pton_ ha 2 rfl rfl (hon 2 (by kernel_rfl)) rfl
      rw [Q_X2_ (hon 2 (by kernel_rfl))] at e64
      replace ha := Aside0.mk ha
      have BB := Aside0.mk Q_BB
      have RA := Aside0.mk (Q_RA (hon 2 (by kernel_rfl)))
      have RB := Aside0.mk (Q_RB (hon 5 (by kernel_rfl)))
      refine value_ (w1 := w') (v := .slice (some ⟨x0, 0, none⟩) 256 y0) (by rfl) rfl ?_ ?_
      ·go_simp
       (try simp only [i64_w])
       try rfl
      refine hK.out _ _ ⟨x0, y0, x1, y1, m2_, m5_, (.slice (some ⟨x0, 0, none⟩) 256 y0), m7_, (ptup_ ha.out 6 hb_ rfl rfl rfl), Q_BB, Q_RA, Q_RB, Q_X2_, Q_X5_, fun _ => rfl, off_ (hoff 7 (by kernel_rfl))⟩
     refine steps_cons ?_ ?_
     ·rintro b a w' ⟨x0, y0, x1, y1, m2_, m5_, m6_, m7_, ha, Q_BB, Q_RA, Q_RB, Q_X2_, Q_X5_, Q_X6_, Q_X7_⟩ hb_ hon hoff
      refine ⟨_, rfl, fun K hK => ?_⟩
      have e67 : a.tmps[67]? = some (m5_) := pton_ ha 5 rfl rfl (hon 5 (by kernel_rfl)) rfl
      rw [Q_X5_ (hon 5 (by kernel_rfl))] at e67
      replace ha := Aside0.mk ha
      have BB := Aside0.mk Q_BB
      have RA := Aside0.mk (Q_RA (hon 2 (by kernel_rfl)))
      have RB := Aside0.mk (Q_RB (hon 5 (by kernel_rfl)))
      refine value_ (w1 := w') (v := .slice (some ⟨x1, 0, none⟩) 64 y1) (by rfl) rfl ?_ ?_
      ·go_simp
       (try simp only [i64_w])
       try rfl
      refine hK.out _ _ ⟨x0, y0, x1, y1, m2_, m5_, m6_, (.slice (some ⟨x1, 0, none⟩) 64 y1), (ptup_ ha.out 7 hb_ rfl rfl rfl), Q_BB, Q_RA, Q_RB, Q_X2_, Q_X5_, Q_X6_, fun _ => rfl⟩
     refine steps_cons ?_ ?_
     ·rintro b a w' ⟨x0, y0, x1, y1, m2_, m5_, m6_, m7_, ha, Q_BB, Q_RA, Q_RB, Q_X2_, Q_X5_, Q_X6_, Q_X7_⟩ hb_ hon hoff
      refine ⟨_, rfl, fun K hK => ?_⟩
      replace ha := Aside0.mk ha
      have BB := Aside0.mk Q_BB
      have RA := Aside0.mk (Q_RA (hon 2 (by kernel_rfl)))
      have RB := Aside0.mk (Q_RB (hon 5 (by kernel_rfl)))
      refine value_ (w1 := w') (v := .int .i64 0) (by rfl) rfl ?_ ?_
      ·go_simp
       (try simp only [i64_w])
       try rfl
      refine hK.out _ _ ⟨x0, y0, x1, y1, m2_, m5_, m6_, m7_, (ptup_ ha.out 8 hb_ rfl rfl rfl), Q_BB, Q_RA, Q_RB, Q_X2_, Q_X5_, Q_X6_, Q_X7_⟩
     exact steps_nil
    ·rintro b a w' hall ⟨x0, y0, x1, y1, m2_, m5_, m6_, m7_, ha, Q_BB, Q_RA, Q_RB, Q_X2_, Q_X5_, Q_X6_, Q_X7_⟩
     clear BB
     have hb0_ := hall 0 (by kernel_rfl)
     have hb1_ := hall 1 (by kernel_rfl)
     have hb2_ := hall 2 (by kernel_rfl)
     have hb3_ := hall 3 (by kernel_rfl)
     have hb4_ := hall 4 (by kernel_rfl)
     have hb5_ := hall 5 (by kernel_rfl)
     have hb6_ := hall 6 (by kernel_rfl)
     have hb7_ := hall 7 (by kernel_rfl)
     have hb8_ := hall 8 (by kernel_rfl)
     subst ha
     obtain rfl := Q_X2_ hb2_
     obtain rfl := Q_X5_ hb5_
     obtain rfl := Q_X6_ hb6_
     obtain rfl := Q_X7_ hb7_
     simp only [putSel, hb0_, hb1_, hb2_, hb3_, hb4_, hb5_, hb6_, hb7_, hb8_, if_true, Act.put, List.setIfInBounds_toArray, List.set_cons_zero, List.set_cons_succ]
     have BB := Aside0.mk Q_BB
     clear Q_BB
     have RA := Aside0.mk (Q_RA hb2_)
     clear Q_RA
     have RB := Aside0.mk (Q_RB hb5_)
     clear Q_RB
     clear hall hb0_ hb1_ hb2_ hb3_ hb4_ hb5_ hb6_ hb7_ hb8_
     have HBZ := Lib.hid (show Below wi.heap.size wi w' from DZ.out _ BB.out)
     have HRA := Lib.hid RA.out
     have HRB := Lib.hid RB.out
     clear RA RB BB HGz HDz HOz DZ
     go_wp2_with fail
     go_ret3
     refine ⟨_, _, by rw [HQ.out]; rfl, by rw [HQ.out]; exact HA1.out.below (bl_seq HBi.out HBZ.out), HM1.out.trans (Mods.of_below (bl_seq HBi.out HBZ.out)), fun _ => ⟨_, _, _, _, rfl, rfl, HRA.out.2.2, HRB.out.2.2, ?_, ?_, ?_, ?_⟩⟩
     ·rw [HX.out]; exact HRA.out.1
     ·rw [HX.out]; exact HRB.out.1
     ·exact Nat.le_trans (Nat.le_trans HM1.out.size HBi.out.size) (SZ.out ▸ HRA.out.2.1)
     ·exact Nat.le_trans (Nat.le_trans HM1.out.size HBi.out.size) (SZ.out ▸ HRB.out.2.1)
  | some x =>
   have hk := evFind_kind HF.out.1.ev hfd
   have hks := kind_some hfd
   obtain ⟨xo, xk⟩ := x
   simp only at hk hks
   rcases hk with rfl | rfl
   ·have HQ := Lib.hid (readS_on HO.out (by rw [hks]; decide))
    clear hfd hks
    simp only [evC]
    have al2 : ∀ o1 o2, Below w1.heap.size w1 ((w1.alloc o1).alloc o2) := fun o1 o2 => bl_alloc (bl_alloc (Below.refl _ _) o1) o2
    have y2 : ∀ o, (w1.alloc o).cell? ⟨a.p, 2, none⟩ = some (.int .i64 6) := fun o => pw_cell_below (bl_alloc (Below.refl _ _) o) (arr_cells HA1.out.1).2.2.1
    have y3 : ∀ o1 o2, ((w1.alloc o1).alloc o2).cell? ⟨a.p, 3, none⟩ = some (.int .i64 256) := fun o1 o2 => pw_cell_below (al2 o1 o2) (arr_cells HA1.out.1).2.2.2.1
    have yr : ∀ o, (w1.alloc o).cell? ⟨a.r, b * 4, none⟩ = some (.slice (some ⟨a.pr b, 0, none⟩) 6 (a.pc b)) := fun o => pw_cell_below (bl_alloc (Below.refl _ _) o) (HA1.out.bk b hb).1
    have p1 : decide ((p : Int) < 0) = false := decide_eq_false (by omega)
    have p2 : decide ((6 : Int) ≤ (p : Int)) = false := decide_eq_false (by omega)
    have p3 : decide (6 ≤ p) = false := decide_eq_false (by omega)
    have p4 : (p : Int) < 6 := by omega
    rcases HA1.out.pg b p hb hp with ⟨hx, c0, c1⟩ | ⟨x, A, cA, B, cB, hx, c0, c1, hA, hB, hD, hOo, -⟩
    ·have z0 : ∀ o, (w1.alloc o).cell? ⟨a.pr b, p * 2, none⟩ = some (.slice none 0 0) := fun o => pw_cell_below (bl_alloc (Below.refl _ _) o) c0
     have z1 : ∀ o, (w1.alloc o).cell? ⟨a.pr b, p * 2 + 1, none⟩ = some (.slice none 0 0) := fun o => pw_cell_below (bl_alloc (Below.refl _ _) o) c1
     have HX := Lib.hid (show (s.bl b).pg p = none from hx)
     have hnl := eq_nil8 none 0 0
     simp only [Option.isNone_none] at hnl
     clear hx c0 c1 al2
     go_wp2_with fail
     obtain ⟨W2, hW2⟩ : ∃ W2, (w1.alloc (.cells #[.int .i64 xo, .int .i64 1, .int .i64 0, .slice a.LA a.ln a.lc] 59)).alloc (.cells #[.slice none 0 0, .slice none 0 0] 127) = W2 := ⟨_, rfl⟩
     have hbl : Below w1.heap.size w1 W2 := by rw [← hW2]; exact bl_alloc (bl_alloc (Below.refl _ _) _) _
     rw [hW2]
     have HB2 := Lib.hid hbl
     have f256 := full_any 256 W2 (by omega)
     clear hW2 hbl
     refine f256.mono ?_
     rintro e w3 ⟨g1, rfl, hg1, hb3, hr3⟩
     have HB3 := Lib.hid (bl_seq HB2.out hb3)
     have HR3 := Lib.hid (And.intro hr3 (show w1.heap.size ≤ g1 from Nat.le_trans HB2.out.size hg1))
     clear hb3 hr3 hg1
     have f64 := full_any 64 w3 (by omega)
     go_wp2_with fail
     refine f64.mono ?_
     rintro e w4 ⟨g2, rfl, hg2, hb4, hr4⟩
     have HB4 := Lib.hid (bl_seq HB3.out hb4)
     have HR4 := Lib.hid (And.intro hr4 (And.intro (show w1.heap.size ≤ g2 from Nat.le_trans HB3.out.size hg2) (HR3.out.1.below hb4)))
     clear hb4 hr4 hg2 f256 f64
     go_wp2_with fail
     go_ret3
     refine ⟨_, _, by rw [HQ.out]; rfl, by rw [HQ.out]; exact HA1.out.below HB4.out, HM1.out.trans (Mods.of_below HB4.out), fun _ => ⟨_, _, _, _, rfl, rfl, by decide, by decide, ?_, ?_, Nat.le_trans HM1.out.size HR3.out.2, Nat.le_trans HM1.out.size HR4.out.2.1⟩⟩
     ·rw [HX.out]; exact HR4.out.2.2
     ·rw [HX.out]; exact HR4.out.1
    ·have z0 : ∀ o, (w1.alloc o).cell? ⟨a.pr b, p * 2, none⟩ = some (.slice (some A) 256 cA) := fun o => pw_cell_below (bl_alloc (Below.refl _ _) o) c0
     have z1 : ∀ o, (w1.alloc o).cell? ⟨a.pr b, p * 2 + 1, none⟩ = some (.slice (some B) 64 cB) := fun o => pw_cell_below (bl_alloc (Below.refl _ _) o) c1
     obtain ⟨d, o⟩ := x
     simp only at hD hOo
     have HX := Lib.hid (show (s.bl b).pg p = some (d, o) from hx)
     have hnl := eq_nil8 (some A) 256 cA
     simp only [Option.isNone_some] at hnl
     have HD1 := Lib.hid hD
     have HO1 := Lib.hid hOo
     clear hx c0 c1 hD hOo
     go_wp2_with fail
     obtain ⟨wi, hwi⟩ : ∃ wi, (w1.alloc (.cells #[.int .i64 xo, .int .i64 1, .int .i64 0, .slice a.LA a.ln a.lc] 59)).alloc (.cells #[.slice (some A) 256 cA, .slice (some B) 64 cB] 127) = wi := ⟨_, rfl⟩
     have hbl : Below w1.heap.size w1 wi := by rw [← hwi]; exact al2 _ _
     have hgi : wi.heap[w1.heap.size + 1]? = some (.cells #[.slice (some A) 256 cA, .slice (some B) 64 cB] 127 (0, 0)) := by
      rw [← hwi]
      have h_ := heap_alloc_new (w1.alloc (.cells #[.int .i64 xo, .int .i64 1, .int .i64 0, .slice a.LA a.ln a.lc] 59)) (.cells #[.slice (some A) 256 cA, .slice (some B) 64 cB] 127)
      simpa using h_
     rw [hwi]
     obtain ⟨g, hg⟩ : ∃ g, w1.heap.size + 1 = g := ⟨_, rfl⟩
     try rw [hg]
     rw [hg] at hgi
     have HGi := Lib.hid hgi
     have HBi := Lib.hid hbl
     have HDi := Lib.hid (HD1.out.below hbl)
     have HOi := Lib.hid (HO1.out.below hbl)
     clear hwi hbl hgi hg al2 y2 y3 yr z0 z1 HD1 HO1
     refine start_ (n := 9) (S := fun w' => True) (ds := []) _ (by kernel_rfl) rfl rfl trivial (fun hHeld => ?_)
     refine with_tabW TeR.tab12 TeR.bits12 (fun HT_ HW_ => ?_)
     have HGz := Lib.hid (show wi.drew.heap[g]? = _ from HGi.out)
     have HDz := Lib.hid ((HDi.out).below (bl_drew (Below.refl _ _)))
     have HOz := Lib.hid ((HOi.out).below (bl_drew (Below.refl _ _)))
     have DZ := Lib.hid (fun W (h_ : Below wi.drew.heap.size wi.drew W) => (⟨h_.os, h_.tape, h_.output, h_.size, h_.block⟩ : Below wi.heap.size wi W))
     have SZ := Lib.hid (show wi.heap.size = wi.drew.heap.size from rfl)
     generalize wi.drew = wz at HGz HDz HOz DZ SZ hHeld ⊢
     have BB := Lib.hid (Below.refl wz.heap.size wz)
     refine inv_at [0, 1, 2, 3, 4, 5, 6, 7, 8] (fun a0_ b a w' => ∃ (x0 : Nat) (y0 : Nat) (x1 : Nat) (y1 : Nat) (m2_ : Value) (m5_ : Value) (m6_ : Value) (m7_ : Value), a = putSel a0_ b [(0, 62, .pointer (some ⟨g, 0, none⟩)), (1, 63, .slice (some A) 256 cA), (2, 64, m2_), (3, 65, .pointer (some ⟨g, 1, none⟩)), (4, 66, .slice (some B) 64 cB), (5, 67, m5_), (6, 8, m6_), (7, 9, m7_), (8, 10, .int .i64 0)] ∧ (Below wz.heap.size wz w') ∧ (b 2 = true → ReadsInt w' .u8 (some ⟨x0, 0, none⟩) 256 d ∧ wz.heap.size ≤ x0 ∧ 256 ≤ y0) ∧ (b 5 = true → ReadsInt w' .u8 (some ⟨x1, 0, none⟩) 64 o ∧ wz.heap.size ≤ x1 ∧ 64 ≤ y1) ∧ (b 2 = true → (m2_ : Value) = .slice (some ⟨x0, 0, none⟩) 256 y0) ∧ (b 5 = true → (m5_ : Value) = .slice (some ⟨x1, 0, none⟩) 64 y1) ∧ (b 6 = true → (m6_ : Value) = .slice (some ⟨x0, 0, none⟩) 256 y0) ∧ (b 7 = true → (m7_ : Value) = .slice (some ⟨x1, 0, none⟩) 64 y1)) HT_.out HW_.out (by kernel_rfl) (by kernel_rfl) ?_ ?_ ?_
     ·exact ⟨0, 0, 0, 0, .bool false, .bool false, .bool false, .bool false, by simp only [putSel, Bool.false_eq_true, if_false], BB.out, fun h_ => absurd h_ (by decide), fun h_ => absurd h_ (by decide), fun h_ => absurd h_ (by decide), fun h_ => absurd h_ (by decide), fun h_ => absurd h_ (by decide), fun h_ => absurd h_ (by decide)⟩
     ·skip
      clear BB
      refine steps_cons ?_ ?_
      ·rintro b a w' ⟨x0, y0, x1, y1, m2_, m5_, m6_, m7_, ha, Q_BB, Q_RA, Q_RB, Q_X2_, Q_X5_, Q_X6_, Q_X7_⟩ hb_ hon hoff
       refine ⟨_, rfl, fun K hK => ?_⟩
       have e13 : a.tmps[13]? = some (.pointer (some ⟨g, 0, none⟩)) := by rw [ha]; exact (putSel_off rfl).trans rfl
       replace ha := Aside0.mk ha
       have BB := Aside0.mk Q_BB
       refine value_ (w1 := w') (v := .pointer (some ⟨g, 0, none⟩)) (by rfl) rfl ?_ ?_
       ·go_simp
        (try simp only [i64_w])
        try rfl
       refine hK.out _ _ ⟨x0, y0, x1, y1, m2_, m5_, m6_, m7_, (ptup_ ha.out 0 hb_ rfl rfl rfl), Q_BB, off_ (hoff 2 (by kernel_rfl)), off_ (hoff 5 (by kernel_rfl)), off_ (hoff 2 (by kernel_rfl)), off_ (hoff 5 (by kernel_rfl)), off_ (hoff 6 (by kernel_rfl)), off_ (hoff 7 (by kernel_rfl))⟩
      refine steps_cons ?_ ?_
      ·rintro b a w' ⟨x0, y0, x1, y1, m2_, m5_, m6_, m7_, ha, Q_BB, Q_RA, Q_RB, Q_X2_, Q_X5_, Q_X6_, Q_X7_⟩ hb_ hon hoff
       refine ⟨_, rfl, fun K hK => ?_⟩
       have e62 : a.tmps[62]? = some (.pointer (some ⟨g, 0, none⟩)) := pton_ ha 0 rfl rfl (hon 0 (by kernel_rfl)) rfl
       replace ha := Aside0.mk ha
       have BB := Aside0.mk Q_BB
       have hc_ : w'.cell? ⟨g, 0, none⟩ = some (.slice (some A) 256 cA) := (blk_cell (blk_below HGz.out BB.out) 0).trans rfl
       refine value_ (w1 := w') (v := .slice (some A) 256 cA) (by rfl) rfl ?_ ?_
       ·go_simp
        (try simp only [i64_w])
        try rfl
       refine hK.out _ _ ⟨x0, y0, x1, y1, m2_, m5_, m6_, m7_, (ptup_ ha.out 1 hb_ rfl rfl rfl), Q_BB, off_ (hoff 2 (by kernel_rfl)), off_ (hoff 5 (by kernel_rfl)), off_ (hoff 2 (by kernel_rfl)), off_ (hoff 5 (by kernel_rfl)), off_ (hoff 6 (by kernel_rfl)), off_ (hoff 7 (by kernel_rfl))⟩
      refine steps_cons ?_ ?_
      ·rintro b a w' ⟨x0, y0, x1, y1, m2_, m5_, m6_, m7_, ha, Q_BB, Q_RA, Q_RB, Q_X2_, Q_X5_, Q_X6_, Q_X7_⟩ hb_ hon hoff
       refine ⟨_, rfl, fun K hK => ?_⟩
       have e63 : a.tmps[63]? = some (.slice (some A) 256 cA) := pton_ ha 1 rfl rfl (hon 1 (by kernel_rfl)) rfl
       replace ha := Aside0.mk ha
       have BB := Aside0.mk Q_BB
       obtain ⟨c43, w1, hr43, hb43, ho43, hc43⟩ := appB (d := cA) (HDz.out.below BB.out) (by decide) (by decide)
       have hx43 : wz.heap.size ≤ w'.heap.size := BB.out.size
       refine app_ (by rfl) rfl rfl rfl (by rfl) (eval_of e63) hr43 ?_
       refine hK.out _ _ ⟨w'.heap.size, c43, x1, y1, (.slice (some ⟨w'.heap.size, 0, none⟩) 256 c43), m5_, m6_, m7_, (ptup_ ha.out 2 hb_ rfl rfl rfl), bl_seq BB.out hb43, fun _ => ⟨ho43, hx43, hc43⟩, off_ (hoff 5 (by kernel_rfl)), fun _ => rfl, off_ (hoff 5 (by kernel_rfl)), off_ (hoff 6 (by kernel_rfl)), off_ (hoff 7 (by kernel_rfl))⟩
      refine steps_cons ?_ ?_
      ·rintro b a w' ⟨x0, y0, x1, y1, m2_, m5_, m6_, m7_, ha, Q_BB, Q_RA, Q_RB, Q_X2_, Q_X5_, Q_X6_, Q_X7_⟩ hb_ hon hoff
       refine ⟨_, rfl, fun K hK => ?_⟩
       have e13 : a.tmps[13]? = some (.pointer (some ⟨g, 0, none⟩)) := by rw [ha]; exact (putSel_off rfl).trans rfl
       replace ha := Aside0.mk ha
       have BB := Aside0.mk Q_BB
       refine value_ (w1 := w') (v := .pointer (some ⟨g, 1, none⟩)) (by rfl) rfl ?_ ?_
       ·go_simp
        (try simp only [i64_w])
        try rfl
       refine hK.out _ _ ⟨x0, y0, x1, y1, m2_, m5_, m6_, m7_, (ptup_ ha.out 3 hb_ rfl rfl rfl), Q_BB, Q_RA, off_ (hoff 5 (by kernel_rfl)), Q_X2_, off_ (hoff 5 (by kernel_rfl)), off_ (hoff 6 (by kernel_rfl)), off_ (hoff 7 (by kernel_rfl))⟩
      refine steps_cons ?_ ?_
      ·rintro b a w' ⟨x0, y0, x1, y1, m2_, m5_, m6_, m7_, ha, Q_BB, Q_RA, Q_RB, Q_X2_, Q_X5_, Q_X6_, Q_X7_⟩ hb_ hon hoff
       refine ⟨_, rfl, fun K hK => ?_⟩
       have e65 : a.tmps[65]? = some (.pointer (some ⟨g, 1, none⟩)) := pton_ ha 3 rfl rfl (hon 3 (by kernel_rfl)) rfl
       replace ha := Aside0.mk ha
       have BB := Aside0.mk Q_BB
       have hc_ : w'.cell? ⟨g, 1, none⟩ = some (.slice (some B) 64 cB) := (blk_cell (blk_below HGz.out BB.out) 1).trans rfl
       refine value_ (w1 := w') (v := .slice (some B) 64 cB) (by rfl) rfl ?_ ?_
       ·go_simp
        (try simp only [i64_w])
        try rfl
       refine hK.out _ _ ⟨x0, y0, x1, y1, m2_, m5_, m6_, m7_, (ptup_ ha.out 4 hb_ rfl rfl rfl), Q_BB, Q_RA, off_ (hoff 5 (by kernel_rfl)), Q_X2_, off_ (hoff 5 (by kernel_rfl)), off_ (hoff 6 (by kernel_rfl)), off_ (hoff 7 (by kernel_rfl))⟩
      refine steps_cons ?_ ?_
      ·rintro b a w' ⟨x0, y0, x1, y1, m2_, m5_, m6_, m7_, ha, Q_BB, Q_RA, Q_RB, Q_X2_, Q_X5_, Q_X6_, Q_X7_⟩ hb_ hon hoff
       refine ⟨_, rfl, fun K hK => ?_⟩
       have e66 : a.tmps[66]? = some (.slice (some B) 64 cB) := pton_ ha 4 rfl rfl (hon 4 (by kernel_rfl)) rfl
       replace ha := Aside0.mk ha
       have BB := Aside0.mk Q_BB
       have RA := Aside0.mk (Q_RA (hon 2 (by kernel_rfl)))
       obtain ⟨c43, w1, hr43, hb43, ho43, hc43⟩ := appB (d := cB) (HOz.out.below BB.out) (by decide) (by decide)
       have hx43 : wz.heap.size ≤ w'.heap.size := BB.out.size
       refine app_ (by rfl) rfl rfl rfl (by rfl) (eval_of e66) hr43 ?_
       refine hK.out _ _ ⟨x0, y0, w'.heap.size, c43, m2_, (.slice (some ⟨w'.heap.size, 0, none⟩) 64 c43), m6_, m7_, (ptup_ ha.out 5 hb_ rfl rfl rfl), bl_seq BB.out hb43, fun _ => ⟨RA.out.1.below hb43, RA.out.2⟩, fun _ => ⟨ho43, hx43, hc43⟩, Q_X2_, fun _ => rfl, off_ (hoff 6 (by kernel_rfl)), off_ (hoff 7 (by kernel_rfl))⟩
      refine steps_cons ?_ ?_
      ·rintro b a w' ⟨x0, y0, x1, y1, m2_, m5_, m6_, m7_, ha, Q_BB, Q_RA, Q_RB, Q_X2_, Q_X5_, Q_X6_, Q_X7_⟩ hb_ hon hoff
       refine ⟨_, rfl, fun K hK => ?_⟩
       have e64 : a.tmps[64]? = some (m2_) := pton_ ha 2 rfl rfl (hon 2 (by kernel_rfl)) rfl
       rw [Q_X2_ (hon 2 (by kernel_rfl))] at e64
       replace ha := Aside0.mk ha
       have BB := Aside0.mk Q_BB
       have RA := Aside0.mk (Q_RA (hon 2 (by kernel_rfl)))
       have RB := Aside0.mk (Q_RB (hon 5 (by kernel_rfl)))
       refine value_ (w1 := w') (v := .slice (some ⟨x0, 0, none⟩) 256 y0) (by rfl) rfl ?_ ?_
       ·go_simp
        (try simp only [i64_w])
        try rfl
       refine hK.out _ _ ⟨x0, y0, x1, y1, m2_, m5_, (.slice (some ⟨x0, 0, none⟩) 256 y0), m7_, (ptup_ ha.out 6 hb_ rfl rfl rfl), Q_BB, Q_RA, Q_RB, Q_X2_, Q_X5_, fun _ => rfl, off_ (hoff 7 (by kernel_rfl))⟩
      refine steps_cons ?_ ?_
      ·rintro b a w' ⟨x0, y0, x1, y1, m2_, m5_, m6_, m7_, ha, Q_BB, Q_RA, Q_RB, Q_X2_, Q_X5_, Q_X6_, Q_X7_⟩ hb_ hon hoff
       refine ⟨_, rfl, fun K hK => ?_⟩
       have e67 : a.tmps[67]? = some (m5_) := pton_ ha 5 rfl rfl (hon 5 (by kernel_rfl)) rfl
       rw [Q_X5_ (hon 5 (by kernel_rfl))] at e67
       replace ha := Aside0.mk ha
       have BB := Aside0.mk Q_BB
       have RA := Aside0.mk (Q_RA (hon 2 (by kernel_rfl)))
       have RB := Aside0.mk (Q_RB (hon 5 (by kernel_rfl)))
       refine value_ (w1 := w') (v := .slice (some ⟨x1, 0, none⟩) 64 y1) (by rfl) rfl ?_ ?_
       ·go_simp
        (try simp only [i64_w])
        try rfl
       refine hK.out _ _ ⟨x0, y0, x1, y1, m2_, m5_, m6_, (.slice (some ⟨x1, 0, none⟩) 64 y1), (ptup_ ha.out 7 hb_ rfl rfl rfl), Q_BB, Q_RA, Q_RB, Q_X2_, Q_X5_, Q_X6_, fun _ => rfl⟩
      refine steps_cons ?_ ?_
      ·rintro b a w' ⟨x0, y0, x1, y1, m2_, m5_, m6_, m7_, ha, Q_BB, Q_RA, Q_RB, Q_X2_, Q_X5_, Q_X6_, Q_X7_⟩ hb_ hon hoff
       refine ⟨_, rfl, fun K hK => ?_⟩
       replace ha := Aside0.mk ha
       have BB := Aside0.mk Q_BB
       have RA := Aside0.mk (Q_RA (hon 2 (by kernel_rfl)))
       have RB := Aside0.mk (Q_RB (hon 5 (by kernel_rfl)))
       refine value_ (w1 := w') (v := .int .i64 0) (by rfl) rfl ?_ ?_
       ·go_simp
        (try simp only [i64_w])
        try rfl
       refine hK.out _ _ ⟨x0, y0, x1, y1, m2_, m5_, m6_, m7_, (ptup_ ha.out 8 hb_ rfl rfl rfl), Q_BB, Q_RA, Q_RB, Q_X2_, Q_X5_, Q_X6_, Q_X7_⟩
      exact steps_nil
     ·rintro b a w' hall ⟨x0, y0, x1, y1, m2_, m5_, m6_, m7_, ha, Q_BB, Q_RA, Q_RB, Q_X2_, Q_X5_, Q_X6_, Q_X7_⟩
      clear BB
      have hb0_ := hall 0 (by kernel_rfl)
      have hb1_ := hall 1 (by kernel_rfl)
      have hb2_ := hall 2 (by kernel_rfl)
      have hb3_ := hall 3 (by kernel_rfl)
      have hb4_ := hall 4 (by kernel_rfl)
      have hb5_ := hall 5 (by kernel_rfl)
      have hb6_ := hall 6 (by kernel_rfl)
      have hb7_ := hall 7 (by kernel_rfl)
      have hb8_ := hall 8 (by kernel_rfl)
      subst ha
      obtain rfl := Q_X2_ hb2_
      obtain rfl := Q_X5_ hb5_
      obtain rfl := Q_X6_ hb6_
      obtain rfl := Q_X7_ hb7_
      simp only [putSel, hb0_, hb1_, hb2_, hb3_, hb4_, hb5_, hb6_, hb7_, hb8_, if_true, Act.put, List.setIfInBounds_toArray, List.set_cons_zero, List.set_cons_succ]
      have BB := Aside0.mk Q_BB
      clear Q_BB
      have RA := Aside0.mk (Q_RA hb2_)
      clear Q_RA
      have RB := Aside0.mk (Q_RB hb5_)
      clear Q_RB
      clear hall hb0_ hb1_ hb2_ hb3_ hb4_ hb5_ hb6_ hb7_ hb8_
      have HBZ := Lib.hid (show Below wi.heap.size wi w' from DZ.out _ BB.out)
      have HRA := Lib.hid RA.out
      have HRB := Lib.hid RB.out
      clear RA RB BB HGz HDz HOz DZ
      go_wp2_with fail
      go_ret3
      refine ⟨_, _, by rw [HQ.out]; rfl, by rw [HQ.out]; exact HA1.out.below (bl_seq HBi.out HBZ.out), HM1.out.trans (Mods.of_below (bl_seq HBi.out HBZ.out)), fun _ => ⟨_, _, _, _, rfl, rfl, HRA.out.2.2, HRB.out.2.2, ?_, ?_, ?_, ?_⟩⟩
      ·rw [HX.out]; exact HRA.out.1
      ·rw [HX.out]; exact HRB.out.1
      ·exact Nat.le_trans (Nat.le_trans HM1.out.size HBi.out.size) (SZ.out ▸ HRA.out.2.1)
      ·exact Nat.le_trans (Nat.le_trans HM1.out.size HBi.out.size) (SZ.out ▸ HRB.out.2.1)
   ·have HQ := Lib.hid (readS_crash HO.out hks)
    clear hfd hks
    simp only [evC]
    have y8 : ∀ o, (w1.alloc o).cell? ⟨a.p, 8, none⟩ = some (.bool false) := fun o => pw_cell_below (bl_alloc (Below.refl _ _) o) (arr_cells HA1.out.1).2.2.2.2.2.2.2.2
    have f8 : ∀ o, (w1.alloc o).frozen? ⟨a.p, 8, none⟩ = false := fun o => blk_frozen (blk_alloc HA1.out.1 o) 8
    go_wp2_with fail
    go_ret3
    refine ⟨.slice none 0 0, .slice none 0 0, by rw [HQ.out]; rfl, ?_, ?_, fun e => by rw [HQ.out] at e; simp at e⟩
    ·rw [HQ.out]; exact (HA1.out.below (bl_alloc (Below.refl _ _) _)).power HF.out.1 HF.out.2 true
    ·exact (HM1.out.alloc _).at_ (.inl (.inl rfl)) 8 _
end Go.Proofs.Ytffalemndjampaa
end
section
set_option linter.unusedVariables false
set_option linter.unusedSimpArgs false
namespace Go.Proofs.Ytffalemndjampaa
open Go.RowKit Go.Proofs.YtffalemndjampaaW.PrintWords Go.Proofs.YtffalemndjampaaW.PrintLast
def St.setPg (s : St) (b p : Nat) (x : List Int × List Int) : St := { s with bl := upd s.bl b { s.bl b with pg := upd (s.bl b).pg p (some x) } }
def St.setNx (s : St) (b n : Nat) : St := { s with bl := upd s.bl b { s.bl b with nx := n } }
def St.setBad (s : St) (b : Nat) : St := { s with bl := upd s.bl b { s.bl b with bad := true } }
def St.go (s : St) (off : Bool) : St := { s with ops := s.ops + 1, off := off }
def leftPg (ar : Ar) : List Int × List Int := (leftD ar.lf, leftO ar.lf)
def progS (ar : Ar) (s : St) (kb p : Nat) (x : List Int × List Int) : St × Int :=
 if s.off = true then (s, 72)
 else if s.kind ar = 2 then (if p = (s.bl kb).nx ∧ (s.bl kb).bad = false then ((s.go true).setPg kb p (leftPg ar)).setNx kb (p + 1) else s.go true, 72)
 else if (s.bl kb).bad = true then (s.go false, 70)
 else if p ≠ (s.bl kb).nx then (s.go false, 73)
 else if s.kind ar = 1 then ((((s.go false).setPg kb p (leftPg ar)).setNx kb (p + 1)).setBad kb, 70)
 else (((s.go false).setPg kb p x).setNx kb (p + 1), 0)
theorem Ar.M_pr (ar : Ar) (i : Nat) (hi : i < 16) : ar.M (ar.pr i) := .inr (.inr ⟨i, hi, rfl⟩)
theorem Ar.M_r (ar : Ar) : ar.M ar.r := .inr (.inl rfl)
theorem Ar.M_p (ar : Ar) : ar.M ar.p := .inl rfl
theorem leftD_byt {lf : List Int} (h : Byt lf) : Byt (leftD lf) := fun x hx => by
 obtain ⟨i, _, rfl⟩ := List.mem_map.1 hx
 exact cyc_byt h i
theorem leftO_byt {lf : List Int} (h : Byt lf) : Byt (leftO lf) := fun x hx => by
 obtain ⟨i, _, rfl⟩ := List.mem_map.1 hx
 exact cyc_byt h _
theorem Arr.pgany {w : World} {ar : Ar} {ok : Nat → Prop} {s : St} (h : Arr w ar ok s) (i p : Nat) (hi : i < 16) (hp : p < 6) : ∃ v0 v1, w.cell? ⟨ar.pr i, p * 2, none⟩ = some v0 ∧ w.cell? ⟨ar.pr i, p * 2 + 1, none⟩ = some v1 := by
 rcases h.pg i p hi hp with ⟨_, h0, h1⟩ | ⟨x, A, c, B, c', _, h0, h1, _⟩
 ·exact ⟨_, _, h0, h1⟩
 ·exact ⟨_, _, h0, h1⟩
theorem Arr.pgfree {w : World} {ar : Ar} {ok : Nat → Prop} {s : St} (h : Arr w ar ok s) (i o : Nat) (hi : i < 16) : w.frozen? ⟨ar.pr i, o, none⟩ = false := by
 obtain ⟨D, hD, _⟩ := h.2.2.2.2.2.2 i hi
 exact blk_frozen hD o
theorem setPg_nx (s : St) (kb p : Nat) (x : List Int × List Int) : ((s.setPg kb p x).bl kb).nx = (s.bl kb).nx := by simp [St.setPg, upd]
def TfR.T12 : Bool × List (List Nat × List Nat) := (true, [([], []), ([0], [0]), ([1], [1]), ([2], [2]), ([], []), ([], []), ([], []), ([5, 6], [5, 6]), ([3, 4, 0, 1, 2, 3, 4, 5, 6, 7], [3, 4]), ([8, 7, 7, 0, 1, 2, 3, 4, 5, 6, 7], [7, 8])])
def TfR.B12 : List Nat := [0, 1, 3, 7, 0, 0, 0, 96, 255, 511]
theorem TfR.tab12 : rtab .any (opsOf Try.f42 12) = TfR.T12 := by kernel_rfl
theorem TfR.bits12 : waitsOk TfR.T12.2 TfR.B12 = true := by kernel_rfl
def TfS.T20 : Bool × List (List Nat × List Nat) := (true, [([], []), ([0], [0]), ([1], [1]), ([2], [2]), ([], []), ([], []), ([], []), ([5, 6], [5, 6]), ([3, 4, 0, 1, 2, 3, 4, 5, 6, 7], [3, 4]), ([8, 7, 7, 0, 1, 2, 3, 4, 5, 6, 7], [7, 8])])
def TfS.B20 : List Nat := [0, 1, 3, 7, 0, 0, 0, 96, 255, 511]
theorem TfS.tab20 : rtab .any (opsOf Try.f42 20) = TfS.T20 := by kernel_rfl
theorem TfS.bits20 : waitsOk TfS.T20.2 TfS.B20 = true := by kernel_rfl
def TfT.T24 : Bool × List (List Nat × List Nat) := (true, [([], []), ([0], [0]), ([1], [1]), ([2], [2]), ([], []), ([], []), ([5], [5]), ([], []), ([7, 6], [7]), ([6, 8], [6, 8]), ([3, 4, 0, 1, 2, 3, 4, 5, 6, 7, 8, 9], [3, 4]), ([10, 9, 8, 0, 1, 2, 3, 4, 5, 6, 7, 8, 9], [9, 10])])
def TfT.B24 : List Nat := [0, 1, 3, 7, 0, 0, 32, 0, 224, 480, 1023, 2047]
theorem TfT.tab24 : rtab .any (opsOf Try.f42 24) = TfT.T24 := by kernel_rfl
theorem TfT.bits24 : waitsOk TfT.T24.2 TfT.B24 = true := by kernel_rfl
def ProgQ (w : World) (ar : Ar) (ok : Nat → Prop) (s : St) (kb p : Nat) (x : List Int × List Int) (e : Ending) (w' : World) : Prop :=
 e = .returned (.int .i64 (progS ar s kb p x).2) ∧ Arr w' ar ok (progS ar s kb p x).1 ∧ Mods ar.M w w'
set_option maxHeartbeats 16000000 in
set_option maxRecDepth 100000 in
theorem nprog_any (ar : Ar) (ok : Nat → Prop) (s : St) (kb p : Nat) (A B : Addr) (cA cB : Nat) (d o : List Int) (w : World) (hf : ar.Fix) (hok : ∀ k, ok k → ¬ ar.M k) (hnew : ∀ k, w.heap.size ≤ k → ok k) (h : Arr w ar ok s) (hb : kb < 16) (hp : p < 6) (h0 : 0 ≤ s.ops) (h1 : s.ops ≤ 1000000)
  (hd : ReadsInt w .u8 (some A) 256 d) (ho : ReadsInt w .u8 (some B) 64 o) (hA : ¬ ar.M A.block) (hB : ¬ ar.M B.block) (byd : Byt d) (byo : Byt o) :
  Calls Try.prog 42 #[.pointer (some ⟨ar.p, 0, none⟩), .int .i64 0, .int .i64 (kb : Int), .int .i64 (p : Int), .slice (some A) 256 cA, .slice (some B) 64 cB] w (ProgQ w ar ok s kb p (d, o)) := by
 cases hoff : s.off with
 | true =>
  have hq : progS ar s kb p (d, o) = (s, 72) := by rw [progS, if_pos hoff]
  have hp1 := h.1
  rw [hoff] at hp1
  have HA := Lib.hid h
  have HBG := Lib.hid (begin_off ar.p kb _ _ _ s.ops w hp1)
  clear h hp1 hf hok hnew hd ho hA hB byd byo
  go_enter Try.func42, Try.ntmps42
  go_wp2_with fail
  refine HBG.out.mono ?_
  rintro e w1 ⟨rfl, hb1⟩
  have HB1 := Lib.hid hb1
  clear hb1
  simp only [evC]
  go_wp2_with fail
  go_ret
  exact ⟨by rw [hq]; rfl, by rw [hq]; exact HA.out.below (bl_seq HB1.out (bl_alloc (Below.refl _ _) _)), Mods.of_below (bl_seq HB1.out (bl_alloc (Below.refl _ _) _))⟩
 | false =>
  have hp1 := h.1
  rw [hoff] at hp1
  have hbg := begin_on ar.p ar.q ar.dq ar.r kb ar.qc ar.dc ar.rc ar.EA ar.n ar.ec ar.LA ar.ln ar.lc ar.evs s.ops w hp1 h.2.1 h.2.2.1 (fun e => hf.q_M (.inl e)) (fun e => hf.d_M (.inl e)) (fun x hx e => hf.e_M x hx (.inl e)) h.2.2.2.1 hf.ev hf.n_le hb h0 h1
  have HBG := Lib.hid hbg
  have HA := Lib.hid h
  have HF := Lib.hid (And.intro hf (And.intro hok hnew))
  have HR := Lib.hid (And.intro hd (And.intro ho (And.intro (And.intro hA hB) (And.intro byd byo))))
  have hnoff : ¬ s.off = true := by rw [hoff]; decide
  have HNO := Lib.hid hnoff
  clear h hp1 hbg hf hok hnew hd ho hA hB byd byo hnoff hoff
  go_enter Try.func42, Try.ntmps42
  go_wp2_with fail
  refine HBG.out.mono ?_
  rintro e w1 ⟨rfl, hp1, hm1⟩
  have HM1 := Lib.hid (head_M hm1)
  have HS1 := Lib.hid hm1.size
  have HA1 : Hid (Arr w1 ar ok (s.go false)) := Lib.hid (HA.out.head HF.out.1 HF.out.2.1 hm1 (s.ops + 1) false hp1)
  have HR1 := Lib.hid (And.intro ((head_M hm1).reads HR.out.1 (fun x hx => by obtain rfl := Option.some.inj hx; exact HR.out.2.2.1.1)) ((head_M hm1).reads HR.out.2.1 (fun x hx => by obtain rfl := Option.some.inj hx; exact HR.out.2.2.1.2)))
  clear hp1 hm1 HBG
  have y2 : ∀ o, (w1.alloc o).cell? ⟨ar.p, 2, none⟩ = some (.int .i64 6) := fun o => pw_cell_below (bl_alloc (Below.refl _ _) o) (arr_cells HA1.out.1).2.2.1
  have y3 : ∀ o, (w1.alloc o).cell? ⟨ar.p, 3, none⟩ = some (.int .i64 256) := fun o => pw_cell_below (bl_alloc (Below.refl _ _) o) (arr_cells HA1.out.1).2.2.2.1
  have p1 : decide ((p : Int) < 0) = false := decide_eq_false (by omega)
  have p2 : decide ((6 : Int) ≤ (p : Int)) = false := decide_eq_false (by omega)
  have p3 : decide (6 ≤ p) = false := decide_eq_false (by omega)
  have p4 : (p : Int) < 6 := by omega
  obtain ⟨nx, hnx⟩ : ∃ nx, (s.bl kb).nx = nx := ⟨_, rfl⟩
  obtain ⟨bd, hbd⟩ : ∃ bd, (s.bl kb).bad = bd := ⟨_, rfl⟩
  have HNX := Lib.hid (And.intro hnx hbd)
  have yn : ∀ o, (w1.alloc o).cell? ⟨ar.r, kb * 4 + 1, none⟩ = some (.int .i64 (nx : Int)) := fun o => pw_cell_below (bl_alloc (Below.refl _ _) o) (by have h_ := (HA1.out.bk kb hb).2.1; rw [show ((s.go false).bl kb).nx = nx from hnx] at h_; exact h_)
  have yb : ∀ o, (w1.alloc o).cell? ⟨ar.r, kb * 4 + 3, none⟩ = some (.bool bd) := fun o => pw_cell_below (bl_alloc (Below.refl _ _) o) (by have h_ := (HA1.out.bk kb hb).2.2.2.1; rw [show ((s.go false).bl kb).bad = bd from hbd] at h_; exact h_)
  clear hnx hbd
  cases hfd : evFind ar.evs (s.ops + 1) with
  | none =>
   have HK := Lib.hid (kind_none hfd)
   clear hfd
   simp only [evC]
   cases bd with
   | true =>
    have HQ := Lib.hid (show progS ar s kb p (d, o) = (s.go false, 70) from by rw [progS, if_neg HNO.out, if_neg (by rw [HK.out]; decide), if_pos HNX.out.2])
    go_wp2_with fail
    go_ret
    exact ⟨by rw [HQ.out]; rfl, by rw [HQ.out]; exact HA1.out.below (bl_alloc (Below.refl _ _) _), HM1.out.alloc _⟩
   | false =>
    have hnb : ¬ (s.bl kb).bad = true := by rw [HNX.out.2]; decide
    by_cases hpn : p = nx
    ·subst hpn
     have HQ := Lib.hid (show progS ar s kb p (d, o) = (((s.go false).setPg kb p (d, o)).setNx kb (p + 1), 0) from by rw [progS, if_neg HNO.out, if_neg (by rw [HK.out]; decide), if_neg hnb, if_neg (by rw [HNX.out.1]; simp), if_neg (by rw [HK.out]; decide)])
     clear hnb
     go_wp2_with fail
     obtain ⟨wi, hwi⟩ : ∃ wi, w1.alloc (.cells #[.int .i64 0, .int .i64 0, .int .i64 0, .slice none 0 0] 59) = wi := ⟨_, rfl⟩
     have hbi : Below w1.heap.size w1 wi := by rw [← hwi]; exact (bl_alloc (Below.refl _ _) _)
     rw [hwi]
     have ARi := Lib.hid (HA1.out.below hbi)
     have RDi := Lib.hid (And.intro (HR1.out.1.below hbi) (HR1.out.2.below hbi))
     have HSi := Lib.hid (Nat.le_trans HS1.out hbi.size)
     have HMi := Lib.hid (HM1.out.trans (Mods.of_below hbi))
     have HBY := Lib.hid HR.out.2.2.2
     clear hwi hbi y2 y3 yn yb HA HR HR1 HA1
     refine start_ (n := 12) (S := fun w' => True) (ds := []) _ (by kernel_rfl) rfl rfl trivial (fun hHeld => ?_)
     refine with_tabW TfT.tab24 TfT.bits24 (fun HT_ HW_ => ?_)
     have RD := Lib.hid (show ReadsInt wi.drew .u8 (some A) 256 d ∧ ReadsInt wi.drew .u8 (some B) 64 o from ⟨RDi.out.1.below (bl_drew (Below.refl _ _)), RDi.out.2.below (bl_drew (Below.refl _ _))⟩)
     have AR0 := Lib.hid (show Arr wi.drew ar ok (s.go false) from ARi.out.below (bl_drew (Below.refl _ _)))
     have HFz := Lib.hid (show ar.Fix ∧ (∀ k, ok k → ¬ ar.M k) ∧ ∀ k, wi.drew.heap.size ≤ k → ok k from ⟨HF.out.1, HF.out.2.1, fun k hk => HF.out.2.2 k (Nat.le_trans HSi.out hk)⟩)
     have DZ := Lib.hid (show Mods ar.M wi wi.drew from (Mods.refl _ wi).drewN 1)
     generalize wi.drew = wz at RD AR0 HFz DZ hHeld ⊢
     have MM := Lib.hid (Mods.refl ar.M wz)
     refine pur_ 0 (some 132) HT_.out rfl rfl (by kernel_rfl) (fun _ _ _ h => h) (by rfl) (fun w' => by go_simp; with_reducible rfl) (by simp only [Act.put, List.setIfInBounds_toArray, List.set_cons_zero, List.set_cons_succ, i64_w, i32_w]; rfl) ?_
     refine pur_ 1 (some 133) HT_.out rfl rfl (by kernel_rfl) (fun _ _ _ h => h) (by rfl) (fun w' => by go_simp; with_reducible rfl) (by simp only [Act.put, List.setIfInBounds_toArray, List.set_cons_zero, List.set_cons_succ, i64_w, i32_w]; rfl) ?_
     refine pur_ 2 (some 134) HT_.out rfl rfl (by kernel_rfl) (fun _ _ _ h => h) (by rfl) (fun w' => by go_simp; with_reducible rfl) (by simp only [Act.put, List.setIfInBounds_toArray, List.set_cons_zero, List.set_cons_succ, i64_w, i32_w]; rfl) ?_
     refine pur_ 4 (some 136) HT_.out rfl rfl (by kernel_rfl) (fun _ _ _ h => h) (by rfl) (fun w' => by go_simp; with_reducible rfl) (by simp only [Act.put, List.setIfInBounds_toArray, List.set_cons_zero, List.set_cons_succ, i64_w, i32_w]; rfl) ?_
     refine pur_ 5 (some 137) HT_.out rfl rfl (by kernel_rfl) (fun _ _ _ h => h) (by rfl) (fun w' => by go_simp; with_reducible rfl) (by simp only [Act.put, List.setIfInBounds_toArray, List.set_cons_zero, List.set_cons_succ, i64_w, i32_w]; rfl) ?_
     refine pur_ 7 (some 139) HT_.out rfl rfl (by kernel_rfl) (fun _ _ _ h => h) (by rfl) (fun w' => by go_simp; with_reducible rfl) (by simp only [Act.put, List.setIfInBounds_toArray, List.set_cons_zero, List.set_cons_succ, i64_w, i32_w]; rfl) ?_
     refine inv_at [3, 6, 8, 9, 10, 11] (fun a0_ b a w' => ∃ (x0 : Nat) (y0 : Nat) (x1 : Nat) (y1 : Nat) (m6_ : Value) (m8_ : Value) (m9_ : Value), a = putSel a0_ b [(3, 135, .slice (some ⟨ar.pr kb, 0, none⟩) 6 (ar.pc kb)), (6, 138, m6_), (8, 140, m8_), (9, 141, m9_), (10, 142, .pointer (some ⟨ar.pr kb, p * 2, none⟩))] ∧ (Mods ar.M wz w') ∧ (b 11 = false → Arr w' ar ok (s.go false)) ∧ (b 11 = false → ReadsInt w' .u8 (some A) 256 d ∧ ReadsInt w' .u8 (some B) 64 o) ∧ (b 6 = true → b 11 = false → ReadsInt w' .u8 (some ⟨x0, 0, none⟩) 256 d ∧ wz.heap.size ≤ x0 ∧ 256 ≤ y0) ∧ (b 8 = true → b 11 = false → ReadsInt w' .u8 (some ⟨x1, 0, none⟩) 64 o ∧ wz.heap.size ≤ x1 ∧ 64 ≤ y1) ∧ (b 11 = true → Arr w' ar ok ((s.go false).setPg kb p (d, o))) ∧ (b 6 = true → (m6_ : Value) = .slice (some ⟨x0, 0, none⟩) 256 y0) ∧ (b 8 = true → (m8_ : Value) = .slice (some ⟨x1, 0, none⟩) 64 y1) ∧ (b 9 = true → (m9_ : Value) = .agg #[.slice (some ⟨x0, 0, none⟩) 256 y0, .slice (some ⟨x1, 0, none⟩) 64 y1])) HT_.out HW_.out (by kernel_rfl) (by kernel_rfl) ?_ ?_ ?_
     ·exact ⟨0, 0, 0, 0, .bool false, .bool false, .bool false, by simp only [putSel, Bool.false_eq_true, if_false], MM.out, fun _ => AR0.out, fun _ => RD.out, fun h_ => absurd h_ (by decide), fun h_ => absurd h_ (by decide), fun h_ => absurd h_ (by decide), fun h_ => absurd h_ (by decide), fun h_ => absurd h_ (by decide), fun h_ => absurd h_ (by decide)⟩
     ·skip
      clear AR0 MM RD
      refine steps_cons ?_ ?_
      ·rintro b a w' ⟨x0, y0, x1, y1, m6_, m8_, m9_, ha, Q_MM, Q_AR0, Q_RD, Q_LA_, Q_LB_, Q_AR1, Q_X6_, Q_X8_, Q_X9_⟩ hb_ hon hoff
       refine ⟨_, rfl, fun K hK => ?_⟩
       have e134 : a.tmps[134]? = some (.pointer (some ⟨ar.r, kb * 4, none⟩)) := by rw [ha]; exact (putSel_off rfl).trans rfl
       replace ha := Aside0.mk ha
       have MM := Aside0.mk Q_MM
       have AR0 := Aside0.mk (Q_AR0 (hoff 11 (by kernel_rfl)))
       have RD := Aside0.mk (Q_RD (hoff 11 (by kernel_rfl)))
       have hc_ : w'.cell? ⟨ar.r, kb * 4, none⟩ = some (.slice (some ⟨ar.pr kb, 0, none⟩) 6 (ar.pc kb)) := (AR0.out.bk kb hb).1
       refine value_ (w1 := w') (v := .slice (some ⟨ar.pr kb, 0, none⟩) 6 (ar.pc kb)) (by rfl) rfl ?_ ?_
       ·go_simp
        (try simp only [i64_w])
        try rfl
       refine hK.out _ _ ⟨x0, y0, x1, y1, m6_, m8_, m9_, (ptup_ ha.out 0 hb_ rfl rfl rfl), Q_MM, Q_AR0, Q_RD, Q_LA_, Q_LB_, off_ (hoff 11 (by kernel_rfl)), Q_X6_, Q_X8_, Q_X9_⟩
      refine steps_cons ?_ ?_
      ·rintro b a w' ⟨x0, y0, x1, y1, m6_, m8_, m9_, ha, Q_MM, Q_AR0, Q_RD, Q_LA_, Q_LB_, Q_AR1, Q_X6_, Q_X8_, Q_X9_⟩ hb_ hon hoff
       refine ⟨_, rfl, fun K hK => ?_⟩
       have e137 : a.tmps[137]? = some (.slice (some A) 256 cA) := by rw [ha]; exact (putSel_off rfl).trans rfl
       replace ha := Aside0.mk ha
       have MM := Aside0.mk Q_MM
       have AR0 := Aside0.mk (Q_AR0 (hoff 11 (by kernel_rfl)))
       have RD := Aside0.mk (Q_RD (hoff 11 (by kernel_rfl)))
       obtain ⟨c43, w1, hr43, hb43, ho43, hc43⟩ := appB (d := cA) RD.out.1 (by decide) (by decide)
       have hx43 : wz.heap.size ≤ w'.heap.size := MM.out.size
       refine app_ (by rfl) rfl rfl rfl (by rfl) (eval_of e137) hr43 ?_
       refine hK.out _ _ ⟨w'.heap.size, c43, x1, y1, (.slice (some ⟨w'.heap.size, 0, none⟩) 256 c43), m8_, m9_, (ptup_ ha.out 1 hb_ rfl rfl rfl), MM.out.trans (Mods.of_below hb43), fun _ => AR0.out.below hb43, fun _ => ⟨RD.out.1.below hb43, RD.out.2.below hb43⟩, fun _ _ => ⟨ho43, hx43, hc43⟩, fun h0_ _ => off_ (hoff 8 (by kernel_rfl)) h0_, off_ (hoff 11 (by kernel_rfl)), fun _ => rfl, off_ (hoff 8 (by kernel_rfl)), off_ (hoff 9 (by kernel_rfl))⟩
      refine steps_cons ?_ ?_
      ·rintro b a w' ⟨x0, y0, x1, y1, m6_, m8_, m9_, ha, Q_MM, Q_AR0, Q_RD, Q_LA_, Q_LB_, Q_AR1, Q_X6_, Q_X8_, Q_X9_⟩ hb_ hon hoff
       refine ⟨_, rfl, fun K hK => ?_⟩
       have e139 : a.tmps[139]? = some (.slice (some B) 64 cB) := by rw [ha]; exact (putSel_off rfl).trans rfl
       replace ha := Aside0.mk ha
       have MM := Aside0.mk Q_MM
       have AR0 := Aside0.mk (Q_AR0 (hoff 11 (by kernel_rfl)))
       have RD := Aside0.mk (Q_RD (hoff 11 (by kernel_rfl)))
       have LA_ := Aside0.mk (Q_LA_ (hon 6 (by kernel_rfl)) (hoff 11 (by kernel_rfl)))
       obtain ⟨c43, w1, hr43, hb43, ho43, hc43⟩ := appB (d := cB) RD.out.2 (by decide) (by decide)
       have hx43 : wz.heap.size ≤ w'.heap.size := MM.out.size
       refine app_ (by rfl) rfl rfl rfl (by rfl) (eval_of e139) hr43 ?_
       refine hK.out _ _ ⟨x0, y0, w'.heap.size, c43, m6_, (.slice (some ⟨w'.heap.size, 0, none⟩) 64 c43), m9_, (ptup_ ha.out 2 hb_ rfl rfl rfl), MM.out.trans (Mods.of_below hb43), fun _ => AR0.out.below hb43, fun _ => ⟨RD.out.1.below hb43, RD.out.2.below hb43⟩, fun _ _ => ⟨LA_.out.1.below hb43, LA_.out.2⟩, fun _ _ => ⟨ho43, hx43, hc43⟩, off_ (hoff 11 (by kernel_rfl)), Q_X6_, fun _ => rfl, off_ (hoff 9 (by kernel_rfl))⟩
      refine steps_cons ?_ ?_
      ·rintro b a w' ⟨x0, y0, x1, y1, m6_, m8_, m9_, ha, Q_MM, Q_AR0, Q_RD, Q_LA_, Q_LB_, Q_AR1, Q_X6_, Q_X8_, Q_X9_⟩ hb_ hon hoff
       refine ⟨_, rfl, fun K hK => ?_⟩
       have e138 : a.tmps[138]? = some (m6_) := pton_ ha 1 rfl rfl (hon 6 (by kernel_rfl)) rfl
       rw [Q_X6_ (hon 6 (by kernel_rfl))] at e138
       have e140 : a.tmps[140]? = some (m8_) := pton_ ha 2 rfl rfl (hon 8 (by kernel_rfl)) rfl
       rw [Q_X8_ (hon 8 (by kernel_rfl))] at e140
       replace ha := Aside0.mk ha
       have MM := Aside0.mk Q_MM
       have AR0 := Aside0.mk (Q_AR0 (hoff 11 (by kernel_rfl)))
       have RD := Aside0.mk (Q_RD (hoff 11 (by kernel_rfl)))
       have LA_ := Aside0.mk (Q_LA_ (hon 6 (by kernel_rfl)) (hoff 11 (by kernel_rfl)))
       have LB_ := Aside0.mk (Q_LB_ (hon 8 (by kernel_rfl)) (hoff 11 (by kernel_rfl)))
       refine value_ (w1 := w') (v := .agg #[.slice (some ⟨x0, 0, none⟩) 256 y0, .slice (some ⟨x1, 0, none⟩) 64 y1]) (by rfl) rfl ?_ ?_
       ·go_simp
        (try simp only [i64_w])
        try rfl
       refine hK.out _ _ ⟨x0, y0, x1, y1, m6_, m8_, (.agg #[.slice (some ⟨x0, 0, none⟩) 256 y0, .slice (some ⟨x1, 0, none⟩) 64 y1]), (ptup_ ha.out 3 hb_ rfl rfl rfl), Q_MM, Q_AR0, Q_RD, Q_LA_, Q_LB_, off_ (hoff 11 (by kernel_rfl)), Q_X6_, Q_X8_, fun _ => rfl⟩
      refine steps_cons ?_ ?_
      ·rintro b a w' ⟨x0, y0, x1, y1, m6_, m8_, m9_, ha, Q_MM, Q_AR0, Q_RD, Q_LA_, Q_LB_, Q_AR1, Q_X6_, Q_X8_, Q_X9_⟩ hb_ hon hoff
       refine ⟨_, rfl, fun K hK => ?_⟩
       have e135 : a.tmps[135]? = some (.slice (some ⟨ar.pr kb, 0, none⟩) 6 (ar.pc kb)) := pton_ ha 0 rfl rfl (hon 3 (by kernel_rfl)) rfl
       have e136 : a.tmps[136]? = some (.int .i64 (p : Int)) := by rw [ha]; exact (putSel_off rfl).trans rfl
       replace ha := Aside0.mk ha
       have MM := Aside0.mk Q_MM
       have AR0 := Aside0.mk (Q_AR0 (hoff 11 (by kernel_rfl)))
       have RD := Aside0.mk (Q_RD (hoff 11 (by kernel_rfl)))
       have LA_ := Aside0.mk (Q_LA_ (hon 6 (by kernel_rfl)) (hoff 11 (by kernel_rfl)))
       have LB_ := Aside0.mk (Q_LB_ (hon 8 (by kernel_rfl)) (hoff 11 (by kernel_rfl)))
       refine value_ (w1 := w') (v := .pointer (some ⟨ar.pr kb, p * 2, none⟩)) (by rfl) rfl ?_ ?_
       ·go_simp
        (try simp only [i64_w])
        try rfl
       refine hK.out _ _ ⟨x0, y0, x1, y1, m6_, m8_, m9_, (ptup_ ha.out 4 hb_ rfl rfl rfl), Q_MM, Q_AR0, Q_RD, Q_LA_, Q_LB_, off_ (hoff 11 (by kernel_rfl)), Q_X6_, Q_X8_, Q_X9_⟩
      refine steps_cons ?_ ?_
      ·rintro b a w' ⟨x0, y0, x1, y1, m6_, m8_, m9_, ha, Q_MM, Q_AR0, Q_RD, Q_LA_, Q_LB_, Q_AR1, Q_X6_, Q_X8_, Q_X9_⟩ hb_ hon hoff
       refine ⟨_, rfl, fun K hK => ?_⟩
       have e142 : a.tmps[142]? = some (.pointer (some ⟨ar.pr kb, p * 2, none⟩)) := pton_ ha 4 rfl rfl (hon 10 (by kernel_rfl)) rfl
       have e141 : a.tmps[141]? = some (m9_) := pton_ ha 3 rfl rfl (hon 9 (by kernel_rfl)) rfl
       rw [Q_X9_ (hon 9 (by kernel_rfl))] at e141
       replace ha := Aside0.mk ha
       have MM := Aside0.mk Q_MM
       have AR0 := Aside0.mk (Q_AR0 hb_)
       have RD := Aside0.mk (Q_RD hb_)
       have LA_ := Aside0.mk (Q_LA_ (hon 6 (by kernel_rfl)) hb_)
       have LB_ := Aside0.mk (Q_LB_ (hon 8 (by kernel_rfl)) hb_)
       obtain ⟨u0_, u1_, c0_, c1_⟩ := AR0.out.pgany kb p hb hp
       have f0_ := AR0.out.pgfree kb (p * 2) hb
       have f1_ := AR0.out.pgfree kb (p * 2 + 1) hb
       refine skip_ (w1 := (w'.setCell ⟨ar.pr kb, p * 2, none⟩ (.slice (some ⟨x0, 0, none⟩) 256 y0)).setCell ⟨ar.pr kb, p * 2 + 1, none⟩ (.slice (some ⟨x1, 0, none⟩) 64 y1)) (by rfl) rfl ?_ ?_
       ·go_simp
        try simp only [c0_, c1_, f0_, f1_]
        try rfl
       refine hK.out _ _ ⟨x0, y0, x1, y1, m6_, m8_, m9_, (by rw [ha.out]; exact putSel_none (v := undef) rfl), (MM.out.at_ (.inl (Ar.M_pr ar kb hb)) _ _).at_ (.inl (Ar.M_pr ar kb hb)) _ _, fun h0_ => absurd ((up_self b 11).symm.trans h0_) (by decide), fun h0_ => absurd ((up_self b 11).symm.trans h0_) (by decide), fun _ h1_ => absurd ((up_self b 11).symm.trans h1_) (by decide), fun _ h1_ => absurd ((up_self b 11).symm.trans h1_) (by decide), fun _ => AR0.out.page HFz.out.1 HFz.out.2.1 kb p hb hp _ _ (some (d, o)) (fun D h0 h1 => ⟨_, _, _, _, h0, h1, LA_.out.2.2, LB_.out.2.2, LA_.out.1, LB_.out.1, HFz.out.2.2 _ LA_.out.2.1, HFz.out.2.2 _ LB_.out.2.1, HBY.out.1, HBY.out.2⟩), Q_X6_, Q_X8_, Q_X9_⟩
      exact steps_nil
     ·rintro b a w' hall ⟨x0, y0, x1, y1, m6_, m8_, m9_, ha, Q_MM, Q_AR0, Q_RD, Q_LA_, Q_LB_, Q_AR1, Q_X6_, Q_X8_, Q_X9_⟩
      clear AR0 MM RD
      have hb3_ := hall 3 (by kernel_rfl)
      have hb6_ := hall 6 (by kernel_rfl)
      have hb8_ := hall 8 (by kernel_rfl)
      have hb9_ := hall 9 (by kernel_rfl)
      have hb10_ := hall 10 (by kernel_rfl)
      have hb11_ := hall 11 (by kernel_rfl)
      subst ha
      obtain rfl := Q_X6_ hb6_
      obtain rfl := Q_X8_ hb8_
      obtain rfl := Q_X9_ hb9_
      simp only [putSel, hb3_, hb6_, hb8_, hb9_, hb10_, hb11_, if_true, Act.put, List.setIfInBounds_toArray, List.set_cons_zero, List.set_cons_succ]
      have MM := Aside0.mk Q_MM
      clear Q_MM
      clear Q_AR0
      clear Q_RD
      clear Q_LA_
      clear Q_LB_
      have AR1 := Aside0.mk (Q_AR1 hb11_)
      clear Q_AR1
      clear hall hb3_ hb6_ hb8_ hb9_ hb10_ hb11_
      have hn_ : (((s.go false).setPg kb p (d, o)).bl kb).nx = p := by rw [setPg_nx]; exact HNX.out.1
      have yn1 : w'.cell? ⟨ar.r, kb * 4 + 1, none⟩ = some (.int .i64 (p : Int)) := by have h_ := (AR1.out.bk kb hb).2.1; rw [hn_] at h_; exact h_
      have fn1 := (AR1.out.bk kb hb).2.2.2.2 (kb * 4 + 1)
      have hw1_ : wrap64 ((p : Int) + 1) = ((p + 1 : Nat) : Int) := by unfold wrap64; omega
      have hw2_ : ((p + 1 : Nat) : Int) = (p : Int) + 1 := by omega
      have HAR := Lib.hid AR1.out
      have HMM := Lib.hid (DZ.out.trans MM.out)
      have hnx1 := AR1.out.next HF.out.1 HF.out.2.1 kb hb (p + 1)
      rw [hw2_] at hnx1
      have HNX1 := Lib.hid hnx1
      clear hnx1 hn_ AR1 MM DZ hw2_
      go_wp2_with fail
      go_ret
      exact ⟨by rw [HQ.out]; rfl, by rw [HQ.out]; exact HNX1.out, (HMi.out.trans HMM.out).at_ (.inl (Ar.M_r ar)) _ _⟩
    ·have HQ := Lib.hid (show progS ar s kb p (d, o) = (s.go false, 73) from by rw [progS, if_neg HNO.out, if_neg (by rw [HK.out]; decide), if_neg hnb, if_pos (by rw [HNX.out.1]; exact hpn)])
     have b5 : ((p : Int) != (nx : Int)) = true := by simp; omega
     have b6 : (p != nx) = true := by simp; omega
     clear hnb
     go_wp2_with fail
     go_ret
     exact ⟨by rw [HQ.out]; rfl, by rw [HQ.out]; exact HA1.out.below (bl_alloc (Below.refl _ _) _), HM1.out.alloc _⟩
  | some x =>
   have hk := evFind_kind HF.out.1.ev hfd
   have hks := kind_some hfd
   obtain ⟨xo, xk⟩ := x
   simp only at hk hks
   rcases hk with rfl | rfl
   ·have HK := Lib.hid hks
    clear hfd hks
    simp only [evC]
    cases bd with
    | true =>
     have HQ := Lib.hid (show progS ar s kb p (d, o) = (s.go false, 70) from by rw [progS, if_neg HNO.out, if_neg (by rw [HK.out]; decide), if_pos HNX.out.2])
     go_wp2_with fail
     go_ret
     exact ⟨by rw [HQ.out]; rfl, by rw [HQ.out]; exact HA1.out.below (bl_alloc (Below.refl _ _) _), HM1.out.alloc _⟩
    | false =>
     have hnb : ¬ (s.bl kb).bad = true := by rw [HNX.out.2]; decide
     by_cases hpn : p = nx
     ·subst hpn
      have HQ := Lib.hid (show progS ar s kb p (d, o) = ((((s.go false).setPg kb p (leftPg ar)).setNx kb (p + 1)).setBad kb, 70) from by rw [progS, if_neg HNO.out, if_neg (by rw [HK.out]; decide), if_neg hnb, if_neg (by rw [HNX.out.1]; simp), if_pos HK.out])
      clear hnb
      go_wp2_with fail
      have hge := heap_alloc_new w1 (.cells #[.int .i64 xo, .int .i64 1, .int .i64 0, .slice ar.LA ar.ln ar.lc] 59)
      obtain ⟨wi, hwi⟩ : ∃ wi, w1.alloc (.cells #[.int .i64 xo, .int .i64 1, .int .i64 0, .slice ar.LA ar.ln ar.lc] 59) = wi := ⟨_, rfl⟩
      have hbi : Below w1.heap.size w1 wi := by rw [← hwi]; exact (bl_alloc (Below.refl _ _) _)
      rw [hwi] at hge ⊢
      obtain ⟨gE, hgE⟩ : ∃ gE, w1.heap.size = gE := ⟨_, rfl⟩
      rw [hgE] at hge ⊢
      have GEi := Lib.hid hge
      have ARi := Lib.hid (HA1.out.below hbi)
      have HSi := Lib.hid (Nat.le_trans HS1.out hbi.size)
      have HMi := Lib.hid (HM1.out.trans (Mods.of_below hbi))
      clear hwi hbi hge hgE y2 y3 yn yb HA HR HR1 HA1
      refine start_ (n := 10) (S := fun w' => True) (ds := []) _ (by kernel_rfl) rfl rfl trivial (fun hHeld => ?_)
      refine with_tabW TfS.tab20 TfS.bits20 (fun HT_ HW_ => ?_)
      have GE := Lib.hid (show wi.drew.heap[gE]? = some (.cells #[.int .i64 xo, .int .i64 1, .int .i64 0, .slice ar.LA ar.ln ar.lc] 59 (0, 0)) from GEi.out)
      have AR0 := Lib.hid (show Arr wi.drew ar ok (s.go false) from ARi.out.below (bl_drew (Below.refl _ _)))
      have HFz := Lib.hid (show ar.Fix ∧ (∀ k, ok k → ¬ ar.M k) ∧ ∀ k, wi.drew.heap.size ≤ k → ok k from ⟨HF.out.1, HF.out.2.1, fun k hk => HF.out.2.2 k (Nat.le_trans HSi.out hk)⟩)
      have DZ := Lib.hid (show Mods ar.M wi wi.drew from (Mods.refl _ wi).drewN 1)
      generalize wi.drew = wz at GE AR0 HFz DZ hHeld ⊢
      have MM := Lib.hid (Mods.refl ar.M wz)
      refine pur_ 0 (some 113) HT_.out rfl rfl (by kernel_rfl) (fun _ _ _ h => h) (by rfl) (fun w' => by go_simp; with_reducible rfl) (by simp only [Act.put, List.setIfInBounds_toArray, List.set_cons_zero, List.set_cons_succ, i64_w, i32_w]; rfl) ?_
      refine pur_ 1 (some 114) HT_.out rfl rfl (by kernel_rfl) (fun _ _ _ h => h) (by rfl) (fun w' => by go_simp; with_reducible rfl) (by simp only [Act.put, List.setIfInBounds_toArray, List.set_cons_zero, List.set_cons_succ, i64_w, i32_w]; rfl) ?_
      refine pur_ 2 (some 115) HT_.out rfl rfl (by kernel_rfl) (fun _ _ _ h => h) (by rfl) (fun w' => by go_simp; with_reducible rfl) (by simp only [Act.put, List.setIfInBounds_toArray, List.set_cons_zero, List.set_cons_succ, i64_w, i32_w]; rfl) ?_
      refine pur_ 4 (some 117) HT_.out rfl rfl (by kernel_rfl) (fun _ _ _ h => h) (by rfl) (fun w' => by go_simp; with_reducible rfl) (by simp only [Act.put, List.setIfInBounds_toArray, List.set_cons_zero, List.set_cons_succ, i64_w, i32_w]; rfl) ?_
      refine pur_ 5 (some 118) HT_.out rfl rfl (by kernel_rfl) (fun _ _ _ h => h) (by rfl) (fun w' => by go_simp; with_reducible rfl) (by simp only [Act.put, List.setIfInBounds_toArray, List.set_cons_zero, List.set_cons_succ, i64_w, i32_w]; rfl) ?_
      refine inv_at [3, 6, 7, 8, 9] (fun a0_ b a w' => ∃ (x0 : Nat) (m7_ : Value), a = putSel a0_ b [(3, 116, .slice (some ⟨ar.pr kb, 0, none⟩) 6 (ar.pc kb)), (6, 119, .agg #[.int .i64 xo, .int .i64 1, .int .i64 0, .slice ar.LA ar.ln ar.lc]), (7, 120, m7_), (8, 121, .pointer (some ⟨ar.pr kb, p * 2, none⟩))] ∧ (Mods ar.M wz w') ∧ (b 9 = false → w'.heap[gE]? = some (.cells #[.int .i64 xo, .int .i64 1, .int .i64 0, .slice ar.LA ar.ln ar.lc] 59 (0, 0))) ∧ (b 9 = false → Arr w' ar ok (s.go false)) ∧ (b 7 = true → b 9 = false → ReadsInt w' .u8 (some ⟨x0, 0, none⟩) 256 (leftD ar.lf) ∧ ReadsInt w' .u8 (some ⟨x0, 256, none⟩) 64 (leftO ar.lf) ∧ wz.heap.size ≤ x0) ∧ (b 9 = true → Arr w' ar ok ((s.go false).setPg kb p (leftD ar.lf, leftO ar.lf))) ∧ (b 7 = true → (m7_ : Value) = .agg #[.slice (some ⟨x0, 0, none⟩) 256 256, .slice (some ⟨x0, 256, none⟩) 64 64])) HT_.out HW_.out (by kernel_rfl) (by kernel_rfl) ?_ ?_ ?_
      ·exact ⟨0, .bool false, by simp only [putSel, Bool.false_eq_true, if_false], MM.out, fun _ => GE.out, fun _ => AR0.out, fun h_ => absurd h_ (by decide), fun h_ => absurd h_ (by decide), fun h_ => absurd h_ (by decide)⟩
      ·skip
       clear AR0 GE MM
       refine steps_cons ?_ ?_
       ·rintro b a w' ⟨x0, m7_, ha, Q_MM, Q_GE, Q_AR0, Q_LR, Q_AR1, Q_X7_⟩ hb_ hon hoff
        refine ⟨_, rfl, fun K hK => ?_⟩
        have e115 : a.tmps[115]? = some (.pointer (some ⟨ar.r, kb * 4, none⟩)) := by rw [ha]; exact (putSel_off rfl).trans rfl
        replace ha := Aside0.mk ha
        have MM := Aside0.mk Q_MM
        have GE := Aside0.mk (Q_GE (hoff 9 (by kernel_rfl)))
        have AR0 := Aside0.mk (Q_AR0 (hoff 9 (by kernel_rfl)))
        have hc_ : w'.cell? ⟨ar.r, kb * 4, none⟩ = some (.slice (some ⟨ar.pr kb, 0, none⟩) 6 (ar.pc kb)) := (AR0.out.bk kb hb).1
        refine value_ (w1 := w') (v := .slice (some ⟨ar.pr kb, 0, none⟩) 6 (ar.pc kb)) (by rfl) rfl ?_ ?_
        ·go_simp
         (try simp only [i64_w])
         try rfl
        refine hK.out _ _ ⟨x0, m7_, (ptup_ ha.out 0 hb_ rfl rfl rfl), Q_MM, Q_GE, Q_AR0, Q_LR, off_ (hoff 9 (by kernel_rfl)), Q_X7_⟩
       refine steps_cons ?_ ?_
       ·rintro b a w' ⟨x0, m7_, ha, Q_MM, Q_GE, Q_AR0, Q_LR, Q_AR1, Q_X7_⟩ hb_ hon hoff
        refine ⟨_, rfl, fun K hK => ?_⟩
        have e14 : a.tmps[14]? = some (.pointer (some ⟨gE, 0, none⟩)) := by rw [ha]; exact (putSel_off rfl).trans rfl
        replace ha := Aside0.mk ha
        have MM := Aside0.mk Q_MM
        have GE := Aside0.mk (Q_GE (hoff 9 (by kernel_rfl)))
        have AR0 := Aside0.mk (Q_AR0 (hoff 9 (by kernel_rfl)))
        have e0_ := (blk_cell GE.out 0).trans rfl
        have e1_ := (blk_cell GE.out 1).trans rfl
        have e2_ := (blk_cell GE.out 2).trans rfl
        have e3_ := (blk_cell GE.out 3).trans rfl
        refine value_ (w1 := w') (v := .agg #[.int .i64 xo, .int .i64 1, .int .i64 0, .slice ar.LA ar.ln ar.lc]) (by rfl) rfl ?_ ?_
        ·go_simp
         (try simp only [i64_w])
         try rfl
        refine hK.out _ _ ⟨x0, m7_, (ptup_ ha.out 1 hb_ rfl rfl rfl), Q_MM, Q_GE, Q_AR0, fun h0_ _ => off_ (hoff 7 (by kernel_rfl)) h0_, off_ (hoff 9 (by kernel_rfl)), off_ (hoff 7 (by kernel_rfl))⟩
       refine steps_cons ?_ ?_
       ·rintro b a w' ⟨x0, m7_, ha, Q_MM, Q_GE, Q_AR0, Q_LR, Q_AR1, Q_X7_⟩ hb_ hon hoff
        refine ⟨_, rfl, fun K hK => ?_⟩
        have e118 : a.tmps[118]? = some (.pointer (some ⟨ar.p, 0, none⟩)) := by rw [ha]; exact (putSel_off rfl).trans rfl
        have e119 : a.tmps[119]? = some (.agg #[.int .i64 xo, .int .i64 1, .int .i64 0, .slice ar.LA ar.ln ar.lc]) := pton_ ha 1 rfl rfl (hon 6 (by kernel_rfl)) rfl
        replace ha := Aside0.mk ha
        have MM := Aside0.mk Q_MM
        have GE := Aside0.mk (Q_GE (hoff 9 (by kernel_rfl)))
        have AR0 := Aside0.mk (Q_AR0 (hoff 9 (by kernel_rfl)))
        refine goes_ Try.func54 (by kernel_rfl) rfl #[.pointer (some ⟨ar.p, 0, none⟩), .agg #[.int .i64 xo, .int .i64 1, .int .i64 0, .slice ar.LA ar.ln ar.lc]] (by rfl) rfl rfl (by first | (simp only [List.map_toArray, List.map_cons, List.map_nil, Act.eval, Array.getD_eq_getD_getElem?, Option.getD_some, e118, e119]; done) | (simp only [List.map_toArray, List.map_cons, List.map_nil, Act.eval, Array.getD_eq_getD_getElem?, Option.getD_some, e118, e119]; rfl)) ?_
        refine (left_any ar.p _ _ _ _ _ xo 1 ar.LA ar.ln ar.lc ar.lf w' AR0.out.1 AR0.out.2.2.2.2.1 HFz.out.1.byt HFz.out.1.l_le).mono ?_
        rintro e w1 ⟨g_, rfl, g1, g2, g3, g4⟩
        refine ⟨_, rfl, ?_⟩
        refine hK.out _ _ ⟨g_, (.agg #[.slice (some ⟨g_, 0, none⟩) 256 256, .slice (some ⟨g_, 256, none⟩) 64 64]), (ptup_ ha.out 2 hb_ rfl rfl rfl), MM.out.trans (Mods.of_below g2), fun _ => blk_below GE.out g2, fun _ => AR0.out.below g2, fun _ _ => ⟨g3, g4, Nat.le_trans MM.out.size g1⟩, off_ (hoff 9 (by kernel_rfl)), fun _ => rfl⟩
       refine steps_cons ?_ ?_
       ·rintro b a w' ⟨x0, m7_, ha, Q_MM, Q_GE, Q_AR0, Q_LR, Q_AR1, Q_X7_⟩ hb_ hon hoff
        refine ⟨_, rfl, fun K hK => ?_⟩
        have e116 : a.tmps[116]? = some (.slice (some ⟨ar.pr kb, 0, none⟩) 6 (ar.pc kb)) := pton_ ha 0 rfl rfl (hon 3 (by kernel_rfl)) rfl
        have e117 : a.tmps[117]? = some (.int .i64 (p : Int)) := by rw [ha]; exact (putSel_off rfl).trans rfl
        replace ha := Aside0.mk ha
        have MM := Aside0.mk Q_MM
        have GE := Aside0.mk (Q_GE (hoff 9 (by kernel_rfl)))
        have AR0 := Aside0.mk (Q_AR0 (hoff 9 (by kernel_rfl)))
        have LR := Aside0.mk (Q_LR (hon 7 (by kernel_rfl)) (hoff 9 (by kernel_rfl)))
        refine value_ (w1 := w') (v := .pointer (some ⟨ar.pr kb, p * 2, none⟩)) (by rfl) rfl ?_ ?_
        ·go_simp
         (try simp only [i64_w])
         try rfl
        refine hK.out _ _ ⟨x0, m7_, (ptup_ ha.out 3 hb_ rfl rfl rfl), Q_MM, Q_GE, Q_AR0, Q_LR, off_ (hoff 9 (by kernel_rfl)), Q_X7_⟩
       refine steps_cons ?_ ?_
       ·rintro b a w' ⟨x0, m7_, ha, Q_MM, Q_GE, Q_AR0, Q_LR, Q_AR1, Q_X7_⟩ hb_ hon hoff
        refine ⟨_, rfl, fun K hK => ?_⟩
        have e121 : a.tmps[121]? = some (.pointer (some ⟨ar.pr kb, p * 2, none⟩)) := pton_ ha 3 rfl rfl (hon 8 (by kernel_rfl)) rfl
        have e120 : a.tmps[120]? = some (m7_) := pton_ ha 2 rfl rfl (hon 7 (by kernel_rfl)) rfl
        rw [Q_X7_ (hon 7 (by kernel_rfl))] at e120
        replace ha := Aside0.mk ha
        have MM := Aside0.mk Q_MM
        have GE := Aside0.mk (Q_GE hb_)
        have AR0 := Aside0.mk (Q_AR0 hb_)
        have LR := Aside0.mk (Q_LR (hon 7 (by kernel_rfl)) hb_)
        obtain ⟨u0_, u1_, c0_, c1_⟩ := AR0.out.pgany kb p hb hp
        have f0_ := AR0.out.pgfree kb (p * 2) hb
        have f1_ := AR0.out.pgfree kb (p * 2 + 1) hb
        refine skip_ (w1 := (w'.setCell ⟨ar.pr kb, p * 2, none⟩ (.slice (some ⟨x0, 0, none⟩) 256 256)).setCell ⟨ar.pr kb, p * 2 + 1, none⟩ (.slice (some ⟨x0, 256, none⟩) 64 64)) (by rfl) rfl ?_ ?_
        ·go_simp
         try simp only [c0_, c1_, f0_, f1_]
         try rfl
        refine hK.out _ _ ⟨x0, m7_, (by rw [ha.out]; exact putSel_none (v := undef) rfl), (MM.out.at_ (.inl (Ar.M_pr ar kb hb)) _ _).at_ (.inl (Ar.M_pr ar kb hb)) _ _, fun h0_ => absurd ((up_self b 9).symm.trans h0_) (by decide), fun h0_ => absurd ((up_self b 9).symm.trans h0_) (by decide), fun _ h1_ => absurd ((up_self b 9).symm.trans h1_) (by decide), fun _ => AR0.out.page HFz.out.1 HFz.out.2.1 kb p hb hp _ _ (some (leftD ar.lf, leftO ar.lf)) (fun D h0 h1 => ⟨_, _, _, _, h0, h1, Nat.le_refl _, Nat.le_refl _, LR.out.1, LR.out.2.1, HFz.out.2.2 _ LR.out.2.2, HFz.out.2.2 _ LR.out.2.2, leftD_byt HFz.out.1.byt, leftO_byt HFz.out.1.byt⟩), Q_X7_⟩
       exact steps_nil
      ·rintro b a w' hall ⟨x0, m7_, ha, Q_MM, Q_GE, Q_AR0, Q_LR, Q_AR1, Q_X7_⟩
       clear AR0 GE MM
       have hb3_ := hall 3 (by kernel_rfl)
       have hb6_ := hall 6 (by kernel_rfl)
       have hb7_ := hall 7 (by kernel_rfl)
       have hb8_ := hall 8 (by kernel_rfl)
       have hb9_ := hall 9 (by kernel_rfl)
       subst ha
       obtain rfl := Q_X7_ hb7_
       simp only [putSel, hb3_, hb6_, hb7_, hb8_, hb9_, if_true, Act.put, List.setIfInBounds_toArray, List.set_cons_zero, List.set_cons_succ]
       have MM := Aside0.mk Q_MM
       clear Q_MM
       clear Q_GE
       clear Q_AR0
       clear Q_LR
       have AR1 := Aside0.mk (Q_AR1 hb9_)
       clear Q_AR1
       clear hall hb3_ hb6_ hb7_ hb8_ hb9_
       have hn_ : (((s.go false).setPg kb p (leftD ar.lf, leftO ar.lf)).bl kb).nx = p := by rw [setPg_nx]; exact HNX.out.1
       have yn1 : w'.cell? ⟨ar.r, kb * 4 + 1, none⟩ = some (.int .i64 (p : Int)) := by have h_ := (AR1.out.bk kb hb).2.1; rw [hn_] at h_; exact h_
       have fn1 := (AR1.out.bk kb hb).2.2.2.2 (kb * 4 + 1)
       have hw1_ : wrap64 ((p : Int) + 1) = ((p + 1 : Nat) : Int) := by unfold wrap64; omega
       have hw2_ : ((p + 1 : Nat) : Int) = (p : Int) + 1 := by omega
       have HAR := Lib.hid AR1.out
       have HMM := Lib.hid (DZ.out.trans MM.out)
       have hnx1 := AR1.out.next HF.out.1 HF.out.2.1 kb hb (p + 1)
       rw [hw2_] at hnx1
       have HNX1 := Lib.hid hnx1
       clear hnx1 hn_ AR1 MM DZ hw2_
       have fb1 : ∀ v, (w'.setCell ⟨ar.r, kb * 4 + 1, none⟩ v).frozen? ⟨ar.r, kb * 4 + 3, none⟩ = false := fun v => by
        have h_ := (HAR.out.bk kb hb).2.2.2.2 (kb * 4 + 3)
        simpa using h_
       have yb1 : (w'.setCell ⟨ar.r, kb * 4 + 1, none⟩ (.int .i64 ((p : Int) + 1))).cell? ⟨ar.r, kb * 4 + 3, none⟩ = some (.bool false) := by
        have h_ := (HNX1.out.bk kb hb).2.2.2.1
        rw [h_]
        simp [upd, St.setPg, St.go, HNX.out.2]
       have HSP := Lib.hid (HNX1.out.spoil HF.out.1 HF.out.2.1 kb hb true)
       go_wp2_with fail
       go_ret
       exact ⟨by rw [HQ.out]; rfl, by rw [HQ.out]; exact HSP.out, ((HMi.out.trans HMM.out).at_ (.inl (Ar.M_r ar)) _ _).at_ (.inl (Ar.M_r ar)) _ _⟩
     ·have HQ := Lib.hid (show progS ar s kb p (d, o) = (s.go false, 73) from by rw [progS, if_neg HNO.out, if_neg (by rw [HK.out]; decide), if_neg hnb, if_pos (by rw [HNX.out.1]; exact hpn)])
      have b5 : ((p : Int) != (nx : Int)) = true := by simp; omega
      have b6 : (p != nx) = true := by simp; omega
      clear hnb
      go_wp2_with fail
      go_ret
      exact ⟨by rw [HQ.out]; rfl, by rw [HQ.out]; exact HA1.out.below (bl_alloc (Below.refl _ _) _), HM1.out.alloc _⟩
   ·have HK := Lib.hid hks
    clear hfd hks
    simp only [evC]
    have y8 : ∀ o, (w1.alloc o).cell? ⟨ar.p, 8, none⟩ = some (.bool false) := fun o => pw_cell_below (bl_alloc (Below.refl _ _) o) (arr_cells HA1.out.1).2.2.2.2.2.2.2.2
    have f8 : ∀ o, (w1.alloc o).frozen? ⟨ar.p, 8, none⟩ = false := fun o => blk_frozen (blk_alloc HA1.out.1 o) 8
    have hrp := HF.out.1.r_p
    have hge0 := heap_alloc_new w1 (.cells #[.int .i64 xo, .int .i64 2, .int .i64 0, .slice ar.LA ar.ln ar.lc] 59)
    have hgp : w1.heap.size ≠ ar.p := by have h_ := blk_lt HA1.out.1; omega
    have hge := blk_far hge0 (p := ⟨ar.p, 8, none⟩) hgp (.bool true)
    have har : Arr ((w1.alloc (.cells #[.int .i64 xo, .int .i64 2, .int .i64 0, .slice ar.LA ar.ln ar.lc] 59)).setCell ⟨ar.p, 8, none⟩ (.bool true)) ar ok (s.go true) := (HA1.out.below (bl_alloc (Below.refl _ _) _)).power HF.out.1 HF.out.2.1 true
    have yn2 : ((w1.alloc (.cells #[.int .i64 xo, .int .i64 2, .int .i64 0, .slice ar.LA ar.ln ar.lc] 59)).setCell ⟨ar.p, 8, none⟩ (.bool true)).cell? ⟨ar.r, kb * 4 + 1, none⟩ = some (.int .i64 (nx : Int)) := by have h_ := (har.bk kb hb).2.1; rw [show ((s.go true).bl kb).nx = nx from HNX.out.1] at h_; exact h_
    have yb2 : ((w1.alloc (.cells #[.int .i64 xo, .int .i64 2, .int .i64 0, .slice ar.LA ar.ln ar.lc] 59)).setCell ⟨ar.p, 8, none⟩ (.bool true)).cell? ⟨ar.r, kb * 4 + 3, none⟩ = some (.bool bd) := by have h_ := (har.bk kb hb).2.2.2.1; rw [show ((s.go true).bl kb).bad = bd from HNX.out.2] at h_; exact h_
    have hmi : Mods ar.M w ((w1.alloc (.cells #[.int .i64 xo, .int .i64 2, .int .i64 0, .slice ar.LA ar.ln ar.lc] 59)).setCell ⟨ar.p, 8, none⟩ (.bool true)) := (HM1.out.alloc _).at_ (.inl (Ar.M_p ar)) 8 _
    have GEi := Lib.hid hge
    have ARi := Lib.hid har
    have HMi := Lib.hid hmi
    clear hge hge0 hgp har hmi
    by_cases hpn : p = nx
    ·subst hpn
     cases bd with
     | false =>
      have HQ := Lib.hid (show progS ar s kb p (d, o) = (((s.go true).setPg kb p (leftPg ar)).setNx kb (p + 1), 72) from by rw [progS, if_neg HNO.out, if_pos HK.out, if_pos ⟨HNX.out.1.symm, HNX.out.2⟩])
      have b5 : ((p : Int) == (p : Int)) = true := by simp
      go_wp2_with fail
      obtain ⟨wi, hwi⟩ : ∃ wi, (w1.alloc (.cells #[.int .i64 xo, .int .i64 2, .int .i64 0, .slice ar.LA ar.ln ar.lc] 59)).setCell ⟨ar.p, 8, none⟩ (.bool true) = wi := ⟨_, rfl⟩
      rw [hwi] at GEi ARi HMi ⊢
      obtain ⟨gE, hgE⟩ : ∃ gE, w1.heap.size = gE := ⟨_, rfl⟩
      rw [hgE] at GEi ⊢
      have HSi := Lib.hid HMi.out.size
      clear hwi hgE y2 y3 yn yb yn2 yb2 y8 f8 hrp HA HR HR1 HA1 b5
      refine start_ (n := 10) (S := fun w' => True) (ds := []) _ (by kernel_rfl) rfl rfl trivial (fun hHeld => ?_)
      refine with_tabW TfR.tab12 TfR.bits12 (fun HT_ HW_ => ?_)
      have GE := Lib.hid (show wi.drew.heap[gE]? = some (.cells #[.int .i64 xo, .int .i64 2, .int .i64 0, .slice ar.LA ar.ln ar.lc] 59 (0, 0)) from GEi.out)
      have AR0 := Lib.hid (show Arr wi.drew ar ok (s.go true) from ARi.out.below (bl_drew (Below.refl _ _)))
      have HFz := Lib.hid (show ar.Fix ∧ (∀ k, ok k → ¬ ar.M k) ∧ ∀ k, wi.drew.heap.size ≤ k → ok k from ⟨HF.out.1, HF.out.2.1, fun k hk => HF.out.2.2 k (Nat.le_trans HSi.out hk)⟩)
      have DZ := Lib.hid (show Mods ar.M wi wi.drew from (Mods.refl _ wi).drewN 1)
      generalize wi.drew = wz at GE AR0 HFz DZ hHeld ⊢
      have MM := Lib.hid (Mods.refl ar.M wz)
      refine pur_ 0 (some 81) HT_.out rfl rfl (by kernel_rfl) (fun _ _ _ h => h) (by rfl) (fun w' => by go_simp; with_reducible rfl) (by simp only [Act.put, List.setIfInBounds_toArray, List.set_cons_zero, List.set_cons_succ, i64_w, i32_w]; rfl) ?_
      refine pur_ 1 (some 82) HT_.out rfl rfl (by kernel_rfl) (fun _ _ _ h => h) (by rfl) (fun w' => by go_simp; with_reducible rfl) (by simp only [Act.put, List.setIfInBounds_toArray, List.set_cons_zero, List.set_cons_succ, i64_w, i32_w]; rfl) ?_
      refine pur_ 2 (some 83) HT_.out rfl rfl (by kernel_rfl) (fun _ _ _ h => h) (by rfl) (fun w' => by go_simp; with_reducible rfl) (by simp only [Act.put, List.setIfInBounds_toArray, List.set_cons_zero, List.set_cons_succ, i64_w, i32_w]; rfl) ?_
      refine pur_ 4 (some 85) HT_.out rfl rfl (by kernel_rfl) (fun _ _ _ h => h) (by rfl) (fun w' => by go_simp; with_reducible rfl) (by simp only [Act.put, List.setIfInBounds_toArray, List.set_cons_zero, List.set_cons_succ, i64_w, i32_w]; rfl) ?_
      refine pur_ 5 (some 86) HT_.out rfl rfl (by kernel_rfl) (fun _ _ _ h => h) (by rfl) (fun w' => by go_simp; with_reducible rfl) (by simp only [Act.put, List.setIfInBounds_toArray, List.set_cons_zero, List.set_cons_succ, i64_w, i32_w]; rfl) ?_
      refine inv_at [3, 6, 7, 8, 9] (fun a0_ b a w' => ∃ (x0 : Nat) (m7_ : Value), a = putSel a0_ b [(3, 84, .slice (some ⟨ar.pr kb, 0, none⟩) 6 (ar.pc kb)), (6, 87, .agg #[.int .i64 xo, .int .i64 2, .int .i64 0, .slice ar.LA ar.ln ar.lc]), (7, 88, m7_), (8, 89, .pointer (some ⟨ar.pr kb, p * 2, none⟩))] ∧ (Mods ar.M wz w') ∧ (b 9 = false → w'.heap[gE]? = some (.cells #[.int .i64 xo, .int .i64 2, .int .i64 0, .slice ar.LA ar.ln ar.lc] 59 (0, 0))) ∧ (b 9 = false → Arr w' ar ok (s.go true)) ∧ (b 7 = true → b 9 = false → ReadsInt w' .u8 (some ⟨x0, 0, none⟩) 256 (leftD ar.lf) ∧ ReadsInt w' .u8 (some ⟨x0, 256, none⟩) 64 (leftO ar.lf) ∧ wz.heap.size ≤ x0) ∧ (b 9 = true → Arr w' ar ok ((s.go true).setPg kb p (leftD ar.lf, leftO ar.lf))) ∧ (b 7 = true → (m7_ : Value) = .agg #[.slice (some ⟨x0, 0, none⟩) 256 256, .slice (some ⟨x0, 256, none⟩) 64 64])) HT_.out HW_.out (by kernel_rfl) (by kernel_rfl) ?_ ?_ ?_
      ·exact ⟨0, .bool false, by simp only [putSel, Bool.false_eq_true, if_false], MM.out, fun _ => GE.out, fun _ => AR0.out, fun h_ => absurd h_ (by decide), fun h_ => absurd h_ (by decide), fun h_ => absurd h_ (by decide)⟩
      ·skip
       clear AR0 GE MM
       refine steps_cons ?_ ?_
       ·rintro b a w' ⟨x0, m7_, ha, Q_MM, Q_GE, Q_AR0, Q_LR, Q_AR1, Q_X7_⟩ hb_ hon hoff
        refine ⟨_, rfl, fun K hK => ?_⟩
        have e83 : a.tmps[83]? = some (.pointer (some ⟨ar.r, kb * 4, none⟩)) := by rw [ha]; exact (putSel_off rfl).trans rfl
        replace ha := Aside0.mk ha
        have MM := Aside0.mk Q_MM
        have GE := Aside0.mk (Q_GE (hoff 9 (by kernel_rfl)))
        have AR0 := Aside0.mk (Q_AR0 (hoff 9 (by kernel_rfl)))
        have hc_ : w'.cell? ⟨ar.r, kb * 4, none⟩ = some (.slice (some ⟨ar.pr kb, 0, none⟩) 6 (ar.pc kb)) := (AR0.out.bk kb hb).1
        refine value_ (w1 := w') (v := .slice (some ⟨ar.pr kb, 0, none⟩) 6 (ar.pc kb)) (by rfl) rfl ?_ ?_
        ·go_simp
         (try simp only [i64_w])
         try rfl
        refine hK.out _ _ ⟨x0, m7_, (ptup_ ha.out 0 hb_ rfl rfl rfl), Q_MM, Q_GE, Q_AR0, Q_LR, off_ (hoff 9 (by kernel_rfl)), Q_X7_⟩
       refine steps_cons ?_ ?_
       ·rintro b a w' ⟨x0, m7_, ha, Q_MM, Q_GE, Q_AR0, Q_LR, Q_AR1, Q_X7_⟩ hb_ hon hoff
        refine ⟨_, rfl, fun K hK => ?_⟩
        have e14 : a.tmps[14]? = some (.pointer (some ⟨gE, 0, none⟩)) := by rw [ha]; exact (putSel_off rfl).trans rfl
        replace ha := Aside0.mk ha
        have MM := Aside0.mk Q_MM
        have GE := Aside0.mk (Q_GE (hoff 9 (by kernel_rfl)))
        have AR0 := Aside0.mk (Q_AR0 (hoff 9 (by kernel_rfl)))
        have e0_ := (blk_cell GE.out 0).trans rfl
        have e1_ := (blk_cell GE.out 1).trans rfl
        have e2_ := (blk_cell GE.out 2).trans rfl
        have e3_ := (blk_cell GE.out 3).trans rfl
        refine value_ (w1 := w') (v := .agg #[.int .i64 xo, .int .i64 2, .int .i64 0, .slice ar.LA ar.ln ar.lc]) (by rfl) rfl ?_ ?_
        ·go_simp
         (try simp only [i64_w])
         try rfl
        refine hK.out _ _ ⟨x0, m7_, (ptup_ ha.out 1 hb_ rfl rfl rfl), Q_MM, Q_GE, Q_AR0, fun h0_ _ => off_ (hoff 7 (by kernel_rfl)) h0_, off_ (hoff 9 (by kernel_rfl)), off_ (hoff 7 (by kernel_rfl))⟩
       refine steps_cons ?_ ?_
       ·rintro b a w' ⟨x0, m7_, ha, Q_MM, Q_GE, Q_AR0, Q_LR, Q_AR1, Q_X7_⟩ hb_ hon hoff
        refine ⟨_, rfl, fun K hK => ?_⟩
        have e86 : a.tmps[86]? = some (.pointer (some ⟨ar.p, 0, none⟩)) := by rw [ha]; exact (putSel_off rfl).trans rfl
        have e87 : a.tmps[87]? = some (.agg #[.int .i64 xo, .int .i64 2, .int .i64 0, .slice ar.LA ar.ln ar.lc]) := pton_ ha 1 rfl rfl (hon 6 (by kernel_rfl)) rfl
        replace ha := Aside0.mk ha
        have MM := Aside0.mk Q_MM
        have GE := Aside0.mk (Q_GE (hoff 9 (by kernel_rfl)))
        have AR0 := Aside0.mk (Q_AR0 (hoff 9 (by kernel_rfl)))
        refine goes_ Try.func54 (by kernel_rfl) rfl #[.pointer (some ⟨ar.p, 0, none⟩), .agg #[.int .i64 xo, .int .i64 2, .int .i64 0, .slice ar.LA ar.ln ar.lc]] (by rfl) rfl rfl (by first | (simp only [List.map_toArray, List.map_cons, List.map_nil, Act.eval, Array.getD_eq_getD_getElem?, Option.getD_some, e86, e87]; done) | (simp only [List.map_toArray, List.map_cons, List.map_nil, Act.eval, Array.getD_eq_getD_getElem?, Option.getD_some, e86, e87]; rfl)) ?_
        refine (left_any ar.p _ _ _ _ _ xo 2 ar.LA ar.ln ar.lc ar.lf w' AR0.out.1 AR0.out.2.2.2.2.1 HFz.out.1.byt HFz.out.1.l_le).mono ?_
        rintro e w1 ⟨g_, rfl, g1, g2, g3, g4⟩
        refine ⟨_, rfl, ?_⟩
        refine hK.out _ _ ⟨g_, (.agg #[.slice (some ⟨g_, 0, none⟩) 256 256, .slice (some ⟨g_, 256, none⟩) 64 64]), (ptup_ ha.out 2 hb_ rfl rfl rfl), MM.out.trans (Mods.of_below g2), fun _ => blk_below GE.out g2, fun _ => AR0.out.below g2, fun _ _ => ⟨g3, g4, Nat.le_trans MM.out.size g1⟩, off_ (hoff 9 (by kernel_rfl)), fun _ => rfl⟩
       refine steps_cons ?_ ?_
       ·rintro b a w' ⟨x0, m7_, ha, Q_MM, Q_GE, Q_AR0, Q_LR, Q_AR1, Q_X7_⟩ hb_ hon hoff
        refine ⟨_, rfl, fun K hK => ?_⟩
        have e84 : a.tmps[84]? = some (.slice (some ⟨ar.pr kb, 0, none⟩) 6 (ar.pc kb)) := pton_ ha 0 rfl rfl (hon 3 (by kernel_rfl)) rfl
        have e85 : a.tmps[85]? = some (.int .i64 (p : Int)) := by rw [ha]; exact (putSel_off rfl).trans rfl
        replace ha := Aside0.mk ha
        have MM := Aside0.mk Q_MM
        have GE := Aside0.mk (Q_GE (hoff 9 (by kernel_rfl)))
        have AR0 := Aside0.mk (Q_AR0 (hoff 9 (by kernel_rfl)))
        have LR := Aside0.mk (Q_LR (hon 7 (by kernel_rfl)) (hoff 9 (by kernel_rfl)))
        refine value_ (w1 := w') (v := .pointer (some ⟨ar.pr kb, p * 2, none⟩)) (by rfl) rfl ?_ ?_
        ·go_simp
         (try simp only [i64_w])
         try rfl
        refine hK.out _ _ ⟨x0, m7_, (ptup_ ha.out 3 hb_ rfl rfl rfl), Q_MM, Q_GE, Q_AR0, Q_LR, off_ (hoff 9 (by kernel_rfl)), Q_X7_⟩
       refine steps_cons ?_ ?_
       ·rintro b a w' ⟨x0, m7_, ha, Q_MM, Q_GE, Q_AR0, Q_LR, Q_AR1, Q_X7_⟩ hb_ hon hoff
        refine ⟨_, rfl, fun K hK => ?_⟩
        have e89 : a.tmps[89]? = some (.pointer (some ⟨ar.pr kb, p * 2, none⟩)) := pton_ ha 3 rfl rfl (hon 8 (by kernel_rfl)) rfl
        have e88 : a.tmps[88]? = some (m7_) := pton_ ha 2 rfl rfl (hon 7 (by kernel_rfl)) rfl
        rw [Q_X7_ (hon 7 (by kernel_rfl))] at e88
        replace ha := Aside0.mk ha
        have MM := Aside0.mk Q_MM
        have GE := Aside0.mk (Q_GE hb_)
        have AR0 := Aside0.mk (Q_AR0 hb_)
        have LR := Aside0.mk (Q_LR (hon 7 (by kernel_rfl)) hb_)
        obtain ⟨u0_, u1_, c0_, c1_⟩ := AR0.out.pgany kb p hb hp
        have f0_ := AR0.out.pgfree kb (p * 2) hb
        have f1_ := AR0.out.pgfree kb (p * 2 + 1) hb
        refine skip_ (w1 := (w'.setCell ⟨ar.pr kb, p * 2, none⟩ (.slice (some ⟨x0, 0, none⟩) 256 256)).setCell ⟨ar.pr kb, p * 2 + 1, none⟩ (.slice (some ⟨x0, 256, none⟩) 64 64)) (by rfl) rfl ?_ ?_
        ·go_simp
         try simp only [c0_, c1_, f0_, f1_]
         try rfl
        refine hK.out _ _ ⟨x0, m7_, (by rw [ha.out]; exact putSel_none (v := undef) rfl), (MM.out.at_ (.inl (Ar.M_pr ar kb hb)) _ _).at_ (.inl (Ar.M_pr ar kb hb)) _ _, fun h0_ => absurd ((up_self b 9).symm.trans h0_) (by decide), fun h0_ => absurd ((up_self b 9).symm.trans h0_) (by decide), fun _ h1_ => absurd ((up_self b 9).symm.trans h1_) (by decide), fun _ => AR0.out.page HFz.out.1 HFz.out.2.1 kb p hb hp _ _ (some (leftD ar.lf, leftO ar.lf)) (fun D h0 h1 => ⟨_, _, _, _, h0, h1, Nat.le_refl _, Nat.le_refl _, LR.out.1, LR.out.2.1, HFz.out.2.2 _ LR.out.2.2, HFz.out.2.2 _ LR.out.2.2, leftD_byt HFz.out.1.byt, leftO_byt HFz.out.1.byt⟩), Q_X7_⟩
       exact steps_nil
      ·rintro b a w' hall ⟨x0, m7_, ha, Q_MM, Q_GE, Q_AR0, Q_LR, Q_AR1, Q_X7_⟩
       clear AR0 GE MM
       have hb3_ := hall 3 (by kernel_rfl)
       have hb6_ := hall 6 (by kernel_rfl)
       have hb7_ := hall 7 (by kernel_rfl)
       have hb8_ := hall 8 (by kernel_rfl)
       have hb9_ := hall 9 (by kernel_rfl)
       subst ha
       obtain rfl := Q_X7_ hb7_
       simp only [putSel, hb3_, hb6_, hb7_, hb8_, hb9_, if_true, Act.put, List.setIfInBounds_toArray, List.set_cons_zero, List.set_cons_succ]
       have MM := Aside0.mk Q_MM
       clear Q_MM
       clear Q_GE
       clear Q_AR0
       clear Q_LR
       have AR1 := Aside0.mk (Q_AR1 hb9_)
       clear Q_AR1
       clear hall hb3_ hb6_ hb7_ hb8_ hb9_
       have hn_ : (((s.go true).setPg kb p (leftD ar.lf, leftO ar.lf)).bl kb).nx = p := by rw [setPg_nx]; exact HNX.out.1
       have yn1 : w'.cell? ⟨ar.r, kb * 4 + 1, none⟩ = some (.int .i64 (p : Int)) := by have h_ := (AR1.out.bk kb hb).2.1; rw [hn_] at h_; exact h_
       have fn1 := (AR1.out.bk kb hb).2.2.2.2 (kb * 4 + 1)
       have hw1_ : wrap64 ((p : Int) + 1) = ((p + 1 : Nat) : Int) := by unfold wrap64; omega
       have hw2_ : ((p + 1 : Nat) : Int) = (p : Int) + 1 := by omega
       have HAR := Lib.hid AR1.out
       have HMM := Lib.hid (DZ.out.trans MM.out)
       have hnx1 := AR1.out.next HF.out.1 HF.out.2.1 kb hb (p + 1)
       rw [hw2_] at hnx1
       have HNX1 := Lib.hid hnx1
       clear hnx1 hn_ AR1 MM DZ hw2_
       go_wp2_with fail
       go_ret
       exact ⟨by rw [HQ.out]; rfl, by rw [HQ.out]; exact HNX1.out, (HMi.out.trans HMM.out).at_ (.inl (Ar.M_r ar)) _ _⟩
     | true =>
      have HQ := Lib.hid (show progS ar s kb p (d, o) = (s.go true, 72) from by rw [progS, if_neg HNO.out, if_pos HK.out, if_neg (by rw [HNX.out.2]; simp)])
      have b5 : ((p : Int) == (p : Int)) = true := by simp
      go_wp2_with fail
      go_ret
      exact ⟨by rw [HQ.out]; rfl, by rw [HQ.out]; exact ARi.out, HMi.out⟩
    ·have HQ := Lib.hid (show progS ar s kb p (d, o) = (s.go true, 72) from by rw [progS, if_neg HNO.out, if_pos HK.out, if_neg (by rw [HNX.out.1]; exact fun e => hpn e.1)])
     have b5 : ((p : Int) == (nx : Int)) = false := by simp; omega
     have b6 : (p == nx) = false := by simp; omega
     go_wp2_with fail
     go_ret
     exact ⟨by rw [HQ.out]; rfl, by rw [HQ.out]; exact ARi.out, HMi.out⟩
end Go.Proofs.Ytffalemndjampaa
end
