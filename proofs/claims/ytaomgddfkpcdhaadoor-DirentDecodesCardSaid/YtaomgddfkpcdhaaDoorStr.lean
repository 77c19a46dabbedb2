import Derived.Test.YtaomgddfkpcdhaaDoorProg
import Derived.Test.YtaomgddfkpcdhaaDoorWWords
import Derived.Test.YtaomgddfkpcdhaaDoorWLast
import Derived.Test.YtaomgddfkpcdhaaDoorWTab
import Derived.Test.YtaomgddfkpcdhaaDoorWInv
import Derived.Test.YtaomgddfkpcdhaaDoorWInvWords
import Derived.WalkKit
import Derived.Deep.AppendSrc
import Derived.Deep.AppendLies
import Derived.Laws.Slices
import Derived.Deep.Slices
/-! Rows of texts: read, cut, appended to. -/
set_option linter.unusedVariables false
set_option linter.unusedSimpArgs false
namespace Go.Proofs.YtaomgddfkpcdhaaDoor
open Go.RowKit Go.Proofs.YtaomgddfkpcdhaaDoorW.PrintWords Go.Proofs.YtaomgddfkpcdhaaDoorW.PrintLast
/-- A slice's texts. -/
def RdS (w : World) (A : Option Addr) (n : Nat) (xs : List ByteArray) : Prop :=
  xs.length = n ∧ (0 < n → ∃ ad, A = some ad ∧ ∀ j x, xs[j]? = some x → w.cell? (ad.add j) = some (.string x))
theorem RdS.below {w w1 : World} {A : Option Addr} {n : Nat} {xs : List ByteArray} (h : RdS w A n xs) (hb : Below w.heap.size w w1) : RdS w1 A n xs :=
  ⟨h.1, fun hn => by
    obtain ⟨ad, e, hc⟩ := h.2 hn
    exact ⟨ad, e, fun j x hj => pw_cell_below hb (hc j x hj)⟩⟩
theorem RdS.at_ {w : World} {A : Option Addr} {n : Nat} {xs : List ByteArray} (h : RdS w A n xs) (j : Nat) (hj : j < n) : ∃ ad, A = some ad ∧ w.cell? (ad.add j) = some (.string (xs.getD j ByteArray.empty)) := by
  obtain ⟨ad, e, hc⟩ := h.2 (by omega)
  refine ⟨ad, e, hc j _ ?_⟩
  have hl := h.1
  rw [List.getD_eq_getElem?_getD, List.getElem?_eq_getElem (by omega)]
  rfl
theorem RdS.take {w : World} {A : Option Addr} {n : Nat} {xs : List ByteArray} (h : RdS w A n xs) (i : Nat) (hi : i ≤ n) : RdS w A i (xs.take i) :=
  ⟨by rw [List.length_take]; have := h.1; omega, fun hp => by
    obtain ⟨ad, e, hc⟩ := h.2 (by omega)
    refine ⟨ad, e, fun j x hj => hc j x ?_⟩
    rw [List.getElem?_take] at hj
    split at hj
    · exact hj
    · cases hj⟩
theorem RdS.drop {w : World} {A : Option Addr} {n c : Nat} {xs : List ByteArray} (h : RdS w A n xs) (i : Nat) (hi : i ≤ n) (hc : n ≤ c) : RdS w (if c = i then A else A.map (·.add (i * 1))) (n - i) (xs.drop i) :=
  ⟨by rw [List.length_drop]; have := h.1; omega, fun hp => by
    obtain ⟨ad, e, hcell⟩ := h.2 (by omega)
    refine ⟨ad.add i, by rw [if_neg (by omega), e]; simp, fun j x hj => ?_⟩
    rw [Go.Deep.add_add]
    exact hcell (i + j) x (by rw [List.getElem?_drop] at hj; exact hj)⟩
theorem own_RdS {w : World} {base n : Nat} {A : Option Addr} {c : Nat} {xs : List ByteArray} (h : w.ownsRow base 9 1 (.slice A n c) n (pw_strs xs)) : RdS w A n xs ∧ n ≤ c := by
  have hl : xs.length = n := by have := h.1; simpa [pw_strs] using this
  rcases h.2 with ⟨h2, h3⟩ | ⟨g, cap, cur, h2, _, _, h5, _⟩
  · injection h2 with h4 h5 h6
    exact ⟨⟨hl, fun hp => by omega⟩, by omega⟩
  · injection h2 with h4 h6 h7
    subst h4
    refine ⟨⟨hl, fun hp => ⟨⟨g, 0, none⟩, rfl, fun j x hj => ?_⟩⟩, by omega⟩
    exact h.cells (g := g) rfl j (.string x) (by simp [pw_strs, hj])
theorem infoS : (Tryd.prog.info? 9).map (fun i => (i.zero, i.size, i.bytes)) = some (some (.string ⟨#[]⟩), 1, 16) := by kernel_rfl
section
variable {P : Program} {ops : Array Oper} {Q : Exit → Act → World → Prop}
/-- An append among a drawn region's operations. -/
theorem app_ {oi : Oper} {N : Option Tmp} {a : Act} {w w1 : World} {v v0 v1 : Value} {s x : Operand} {t tx ty : TypeId} {K : Act → World → Prop} (hw : Region.wanted oi (yielded ops a.tmps) = true) (hN : oi.dst = N)
    (hop : oi.op = .call { callee := .builtin .append, args := #[s, x], argTypes := #[t, tx] }) (hty : oi.type = ty) (hs : a.eval s = v0) (hx : a.eval x = v1)
    (hrun : (Builtin.append_ #[t, tx] ty #[v0, v1]).run P w = .ok v w1) (h : K (a.put N v) w1) : if Region.wanted oi (yielded ops a.tmps) = true then Oper.wp P oi a w K Q else K (a.put N undef) w := by
  refine value_ (w1 := w1) (v := v) hw hN ?_ h
  subst hty
  unfold execOp
  simp only [hop, resolve, invoke, builtin, Sem.run_bind, Sem.run_pure, Result.andThen_ok, List.map_toArray, List.map_cons, List.map_nil, hs, hx, hrun]
/-- A cut among a drawn region's operations. -/
theorem slice_ {oi : Oper} {N : Option Tmp} {a : Act} {w : World} {v : Value} {x : Operand} {t : TypeId} {lo hi mx : Option Operand} {K : Act → World → Prop} (hw : Region.wanted oi (yielded ops a.tmps) = true) (hN : oi.dst = N)
    (hop : oi.op = .slice t x lo hi mx) (hu : P.underlying t = some (.slice (P.elem t))) (hrun : (Instr.slice t (a.eval x) (lo.map a.eval) (hi.map a.eval) (mx.map a.eval)).run P w = .ok v w) (h : K (a.put N v) w) : if Region.wanted oi (yielded ops a.tmps) = true then Oper.wp P oi a w K Q else K (a.put N undef) w := by
  refine value_ (w1 := w) (v := v) hw hN ?_ h
  unfold execOp
  simp only [hop, Sem.run_bind, run_sliceAt_slice w t _ _ _ _ hu, hrun, Result.andThen_ok, Sem.run_pure]
end
theorem str_src {w : World} {A : Option Addr} {n c : Nat} {xs : List ByteArray} (h : RdS w A n xs) : Src Tryd.prog 1 35 (.slice A n c) n (pw_strs xs) w := by
  have hl : (pw_strs xs).length = n * 1 := by simp [pw_strs, h.1]
  have h1 : ∀ u ∈ pw_strs xs, u.oneCell' = true := fun u hu => by
    obtain ⟨x, _, rfl⟩ := List.mem_map.1 hu
    rfl
  cases A with
  | none =>
    have hn : n = 0 := by
      rcases Nat.eq_zero_or_pos n with h0 | h0
      · exact h0
      · obtain ⟨ad, e, _⟩ := h.2 h0; cases e
    subst hn
    have hx : xs = [] := List.eq_nil_of_length_eq_zero h.1
    subst hx
    exact Src.ofNil w Tryd.underlying35 c
  | some ad =>
    refine Src.ofSlice w Tryd.underlying35 ad n c _ hl (fun j u hu => ?_) h1
    simp only [pw_strs, List.getElem?_map] at hu
    obtain ⟨x, hx, rfl⟩ := Option.map_eq_some_iff.1 hu
    have hj : j < xs.length := (List.getElem?_eq_some_iff.1 hx).1
    obtain ⟨ad', e, hc⟩ := h.2 (by have := h.1; omega)
    obtain rfl := Option.some.inj e
    exact hc j x hx
/-- An append that has no room. -/
theorem app_grow {w : World} {A B : Option Addr} {n c m d : Nat} {xs ys : List ByteArray} (hr : RdS w A n xs) (hy : RdS w B m ys) (hg : c < n + m) (hl : (n + m) * 16 ≤ 140737488355328) :
    ∃ c1 w1, (Builtin.append_ #[35, 35] 35 #[.slice A n c, .slice B m d]).run Tryd.prog w = .ok (.slice (some ⟨w.heap.size, 0, none⟩) (n + m) c1) w1 ∧ Below w.heap.size w w1 ∧
      w1.ownsRow w.heap.size 9 1 (.slice (some ⟨w.heap.size, 0, none⟩) (n + m) c1) (n + m) (pw_strs (xs ++ ys)) ∧ w1.heap.size = w.heap.size + 1 := by
  obtain ⟨i0, hi, hzz⟩ := Option.map_eq_some_iff.1 infoS
  simp only [Prod.mk.injEq] at hzz
  obtain ⟨hz0, hz1, hz2⟩ := hzz
  have hold : (Builtin.firstCells i0.size n (.slice A n c)).run Tryd.prog w.drew = .ok (pw_strs xs).toArray w.drew := by
    rw [hz1]; exact (str_src (c := c) hr).cellsD
  have h_ := growslice_fits (need := n + m) (old := c) (bytes := 16) hg hl
  have hrun := run_append_grow_src (P := Tryd.prog) w 35 35 35 9 i0 (.string ⟨#[]⟩) Tryd.underlying35 hi hz0 A n c (pw_strs xs) hold (.slice B m d) m (pw_strs ys) (by rw [hz1]; exact str_src hy) hg (by omega) (by rw [hz2]; exact h_)
  refine ⟨_, _, hrun, below_alloc (below_drew (Below.refl _ _)) _, ?_, by simp⟩
  have hge := grownCap_ge w (n + m) c 9
  have hcm : grownCap w (n + m) c 9 ≤ maxLen := grownCap_le_maxLen w (n + m) c 9 (by simp only [maxLen]; omega)
  have hln : (pw_strs xs ++ pw_strs ys).length = n + m := by simp [pw_strs, hr.1, hy.1]
  refine ⟨by simp [pw_strs, hr.1, hy.1], .inr ⟨w.heap.size, _, _, rfl, Nat.le_refl _, heap_alloc_new w.drew _, hge, hcm, ?_, ?_⟩⟩
  · simp only [Array.size_append, size_zeroCells, List.size_toArray, hln]
    simp [Value.cells]
    omega
  · have e : pw_strs (xs ++ ys) = pw_strs xs ++ pw_strs ys := by simp [pw_strs]
    rw [e, Array.toList_append, Nat.mul_one]
    conv => lhs; rw [← hln]
    exact List.take_left
/-- Nothing is appended. -/
theorem app_none {w : World} {A B : Option Addr} {n c d : Nat} {xs : List ByteArray} (hn : n ≤ c) (hb : B = none ∨ 0 ≤ d) (hA : A ≠ none) :
    (Builtin.append_ #[35, 35] 35 #[.slice A n c, .slice B 0 d]).run Tryd.prog w = .ok (.slice A n c) w := by
  obtain ⟨i0, hi, hzz⟩ := Option.map_eq_some_iff.1 infoS
  simp only [Prod.mk.injEq] at hzz
  obtain ⟨hz0, hz1, hz2⟩ := hzz
  cases A with
  | none => exact absurd rfl hA
  | some ad =>
    obtain ⟨b, o, sp⟩ := ad
    have hs : Src Tryd.prog 1 35 (.slice B 0 d) 0 [] w := by
      have h_ := str_src (w := w) (A := B) (n := 0) (c := d) (xs := []) ⟨rfl, fun h => by omega⟩
      simpa [pw_strs] using h_
    rcases hs.kind with ⟨e', hk⟩ | hk <;> simp [Builtin.append_, run_underlying Tryd.underlying35, run_underlying hk, sizeOf, typeInfo, hi, hs.len, hn, hz1, hs.cells, storeCells]
theorem elemSS : Tryd.prog.underlying 35 = some (.slice (Tryd.prog.elem 35)) := by
  have hel : Tryd.prog.elem 35 = 9 := by simp [Program.elem, Tryd.underlying35]
  rw [hel]; exact Tryd.underlying35
theorem cut_hm (A : Option Addr) (n c i : Nat) (hi : i ≤ n) (hc : n ≤ c) (W : World) : (Instr.slice 35 (.slice A n c) none (some (.int .i64 (i : Int))) (some (.int .i64 (i : Int)))).run Tryd.prog W = .ok (.slice A i i) W := by
  obtain ⟨i0, hi0, hzz⟩ := Option.map_eq_some_iff.1 infoS
  simp only [Prod.mk.injEq] at hzz
  obtain ⟨hz0, hz1, hz2⟩ := hzz
  have hel : Tryd.prog.elem 35 = 9 := by simp [Program.elem, Tryd.underlying35]
  have hu : Tryd.prog.underlying 35 = some (.slice (Tryd.prog.elem 35)) := by rw [hel]; exact Tryd.underlying35
  rw [run_slice_hm W 35 A n c hu .i64 .i64 (i : Int) (i : Int) (by omega) (by omega) (by omega), hel]
  simp [sizeOf, typeInfo, hi0, hz1, sliced, Result.andThen]
  cases A with
  | none => intro _; rfl
  | some ad => simp; unfold Addr.add; split <;> simp_all
theorem cut_l (A : Option Addr) (n c i : Nat) (hi : i ≤ n) (hc : n ≤ c) (W : World) : (Instr.slice 35 (.slice A n c) (some (.int .i64 (i : Int))) none none).run Tryd.prog W = .ok (.slice (if c = i then A else A.map (·.add (i * 1))) (n - i) (c - i)) W := by
  obtain ⟨i0, hi0, hzz⟩ := Option.map_eq_some_iff.1 infoS
  simp only [Prod.mk.injEq] at hzz
  obtain ⟨hz0, hz1, hz2⟩ := hzz
  have hel : Tryd.prog.elem 35 = 9 := by simp [Program.elem, Tryd.underlying35]
  have hu : Tryd.prog.underlying 35 = some (.slice (Tryd.prog.elem 35)) := by rw [hel]; exact Tryd.underlying35
  rw [run_slice_l W 35 A n c hu .i64 (i : Int) (by omega) (by omega), hel]
  simp [sizeOf, typeInfo, hi0, hz1, sliced, Result.andThen]
theorem blk_below_ {w w1 : World} {g : Nat} {o : Obj} (h : w.heap[g]? = some o) (hb : Below w.heap.size w w1) : w1.heap[g]? = some o := (hb.block g (blk_lt h)).trans h
theorem bl_seq_ {w w1 w2 : World} (h : Below w.heap.size w w1) (k : Below w1.heap.size w1 w2) : Below w.heap.size w w2 := below_then h h.size k
theorem own_lower_ {w : World} {b b' n : Nat} {e : TypeId} {size : Nat} {v : Value} {xs : List Value} (h : w.ownsRow b e size v n xs) (hb : b' ≤ b) : w.ownsRow b' e size v n xs := by
  refine ⟨h.1, ?_⟩
  rcases h.2 with h2 | ⟨g, cap, cur, h2, h3, h4⟩
  · exact .inl h2
  · exact .inr ⟨g, cap, cur, h2, Nat.le_trans hb h3, h4⟩
theorem RdS_lit (w : World) (x : ByteArray) : RdS (w.alloc (.cells #[.string x] 9)) (some ⟨w.heap.size, 0, none⟩) 1 [x] :=
  ⟨rfl, fun _ => ⟨_, rfl, fun j y hj => by
    obtain rfl : j = 0 := by
      rcases j with _ | j
      · rfl
      · simp at hj
    obtain rfl : x = y := by simpa using hj
    exact (blk_cell (heap_alloc_new w (.cells #[.string x] 9)) 0).trans rfl⟩⟩
end Go.Proofs.YtaomgddfkpcdhaaDoor
