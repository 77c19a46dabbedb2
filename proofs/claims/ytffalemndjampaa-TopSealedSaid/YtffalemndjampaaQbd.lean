/- What the proof of TopSealed leans on: Open Xe. -/
import Derived.Test.YtffalemndjampaaQan
import Derived.ProofKit
import Derived.OpenShut
import Derived.ShutString
import Derived.ChangeOld
import Derived.SizedLaws
import Derived.Deep.Slices
import Derived.Test.YtffalemndjampaaQaz
section
namespace Go.Proofs.Ytffalemndjampaa
open Go.RowKit Go.Proofs.YtffalemndjampaaW.PrintWords Go.ChangeShapes Go.WideShapes Go.Deep
theorem arr4 {cs : Array Value} (h : cs.size = 4) : ∃ a b c d, cs = #[a, b, c, d] := by
 obtain ⟨l⟩ := cs
 match l, h with
 | [a, b, c, d], _ => exact ⟨a, b, c, d, rfl⟩
theorem wf_u8 {n : Int} (h : (Lit.int .u8 n).wf = true) : 0 ≤ n ∧ n < 256 := by
 have hmin : IntKind.u8.min = 0 := rfl
 have hmax : IntKind.u8.max = 255 := rfl
 simp only [Lit.wf, Bool.and_eq_true, decide_eq_true_eq] at h
 omega
section
variable {H : Type} {enc : TypeId × Value → H} {P : Program} {w : World} {base : Nat} {held : Bool} {fuel : Nat} {t e : TypeId} {cs : List Value} {x : DataW H × List MemPlace}
def Fits (P : Program) (t : TypeId) (d : DataW H) : Prop := (d.weights P t).all (· ≤ reachBytes) = true
theorem fits_each {ts : List TypeId} {d : DataW H} {ds : List (DataW H)} (h : (DataW.weightsEach P (t :: ts) (d :: ds)).all (· ≤ reachBytes) = true) : Fits P t d ∧ (DataW.weightsEach P ts ds).all (· ≤ reachBytes) = true := by
 rw [DataW.weightsEach, List.all_append, Bool.and_eq_true] at h
 exact h
theorem fits_all {d : DataW H} {ds : List (DataW H)} (h : (DataW.weightsAll P t ds).all (· ≤ reachBytes) = true) (hd : d ∈ ds) : Fits P t d := by
 induction ds with
 | nil => cases hd
 | cons d0 ds ih =>
  rw [DataW.weightsAll, List.all_append, Bool.and_eq_true] at h
  rcases List.mem_cons.1 hd with rfl | hd
  ·exact h.1
  ·exact ih h.2 hd
theorem op_int {k : IntKind} (ht : P.underlying t = some (.int k)) (h : DataW.trod enc P w base (fun _ => true) held fuel t cs = some x) : ∃ n, cs = [.int k n] ∧ (Lit.int k n).wf = true := by
 obtain ⟨n, h1, _, h3⟩ := DataW.trod_int ht h
 exact ⟨n, h1, h3⟩
theorem op_ints {k : IntKind} (ht : P.underlying t = some (.slice e)) (he : P.underlying e = some (.int k)) (hc : P.cellsOf e = 1) {B : Nat} (hB : P.bytesOf e = B) (h : DataW.trod enc P w base (fun _ => true) held fuel t cs = some x) (hf : Fits P t x.1) :
  ∃ (A : Option Addr) (c : Nat) (xs : List Int), cs = [.slice A xs.length c] ∧ xs.length ≤ c ∧ xs.length * B ≤ 140737488351232 ∧ ReadsInt w k A xs.length xs ∧ ∀ n ∈ xs, (Lit.int k n).wf = true := by
 rcases open_ints ht he hc h with ⟨rfl, _⟩ | ⟨a, len, cap, zs, rfl, _, hl, hm, hz, rfl, hcell, hw⟩
 ·exact ⟨none, 0, [], rfl, Nat.le_refl _, by simp, ⟨rfl, by simp, fun h => by simp at h⟩, by simp⟩
 ·simp only [if_true] at hz
  have hlen : (zs.take len).length = len := by rw [List.length_take]; omega
  have hfit : zs.length * B ≤ 140737488351232 := by
   have h_ := List.all_eq_true.1 hf ((zs.take len).length * B + (zs.drop len).length * B) (by simp [DataW.weights, ht, lits, hB, Nat.add_mul])
   have h2 := of_decide_eq_true h_
   rw [← Nat.add_mul, ← List.length_append, List.take_append_drop] at h2
   exact h2
  refine ⟨some a, cap, zs.take len, by rw [hlen], by rw [hlen]; exact hl, ?_, ⟨rfl, ?_, fun _ => ⟨a, rfl, fun j hj => ?_⟩⟩, fun n hn => hw n (List.take_subset _ _ hn)⟩
  ·rw [hlen]
   exact Nat.le_trans (Nat.mul_le_mul_right _ (by omega)) hfit
  ·rw [hlen]; unfold maxLen at hm; omega
  ·rw [hlen] at hj
   rw [hcell j (by omega)]
   simp [List.getD_eq_getElem?_getD, hj]
theorem op_slice (ht : P.underlying t = some (.slice e)) {B C : Nat} (hB : P.bytesOf e = B) (hC : P.cellsOf e = C) (h : DataW.trod enc P w base (fun _ => true) held fuel t cs = some x) (hf : Fits P t x.1) :
  ∃ (A : Option Addr) (n c : Nat), cs = [.slice A n c] ∧ n ≤ c ∧ n ≤ 9223372036854775807 ∧ n * B ≤ 140737488351232 ∧ ∀ i, i < n → ∃ (a : Addr) (cs' : List Value) (y : DataW H × List MemPlace) (g : Nat), A = some a ∧ cs'.length = C ∧ (∀ j, j < C → w.cell? (a.add (i * C + j)) = cs'[j]?) ∧ DataW.trod enc P w base (fun _ => true) held g e cs' = some y ∧ Fits P e y.1 := by
 rcases open_slice ht h with ⟨rfl, _⟩ | ⟨a, len, cap, m, n, D, Pl, rfl, hb, hl, hm, hmm, rfl, hx⟩
 ·exact ⟨none, 0, 0, rfl, Nat.le_refl _, by omega, by simp, fun i hi => by omega⟩
 ·simp only [if_true] at hmm
  subst hmm
  refine ⟨some a, len, m, rfl, hl, by unfold maxLen at hm; omega, ?_, fun i hi => ?_⟩
  ·have h_ := List.all_eq_true.1 hf (m * B) (by simp [DataW.weights, ht, hB, show len + (m - len) = m by omega])
   exact Nat.le_trans (Nat.mul_le_mul_right _ hl) (of_decide_eq_true h_)
  ·obtain ⟨cs', h1, h2⟩ := hx i (by omega)
   rw [hC] at h1
   obtain ⟨_, hl', hc'⟩ := World.cells?_some h1
   refine ⟨a, cs', (D i, Pl i), n, rfl, hl', fun j hj => by rw [← hc' j hj, Go.Deep.add_add], h2, ?_⟩
   have h3 : (DataW.weightsAll P e ((List.range len).map D)).all (· ≤ reachBytes) = true := by
    rw [Fits, DataW.weights, ht] at hf
    simp only [List.all_cons, List.all_append, Bool.and_eq_true] at hf
    exact hf.2.1
   exact fits_all h3 (List.mem_map.2 ⟨i, by simp [hi], rfl⟩)
theorem op_struct {fs : Array Field} (ht : P.underlying t = some (.struct fs)) (h : DataW.trod enc P w base (fun _ => true) held fuel t cs = some x) (hf : Fits P t x.1) :
  cs.length = P.cellsOf t ∧ ∀ (i : Nat) (f : Field), fs[i]? = some f → ∃ (y : DataW H × List MemPlace) (g : Nat), DataW.trod enc P w base (fun _ => true) held g f.type ((cs.drop f.offset).take (P.cellsOf f.type)) = some y ∧ Fits P f.type y.1 := by
 obtain ⟨xs, n, _, rfl, hl, hlen, hx⟩ := DataW.trod_struct ht h
 refine ⟨hl, fun i f hi => ?_⟩
 have hi' : i < fs.size := (Array.getElem?_eq_some_iff.1 hi).1
 refine ⟨xs[i]'(by omega), n, by rw [hx i f hi, List.getElem?_eq_getElem (by omega)], ?_⟩
 rw [Fits, DataW.weights, ht] at hf
 rw [Fits, List.all_eq_true]
 intro z hz
 refine List.all_eq_true.1 hf z (DataW.weights_mem_each (j := i) (t := f.type) (d := (xs[i]'(by omega)).1) ?_ ?_ z hz)
 ·simp [hi]
 ·simp [List.getElem?_eq_getElem (show i < xs.length by omega)]
end
end Go.Proofs.Ytffalemndjampaa
end
section
set_option linter.unusedVariables false
namespace Go.Proofs.Ytffalemndjampaa
open Go.RowKit Go.Proofs.YtffalemndjampaaW.PrintWords Go.ChangeShapes Go.WideShapes Go.Deep
section
variable {H : Type} {enc : TypeId × Value → H} {w : World} {base : Nat} {held : Bool} {fuel : Nat} {cs : List Value} {x : DataW H × List MemPlace}
set_option maxRecDepth 100000 in
theorem op_write (h : DataW.trod enc Try.prog w base (fun _ => true) held fuel 67 cs = some x) (hf : Fits Try.prog 67 x.1) :
  ∃ (k : Int) (b : Bool) (c : Int), 0 ≤ c ∧ c < 256 ∧ cs = [.int .i64 k, .bool b, .int .u8 c] := by
 obtain ⟨hl, fl⟩ := op_struct Try.underlying67 h hf
 have hl3 : cs.length = 3 := hl.trans (show Try.prog.cellsOf 67 = 3 from by kernel_rfl)
 match cs, hl3 with
 | [u0, u1, u2], _ =>
  obtain ⟨y0, g0, t0, f0⟩ := fl 0 _ rfl
  obtain ⟨a0, e0, w0⟩ := op_int Try.underlying3 t0
  have q0 : List.take (Try.prog.cellsOf 3) (List.drop 0 [u0, u1, u2]) = _ := e0
  rw [show Try.prog.cellsOf 3 = 1 from by kernel_rfl] at q0
  simp at q0
  obtain ⟨y1, g1, t1, f1⟩ := fl 1 _ rfl
  obtain ⟨a1, e1, -⟩ := DataW.trod_bool Try.underlying4 t1
  have q1 : List.take (Try.prog.cellsOf 4) (List.drop 1 [u0, u1, u2]) = _ := e1
  rw [show Try.prog.cellsOf 4 = 1 from by kernel_rfl] at q1
  simp at q1
  obtain ⟨y2, g2, t2, f2⟩ := fl 2 _ rfl
  obtain ⟨a2, e2, w2⟩ := op_int Try.underlying5 t2
  have q2 : List.take (Try.prog.cellsOf 5) (List.drop 2 [u0, u1, u2]) = _ := e2
  rw [show Try.prog.cellsOf 5 = 1 from by kernel_rfl] at q2
  simp at q2
  subst q0 q1 q2
  exact ⟨a0, a1, a2, (wf_u8 w2).1, (wf_u8 w2).2, rfl⟩
set_option maxRecDepth 100000 in
theorem op_writes (h : DataW.trod enc Try.prog w base (fun _ => true) held fuel 45 cs = some x) (hf : Fits Try.prog 45 x.1) :
  ∃ (A : Option Addr) (n c : Nat) (rs : List (Int × Bool × Int)), cs = [.slice A n c] ∧ rs.length = n ∧ n ≤ 9223372036854775807 ∧ RdW w A rs := by
 obtain ⟨A, n, c, rfl, hc, hm, hb, hel⟩ := op_slice Try.underlying45 (B := 16) (by kernel_rfl) (C := 3) (by kernel_rfl) h hf
 have each : ∀ i, i < n → ∃ z : Int × Bool × Int, ∃ a, A = some a ∧ w.cell? (a.add (i * 3)) = some (.int .i64 z.1) ∧ w.cell? ⟨(a.add (i * 3)).block, (a.add (i * 3)).off + 1, none⟩ = some (.bool z.2.1) ∧ w.cell? ⟨(a.add (i * 3)).block, (a.add (i * 3)).off + 2, none⟩ = some (.int .u8 z.2.2) ∧ 0 ≤ z.2.2 ∧ z.2.2 < 256 := by
  intro i hi
  obtain ⟨a, cs', y, g, hA, hl, hcell, htr, hfy⟩ := hel i hi
  obtain ⟨k, b, d, d0, d1, rfl⟩ := op_write htr hfy
  have c0 := hcell 0 (by omega)
  rw [Nat.add_zero] at c0
  have c1 := hcell 1 (by omega)
  rw [add_field a (i * 3) 1 (by omega)] at c1
  have c2 := hcell 2 (by omega)
  rw [add_field a (i * 3) 2 (by omega)] at c2
  exact ⟨(k, b, d), a, hA, c0, c1, c2, d0, d1⟩
 obtain ⟨f, hfr⟩ := choose_lt each
 refine ⟨A, n, c, (List.range n).map f, rfl, by simp, by omega, ?_⟩
 intro i z hz
 simp only [List.getElem?_map, Option.map_eq_some_iff] at hz
 obtain ⟨j, hj, rfl⟩ := hz
 have hi : i < n := by
  have := (List.getElem?_eq_some_iff.1 hj).1
  simpa using this
 have : j = i := by
  rw [List.getElem?_range hi] at hj
  exact (Option.some.inj hj).symm
 subst this
 exact hfr j hi
end
end Go.Proofs.Ytffalemndjampaa
end
