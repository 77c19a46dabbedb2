import Derived.Test.YtjjhdddiabdfhaaDoorOrd
import Derived.Test.YtjjhdddiabdfhaaDoorStr
import Derived.Test.YtjjhdddiabdfhaaDoorProg
import Derived.Test.YtjjhdddiabdfhaaDoorWWords
import Derived.Test.YtjjhdddiabdfhaaDoorWLast
import Derived.Lib.Hide
import Derived.Laws.IdiomStrings
import Derived.KernelRfl
/-! The parts of a pattern: kinds, and what the program's functions do with them, in plain Lean. -/
set_option linter.unusedVariables false
set_option linter.unusedSimpArgs false
namespace Go.Proofs.YtjjhdddiabdfhaaDoor
open Go.RowKit Go.Proofs.YtjjhdddiabdfhaaDoorW.PrintWords Go.Proofs.YtjjhdddiabdfhaaDoorW.PrintLast
/-- A part: many, any, not, the ranges. -/
abbrev Part := Bool × Bool × Bool × List (Int × Int)
def kRng : Kd (Int × Int) := Kd.pair (Kd.int .i32) (Kd.int .i32)
def kPart : Kd Part := Kd.pair Kd.bool (Kd.pair Kd.bool (Kd.pair Kd.bool (Kd.slice 83 kRng)))
theorem kRng_open {w : World} {x : Int × Int} {cs : List Value} (h : kRng.K w x cs) : cs = [.int .i32 x.1, .int .i32 x.2] := by
  obtain ⟨_, _, rfl, rfl, rfl⟩ := h
  exact rfl
def rdR (rs : List (Int × Int)) (j : Nat) : Int × Int := rs.getD j (0, 0)
theorem at_R {w : World} {A : Option Addr} {n : Nat} {xs : List (Int × Int)} (h : Kd.C kRng w A n xs) (i : Nat) (h1 : i < n) : ∃ ad, A = some ad ∧ w.cell? (ad.add (i * 2)) = some (.int .i32 (rdR xs i).1) ∧ w.cell? ⟨(ad.add (i * 2)).block, (ad.add (i * 2)).off + 1, none⟩ = some (.int .i32 (rdR xs i).2) := by
  obtain ⟨ad, c, e, _, hK, hc0⟩ := Kd.C_get h (0, 0) (i : Int) (by omega) (by omega)
  rw [Int.toNat_natCast] at hK hc0
  have hc : ∀ j u, c[j]? = some u → w.cell? (ad.add (i * 2 + j)) = some u := hc0
  obtain rfl := kRng_open hK
  exact ⟨ad, e, hc 0 _ rfl, by rw [← add_field _ _ 1 (by omega)]; exact hc 1 _ rfl⟩
theorem kPart_open {w : World} {x : Part} {cs : List Value} (h : kPart.K w x cs) : ∃ A c, cs = [.bool x.1, .bool x.2.1, .bool x.2.2.1, .slice A x.2.2.2.length c] ∧ x.2.2.2.length ≤ c ∧ kRng.C w A x.2.2.2.length x.2.2.2 := by
  obtain ⟨_, _, rfl, rfl, _, _, rfl, rfl, _, _, rfl, rfl, A, c, rfl, h1, h2⟩ := h
  exact ⟨A, c, rfl, h1, h2⟩
def rdP (l : List Part) (j : Nat) : Part := l.getD j (false, false, false, [])
theorem at_P {w : World} {A : Option Addr} {n : Nat} {xs : List Part} (h : Kd.C kPart w A n xs) (i : Nat) (h1 : i < n) : ∃ ad B c, A = some ad ∧ (rdP xs i).2.2.2.length ≤ c ∧ kRng.C w B (rdP xs i).2.2.2.length (rdP xs i).2.2.2 ∧
    w.cell? (ad.add (i * 4)) = some (.bool (rdP xs i).1) ∧ w.cell? ⟨(ad.add (i * 4)).block, (ad.add (i * 4)).off + 1, none⟩ = some (.bool (rdP xs i).2.1) ∧ w.cell? ⟨(ad.add (i * 4)).block, (ad.add (i * 4)).off + 2, none⟩ = some (.bool (rdP xs i).2.2.1) ∧
    w.cell? ⟨(ad.add (i * 4)).block, (ad.add (i * 4)).off + 3, none⟩ = some (.slice B (rdP xs i).2.2.2.length c) := by
  obtain ⟨ad, c, e, _, hK, hc0⟩ := Kd.C_get h (false, false, false, []) (i : Int) (by omega) (by omega)
  rw [Int.toNat_natCast] at hK hc0
  have hc : ∀ j u, c[j]? = some u → w.cell? (ad.add (i * 4 + j)) = some u := hc0
  obtain ⟨B, c1, rfl, h2, h3⟩ := kPart_open hK
  exact ⟨ad, B, c1, e, h2, h3, hc 0 _ rfl, by rw [← add_field _ _ 1 (by omega)]; exact hc 1 _ rfl, by rw [← add_field _ _ 2 (by omega)]; exact hc 2 _ rfl, by rw [← add_field _ _ 3 (by omega)]; exact hc 3 _ rfl⟩
/-- Is a letter in one of the ranges? -/
def inR (rs : List (Int × Int)) (c : Int) : Bool := rs.any fun r => decide (r.1 ≤ c) && decide (c ≤ r.2)
theorem inR_take (rs : List (Int × Int)) (c : Int) (j : Nat) (h : j < rs.length) : inR (rs.take (j + 1)) c = (inR (rs.take j) c || (decide ((rdR rs j).1 ≤ c) && decide (c ≤ (rdR rs j).2))) := by
  have e : rdR rs j = rs[j] := by simp [rdR, h]
  rw [e, List.take_succ_eq_append_getElem h, inR, List.any_append]
  simp [inR]
def hasP (x : Part) (c : Int) : Bool := if x.2.1 = true then true else inR x.2.2.2 c != x.2.2.1
theorem lit_R (w : World) (lo hi : Int) : kRng.R 83 (w.alloc (.cells #[.int .i32 lo, .int .i32 hi] 83)) w.heap.size (fun _ => True) (.slice (some ⟨w.heap.size, 0, none⟩) 1 1) [(lo, hi)] := by
  refine ⟨fun _ _ => trivial, [.int .i32 lo, .int .i32 hi], ⟨rfl, .inr ⟨w.heap.size, 1, #[.int .i32 lo, .int .i32 hi], rfl, Nat.le_refl _, heap_alloc_new w _, Nat.le_refl _, by decide, rfl, rfl⟩⟩, rfl, fun j p hj => ?_⟩
  obtain rfl : j = 0 := by
    rcases j with _ | j
    · rfl
    · simp at hj
  obtain rfl : (lo, hi) = p := by simpa using hj
  exact ⟨[.int .i32 lo], [.int .i32 hi], rfl, rfl, rfl⟩
theorem mk_M {w : World} {base : Nat} {ok : Nat → Prop} {m a n : Bool} {v : Value} {rs : List (Int × Int)} (h : kRng.R 83 w base ok v rs) : kPart.M w base ok (m, a, n, rs) [.bool m, .bool a, .bool n, v] :=
  ⟨[.bool m], [.bool a, .bool n, v], rfl, rfl, [.bool a], [.bool n, v], rfl, rfl, [.bool n], [v], rfl, rfl, v, rfl, h⟩
def manyP : Part := (true, false, false, [])
def anyP : Part := (false, true, false, [])
def oneP (c : Nat) : Part := (false, false, false, [((c : Int), (c : Int))])
def rngP (lo hi : Nat) : Part := (false, false, false, [((lo : Int), (hi : Int))])
def lastMany (out : List Part) : Bool := decide (0 < out.length) && (rdP out (out.length - 1)).1
def rnP (ps : List Nat) (i : Nat) : Nat := ps.getD i 0
/-- A pattern's part; where the next begins. Classes: of one range alone. -/
def stepP (ps : List Nat) (i : Nat) (out : List Part) : Option (Nat × List Part) :=
  if rnP ps i = 42 then some (i + 1, if lastMany out = true then out else out ++ [manyP])
  else if rnP ps i = 63 then some (i + 1, out ++ [anyP])
  else if rnP ps i = 91 then
    (if i + 4 < ps.length ∧ rnP ps (i + 1) ≠ 94 ∧ rnP ps (i + 1) ≠ 93 ∧ rnP ps (i + 1) ≠ 92 ∧ rnP ps (i + 2) = 45 ∧ rnP ps (i + 3) ≠ 93 ∧ rnP ps (i + 4) = 93 then some (i + 5, out ++ [rngP (rnP ps (i + 1)) (rnP ps (i + 3))]) else none)
  else if rnP ps i = 92 then (if i + 1 < ps.length then some (i + 2, out ++ [oneP (rnP ps (i + 1))]) else none)
  else some (i + 1, out ++ [oneP (rnP ps i)])
def partsF (ps : List Nat) : Nat → Nat → List Part → Option (List Part)
  | 0, _, _ => none
  | k + 1, i, out => if i < ps.length then (stepP ps i out).bind (fun q => partsF ps k q.1 q.2) else some out
theorem partsF_open {ps : List Nat} {k i : Nat} {out r : List Part} (h : partsF ps k i out = some r) (hi : i < ps.length) : ∃ m j o, k = m + 1 ∧ stepP ps i out = some (j, o) ∧ partsF ps m j o = some r := by
  cases k with
  | zero => cases h
  | succ m =>
    rw [partsF, if_pos hi] at h
    cases hs : stepP ps i out with
    | none => rw [hs] at h; cases h
    | some q => rw [hs] at h; exact ⟨m, q.1, q.2, rfl, rfl, h⟩
theorem partsF_end {ps : List Nat} {k i : Nat} {out r : List Part} (h : partsF ps k i out = some r) (hi : ¬ i < ps.length) : out = r := by
  cases k with
  | zero => cases h
  | succ m => rw [partsF, if_neg hi] at h; exact Option.some.inj h
/-- Letters that are read. -/
def RdN (w : World) (b n : Nat) (ps : List Nat) : Prop := ps.length = n ∧ ∀ j, j < n → w.cell? ⟨b, j, none⟩ = some (.int .i32 ((rnP ps j : Nat) : Int))
theorem RdN.below {w w1 : World} {b n : Nat} {ps : List Nat} (h : RdN w b n ps) (hb : Below w.heap.size w w1) : RdN w1 b n ps := ⟨h.1, fun j hj => pw_cell_below hb (h.2 j hj)⟩
def tailM : List Part → Nat → Bool
  | l, i => (l.drop i).all (·.1)
/-- Do letters fit parts? -/
def fitsF (l : List Part) (s : List Nat) : Nat → Nat → Nat → Option Nat → Nat → Option Bool
  | 0, _, _, _, _ => none
  | f + 1, i, k, back, from_ =>
    if k < s.length then
      if i < l.length ∧ (rdP l i).1 = true then fitsF l s f (i + 1) k (some i) k
      else if i < l.length ∧ hasP (rdP l i) ((rnP s k : Nat) : Int) = true then fitsF l s f (i + 1) (k + 1) back from_
      else match back with
        | some b => fitsF l s f (b + 1) (from_ + 1) back (from_ + 1)
        | none => some false
    else some (tailM l i)
theorem fitsF_succ (l : List Part) (s : List Nat) (f i k : Nat) (back : Option Nat) (from_ : Nat) : fitsF l s (f + 1) i k back from_ = if k < s.length then
      if i < l.length ∧ (rdP l i).1 = true then fitsF l s f (i + 1) k (some i) k
      else if i < l.length ∧ hasP (rdP l i) ((rnP s k : Nat) : Int) = true then fitsF l s f (i + 1) (k + 1) back from_
      else match back with
        | some b => fitsF l s f (b + 1) (from_ + 1) back (from_ + 1)
        | none => some false
    else some (tailM l i) := by rfl
theorem rdP_getElem {l : List Part} {i : Nat} (h : i < l.length) : rdP l i = l[i] := by simp [rdP, h]
theorem tailM_step {l : List Part} {i : Nat} (h : i < l.length) : tailM l i = ((rdP l i).1 && tailM l (i + 1)) := by
  rw [tailM, tailM, List.drop_eq_getElem_cons h, List.all_cons, rdP_getElem h]
theorem tailM_end {l : List Part} {i : Nat} (h : l.length ≤ i) : tailM l i = true := by rw [tailM, List.drop_eq_nil_of_le h]; rfl
def backI : Option Nat → Int
  | none => -1
  | some b => (b : Int)
theorem info65 : (Tryd.prog.info? 65).map (fun i => (i.zero, i.size, i.bytes)) = some (some (.agg #[.bool false, .bool false, .bool false, .slice none 0 0]), 4, 32) := by kernel_rfl
theorem info83 : (Tryd.prog.info? 83).map (fun i => (i.zero, i.size, i.bytes)) = some (some (.agg #[.int .i32 0, .int .i32 0]), 2, 8) := by kernel_rfl
/-- The capacity, and the world, that a text's conversion to runes leaves. -/
def rcap (w : World) (s : ByteArray) : Nat := grownCap w (runes s).length 0 21
def rworld (w : World) (s : ByteArray) : World := w.drew.alloc (.cells (((runes s).map fun r : Nat => Value.int .i32 (r : Int)).toArray ++ Array.replicate (rcap w s - (runes s).length) (.int .i32 0)) 21)
theorem conv_size (s : ByteArray) : (Conv.runesFrom s s.size 0 #[]).size = (runes s).length := by rw [conv_runes]; simp [runes]
theorem conv_run (s : ByteArray) (hs : s.size ≤ 70368744177664) (w : World) : (convert 9 50 (.string s)).run Tryd.prog w = .ok (.slice (some ⟨w.heap.size, 0, none⟩) (runes s).length (rcap w s)) (rworld w s) := by
  have h := run_runes_of_string (P := Tryd.prog) w 9 50 21 s Tryd.underlying9 Tryd.underlying50 Tryd.underlying21 (by rw [conv_size]; exact Nat.le_trans (runes_length s) hs)
  rw [conv_size] at h
  rw [h, conv_runes]
  simp [rworld, rcap, runes]
theorem rworld_below (w : World) (s : ByteArray) : Below w.heap.size w (rworld w s) := below_alloc (below_drew (Below.refl _ _)) _
theorem rworld_cell (w : World) (s : ByteArray) (j : Nat) (h : j < (runes s).length) : (rworld w s).cell? ⟨w.heap.size, j, none⟩ = some (.int .i32 (((runes s)[j] : Nat) : Int)) := by
  show (w.drew.alloc (.cells (((runes s).map fun r : Nat => Value.int .i32 (r : Int)).toArray ++ Array.replicate (rcap w s - (runes s).length) (.int .i32 0)) 21)).cell? ⟨w.drew.heap.size, j, none⟩ = _
  rw [blk_cell (heap_alloc_new w.drew _) j, Array.getElem?_append_left (by simpa using h)]
  simp [h]
theorem rworld_RdN (w : World) (s : ByteArray) : RdN (rworld w s) w.heap.size (runes s).length (runes s) := ⟨rfl, fun j hj => by
  have h := rworld_cell w s j hj
  rw [rnP, List.getD_eq_getElem?_getD, List.getElem?_eq_getElem hj]
  exact h⟩
theorem add_plain0 (g j : Nat) : (⟨g, 0, none⟩ : Addr).add j = ⟨g, j, none⟩ := by
  unfold Addr.add
  split
  · rename_i h; subst h; rfl
  · simp
/-- A row of letters of the call's own, read. -/
theorem own_RdN {w : World} {base : Nat} {ok : Nat → Prop} {v : Value} {p : List Nat} (h : (Kd.int .i32).R 21 w base ok v (nI p)) (hp : 0 < p.length) : ∃ g c, v = .slice (some ⟨g, 0, none⟩) p.length c ∧ p.length ≤ c ∧ RdN w g p.length p := by
  obtain ⟨A, c, hv, hc, hC⟩ := Kd.R_reads h
  have hl : (nI p).length = p.length := by simp [nI]
  rw [hl] at hv hc hC
  obtain ⟨inner, ho⟩ := Kd.R_own h
  rcases ho.2 with ⟨h2, -⟩ | ⟨g, cap, cur, h2, -⟩
  · rw [hv] at h2
    injection h2 with _ h3 _
    omega
  · rw [hv] at h2
    injection h2 with h3 _ h4
    subst h3
    refine ⟨g, c, hv, hc, rfl, fun j hj => ?_⟩
    obtain ⟨ad, cs, e, _, hK, hc0⟩ := Kd.C_get hC 0 (j : Int) (by omega) (by omega)
    rw [Int.toNat_natCast] at hK hc0
    cases e
    have e2 : cs = [.int .i32 ((nI p).getD j 0)] := hK
    subst e2
    have h9 := hc0 0 _ rfl
    have e3 : (⟨g, 0, none⟩ : Addr).add (j * (Kd.int .i32).sz + 0) = ⟨g, j, none⟩ := by
      show (⟨g, 0, none⟩ : Addr).add (j * 1 + 0) = _
      rw [Nat.mul_one, Nat.add_zero]
      exact add_plain0 g j
    rw [e3] at h9
    rw [h9]
    have e4 : (nI p).getD j 0 = ((rnP p j : Nat) : Int) := by
      rw [rnP, List.getD_eq_getElem?_getD, List.getD_eq_getElem?_getD, nI, List.getElem?_map, List.getElem?_eq_getElem hj]
      rfl
    rw [e4]
/-- What the walk of a pattern needs. -/
def okL (l : List Part) : Bool := decide (l.length ≤ 1000000) && l.all fun x => decide (x.2.2.2.length ≤ 1000000)
end Go.Proofs.YtjjhdddiabdfhaaDoor
