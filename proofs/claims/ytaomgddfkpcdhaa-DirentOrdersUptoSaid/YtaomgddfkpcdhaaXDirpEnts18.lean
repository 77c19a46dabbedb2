import Derived.Test.YtaomgddfkpcdhaaXDir0
import Derived.Test.YtaomgddfkpcdhaaOpz
import Derived.Test.YtaomgddfkpcdhaaRows
/-! A slice of entries opened. -/
namespace Go.Proofs.Ytaomgddfkpcdhaa.XDir
open Go.RowKit Go.Proofs.YtaomgddfkpcdhaaW.PrintWords Go.Proofs.YtaomgddfkpcdhaaW.PrintLast Go.Proofs.YtaomgddfkpcdhaaW.PrintMore Go.ChangeShapes Go.WideShapes Go.Deep
section
variable {H : Type} {enc : TypeId × Value → H} {w : World} {base : Nat} {held : Bool} {fuel : Nat} {cs : List Value} {x : DataW H × List MemPlace}
theorem op_ent (h : DataW.trod enc Try.prog w base (fun _ => true) held fuel 28 cs = some x) : ∃ e : S28, cs = [.int .u32 e.f0, .string e.f1] ∧ (0 ≤ e.f0 ∧ e.f0 < 4294967296) ∧ e.f1.size + 1 ≤ Rows.uptoBulk x.1 := by
  obtain ⟨xs, n, _, rfl, hl, hlen, hx⟩ := DataW.trod_struct Try.underlying28 h
  have hl2 : cs.length = 2 := hl.trans (by kernel_rfl)
  have hx2 : xs.length = 2 := by rw [hlen]; rfl
  have c0 : Try.prog.cellsOf 26 = 1 := by kernel_rfl
  have c1 : Try.prog.cellsOf 9 = 1 := by kernel_rfl
  match xs, hx2, cs, hl2, hx with
  | [y0, y1], _, [v0, v1], _, hx =>
    have h0 : DataW.trod enc Try.prog w base (fun _ => true) held n 26 (List.take (Try.prog.cellsOf 26) (List.drop 0 [v0, v1])) = some y0 := hx 0 _ rfl
    have h1 : DataW.trod enc Try.prog w base (fun _ => true) held n 9 (List.take (Try.prog.cellsOf 9) (List.drop 1 [v0, v1])) = some y1 := hx 1 _ rfl
    rw [c0] at h0
    rw [c1] at h1
    obtain ⟨z, e0, w0⟩ := op_int Try.underlying26 h0
    obtain ⟨s, e1, rfl, _⟩ := DataW.trod_string Try.underlying9 h1
    simp only [List.drop_zero, List.drop_succ_cons, List.take_succ_cons, List.take_zero, List.cons.injEq, and_true] at e0 e1
    subst e0
    subst e1
    refine ⟨⟨z, s⟩, rfl, wf_u32 w0, ?_⟩
    simp [Rows.uptoBulk, Rows.uptoBulkAll]
    have h_ := data_length s
    simp at h_
    omega
theorem bulk_mem {d : DataW H} {l : List (DataW H)} (h : d ∈ l) : Rows.uptoBulk d ≤ Rows.uptoBulkAll l := by
  induction l with
  | nil => cases h
  | cons y r ih =>
    simp only [Rows.uptoBulkAll]
    rcases List.mem_cons.1 h with e | e
    · subst e; omega
    · have := ih e; omega
theorem op_ents (h : DataW.trod enc Try.prog w base (fun _ => true) held fuel 22 cs = some x) :
    ∃ (A : Option Addr) (c : Nat) (l : List S28), cs = [.slice A l.length c] ∧ l.length ≤ c ∧ l.length ≤ 9223372036854775807 ∧ Kd.C k28 w A l.length l ∧ (∀ e ∈ l, 0 ≤ e.f0 ∧ e.f0 < 4294967296) ∧ ∀ e ∈ l, Rows.uptoBulk x.1 ≤ 1048576 → e.f1.size ≤ 1048576 := by
  have hC : Try.prog.cellsOf 28 = 2 := by kernel_rfl
  rcases open_slice Try.underlying22 h with ⟨rfl, _⟩ | ⟨a, len, cap, m, n, D, Pl, rfl, hb, hl, hm, hmm, rfl, hx⟩
  · exact ⟨none, 0, [], rfl, Nat.le_refl _, by simp, ⟨rfl, by simp, fun h => by simp at h⟩, by simp, by simp⟩
  · simp only [if_true] at hmm
    subst hmm
    have each : ∀ i, i < len → ∃ e : S28, (0 ≤ e.f0 ∧ e.f0 < 4294967296) ∧ e.f1.size + 1 ≤ Rows.uptoBulk (D i) ∧ ∀ j, j < 2 → w.cell? (a.add (i * 2 + j)) = [Value.int .u32 e.f0, Value.string e.f1][j]? := by
      intro i hi
      obtain ⟨cs', h1, h2⟩ := hx i (by omega)
      rw [hC] at h1
      obtain ⟨_, hl', hc'⟩ := World.cells?_some h1
      obtain ⟨e, rfl, hw, hbk⟩ := op_ent h2
      exact ⟨e, hw, hbk, fun j hj => by rw [← hc' j hj, Go.Deep.add_add]⟩
    have : Inhabited S28 := ⟨z28⟩
    obtain ⟨f, hf⟩ := choose_lt each
    refine ⟨some a, m, (List.range len).map f, by simp, by simpa using hl, by simp; unfold maxLen at hm; omega, ⟨by simp, by simp; unfold maxLen at hm; omega, fun hn => ⟨a, rfl, fun j p hj => ?_⟩⟩, ?_, ?_⟩
    · have hj' : j < len := by
        have h_ := (List.getElem?_eq_some_iff.1 hj).1
        simpa using h_
      obtain rfl : f j = p := by simpa [hj'] using hj
      refine ⟨_, rfl, k28_mk w (f j), fun i u hu => ?_⟩
      have hi : i < 2 := by
        have h_ := (List.getElem?_eq_some_iff.1 hu).1
        simpa using h_
      exact ((hf j hj').2.2 i hi).trans hu
    · intro e he
      simp only [List.mem_map, List.mem_range] at he
      obtain ⟨i, hi, rfl⟩ := he
      exact (hf i hi).1
    · intro e he hbk
      simp only [List.mem_map, List.mem_range] at he
      obtain ⟨i, hi, rfl⟩ := he
      have h1 := (hf i hi).2.1
      have h2 := bulk_mem (d := D i) (l := (List.range len).map D) (List.mem_map.2 ⟨i, by simp [hi], rfl⟩)
      simp only [Rows.uptoBulk] at hbk
      omega
end
end Go.Proofs.Ytaomgddfkpcdhaa.XDir
