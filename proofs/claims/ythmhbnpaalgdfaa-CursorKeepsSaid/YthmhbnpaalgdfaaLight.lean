import Derived.Test.YthmhbnpaalgdfaaLay
/-! Items as they stand in a slice; light. -/
set_option linter.unusedVariables false
namespace Go.Proofs.Ythmhbnpaalgdfaa
open Go.RowKit Go.Proofs.YthmhbnpaalgdfaaW.PrintWords
structure It where
  k : Int
  n : Int
  A : Option Addr
  c : Nat
  l : List Int
instance : Inhabited It := ⟨⟨0, 0, none, 0, []⟩⟩
def RdIts (w : World) (A : Option Addr) (rs : List It) : Prop :=
  rs.length ≤ 140737488351232 ∧ ∀ i, i < rs.length → ∃ a, A = some a ∧ w.cell? (a.add (i * 3)) = some (.int .i64 (rs.getD i default).k) ∧ w.cell? (a.add (i * 3 + 1)) = some (.int .u64 (rs.getD i default).n) ∧
    w.cell? (a.add (i * 3 + 2)) = some (.slice (rs.getD i default).A (rs.getD i default).l.length (rs.getD i default).c) ∧ (rs.getD i default).l.length ≤ (rs.getD i default).c ∧
    ReadsInt w .u8 (rs.getD i default).A (rs.getD i default).l.length (rs.getD i default).l ∧ Byt (rs.getD i default).l ∧ 0 ≤ (rs.getD i default).n ∧ (rs.getD i default).n < 18446744073709551616
theorem RdIts.below {w w1 : World} {A : Option Addr} {rs : List It} (h : RdIts w A rs) (hb : Below w.heap.size w w1) : RdIts w1 A rs :=
  ⟨h.1, fun i hi => by
    obtain ⟨a, e, h1, h2, h3, hl, hr, hB⟩ := h.2 i hi
    exact ⟨a, e, pw_cell_below hb h1, pw_cell_below hb h2, pw_cell_below hb h3, hl, hr.below hb, hB⟩⟩
def lightB (rs : List It) : Bool := decide (rs.length ≤ 40) && rs.all fun r => decide (r.l.length ≤ 400)
set_option maxHeartbeats 2000000 in
theorem light_any (rs : List It) (A : Option Addr) (c : Nat) (w : World) (hr : RdIts w A rs) :
    Calls Try.prog 18 #[.slice A rs.length c] w fun e w' => e = .returned (.bool (lightB rs)) ∧ Drawn0 w w' := by
  have hlen := hr.1
  have HR := Lib.hid hr
  clear hr
  by_cases h40 : 40 < rs.length
  · have hf : lightB rs = false := by unfold lightB; rw [decide_eq_false (by omega)]; rfl
    rw [hf]; clear hf
    go_enter Try.func18, Try.ntmps18
    go_wp2
    go_ret
    exact ⟨rfl, Drawn0.refl _⟩
  · go_enter Try.func18, Try.ntmps18
    go_wp2
    go_loopw [3] (fun i wr => ∃ k : Nat, k ≤ rs.length ∧ i = .int .i64 (k : Int) ∧ Hid ((rs.take k).all (fun r => decide (r.l.length ≤ 400)) = true) ∧ Hid (Drawn0 w wr)) (fun i _ => rs.length - (intOf i).toNat)
    case atStart => exact ⟨0, Nat.zero_le _, rfl, rfl, Lib.hid (Drawn0.refl _)⟩
    case round =>
      obtain ⟨k, hk, rfl, HL, HD⟩ := hrel
      by_cases hlt : k < rs.length
      · obtain ⟨ad, he, h1, h2, h3, _⟩ := (HR.out.below HD.out.below).2 k hlt
        subst he
        rw [add_field _ _ _ (by omega)] at h2 h3
        have hsn : (rs.take (k + 1)).all (fun r => decide (r.l.length ≤ 400)) = decide ((rs.getD k default).l.length ≤ 400) := by
          rw [List.take_succ_eq_append_getElem hlt, List.all_append, HL.out, List.getD_eq_getElem?_getD, List.getElem?_eq_getElem hlt]; simp
        obtain ⟨r0, hr0⟩ : ∃ r0, rs.getD k default = r0 := ⟨_, rfl⟩
        rw [hr0] at h1 h2 h3 hsn
        have HSN := Lib.hid hsn
        have HR0 := Lib.hid hr0
        clear hsn hr0
        by_cases h400 : 400 < r0.l.length
        · have hf : lightB rs = false := by
            unfold lightB
            rw [Bool.and_eq_false_iff]
            refine .inr (Bool.eq_false_iff.2 fun ha => ?_)
            have h_ := List.all_eq_true.1 ha r0 (by rw [← HR0.out, List.getD_eq_getElem?_getD, List.getElem?_eq_getElem hlt]; simp)
            simp at h_; omega
          have HF := Lib.hid hf
          clear hf
          go_wp2
          go_ret
          rw [HF.out]
          exact ⟨rfl, by first | exact HD.out | exact HD.out.step _⟩
        · go_wp2
          go_roundw
          case rel => exact ⟨k + 1, by omega, by go_num, Lib.hid (by rw [HSN.out]; simp; omega), by first | exact HD | exact Lib.hid (HD.out.step _)⟩
          case measure => simp [intOf]; omega
      · have hf : lightB rs = true := by
          unfold lightB
          rw [decide_eq_true (by omega)]
          have h_ := HL.out
          rw [List.take_of_length_le (by omega)] at h_
          rw [h_]; rfl
        have HF := Lib.hid hf
        clear hf
        go_wp2
        go_ret
        rw [HF.out]
        exact ⟨rfl, by first | exact HD.out | exact HD.out.step _⟩
/-- All items, one behind the other. -/
def layAll (rs : List It) : List Int := rs.foldl (fun b r => layL b r.k r.n r.l) []
theorem layAll_succ {rs : List It} {k : Nat} (h : k < rs.length) : layAll (rs.take (k + 1)) = layL (layAll (rs.take k)) (rs.getD k default).k (rs.getD k default).n (rs.getD k default).l := by
  rw [List.take_succ_eq_append_getElem h, layAll, List.foldl_append, List.getD_eq_getElem?_getD, List.getElem?_eq_getElem h]; rfl
set_option maxHeartbeats 4000000 in
set_option maxRecDepth 100000 in
theorem lays_walk (rs : List It) (A : Option Addr) (c : Nat) (w : World) (hr : RdIts w A rs) :
    Calls Try.prog 4 #[.slice A rs.length c] w fun e w' => e = .returned (.bool true) ∧ Below w.heap.size w w' := by
  have hlen := hr.1
  have HR := Lib.hid hr
  clear hr
  go_enter Try.func4, Try.ntmps4
  go_wp2_with fail
  with_reducible refine (laid_any _).mono ?_
  rintro e w1 ⟨rfl, hb1⟩
  have H1 := Lib.hid hb1
  clear hb1
  go_wp2_with fail
  refine (light_any rs A c _ (HR.out.below H1.out)).mono ?_
  rintro e w2 ⟨rfl, hd2⟩
  have H2 := Lib.hid (bl_seq H1.out hd2.below)
  clear hd2
  cases hlb : lightB rs
  · go_wp2_with fail
    with_reducible refine (laid_any _).mono ?_
    rintro e w3 ⟨rfl, hb3⟩
    have H3 := Lib.hid (bl_seq H2.out hb3)
    clear hb3
    go_wp2_with fail
    go_ret
    exact ⟨rfl, H3.out⟩
  · have hl40 : rs.length ≤ 40 := by
      unfold lightB at hlb
      rw [Bool.and_eq_true, decide_eq_true_eq] at hlb
      exact hlb.1
    have hl400 : ∀ r ∈ rs, r.l.length ≤ 400 := by
      unfold lightB at hlb
      rw [Bool.and_eq_true] at hlb
      intro r hr
      simpa using List.all_eq_true.1 hlb.2 r hr
    have H400 := Lib.hid hl400
    have s2 := le_size H2.out
    clear hlb hl400
    go_wp2
    go_loopw [4, 5] (fun bv i wr => ∃ (k : Nat) (v : Value), k ≤ rs.length ∧ i = .int .i64 (k : Int) ∧ Hid ((layAll (rs.take k)).length ≤ k * 600) ∧ Hid (Byt (layAll (rs.take k))) ∧ Hid (LayS wr w2.heap.size w2.heap.size v (layAll (rs.take k)) bv (layAll (rs.take k))) ∧ Hid (Below w2.heap.size (w2.alloc (.cells #[.slice none 0 0] 31)) wr)) (fun _ i _ => rs.length - (intOf i).toNat)
    case atStart => exact ⟨0, .slice none 0 0, Nat.zero_le _, rfl, Lib.hid (by simp [layAll]), Lib.hid (fun x hx => by simp [layAll] at hx), Lib.hid ⟨WrV.new w2, own_nil _ _ _ _, .inl rfl⟩, Lib.hid (Below.refl _ _)⟩
    case round =>
      obtain ⟨k, v, hk, rfl, HL, HY, HS, HB⟩ := hrel
      by_cases hlt : k < rs.length
      · have hbr : Below w.heap.size w wr := bl_step (bl_alloc H2.out _) HB.out s2
        obtain ⟨ad, he, h1, h2, h3, h4, h5, h6, h7, h8⟩ := (HR.out.below hbr).2 k hlt
        have hr0w := (HR.out.2 k hlt).choose_spec.2.2.2.2.2.1
        subst he
        have hsu := layAll_succ hlt
        have hr4 := H400.out (rs.getD k default) (by rw [List.getD_eq_getElem?_getD, List.getElem?_eq_getElem hlt]; simp)
        obtain ⟨r0, hr0⟩ : ∃ r0, rs.getD k default = r0 := ⟨_, rfl⟩
        rw [hr0] at h1 h2 h3 h4 h5 h6 h7 h8 hsu hr4 hr0w
        have hll := layL_len (layAll (rs.take k)) r0.l r0.k r0.n hr4 h7
        have hbb := layL_byt HY.out h6 r0.k r0.n
        have HX := Lib.hid (And.intro h4 (And.intro h5 (And.intro h6 (And.intro h7 (And.intro h8 (And.intro hr4 hr0w))))))
        have HSU := Lib.hid hsu
        have HLL := Lib.hid hll
        have HBB := Lib.hid hbb
        rw [add_field _ _ _ (by omega)] at h2 h3
        clear h4 h5 h6 h7 h8 hr4 hsu hr0 hbr hll hbb hr0w
        obtain ⟨Ab, nb, cb, rfl⟩ := own_slice' HS.out.own
        go_wp2_with fail
        refine (lay_any w2.heap.size w2.heap.size v (.slice Ab nb cb) (layAll (rs.take k)) (layAll (rs.take k)) r0.l r0.A r0.c r0.k r0.n wr HS.out (Nat.le_refl _) (by have h_ := le_size HB.out; simp at h_; omega) HX.out.2.1 (reads_far HX.out.2.2.2.2.2.2 s2 (Nat.le_refl _) HS.out.wr) HX.out.1 HX.out.2.2.1 HX.out.2.2.2.2.2.1 HX.out.2.2.2.1 HX.out.2.2.2.2.1 (by have h_ := HL.out; omega) (by have h_ := HL.out; omega)).mono ?_
        rintro e w3 ⟨v3, bv3, rfl, hs3, hb3⟩
        have HS3 := Lib.hid hs3
        have HB3 := Lib.hid hb3
        obtain ⟨A3, n3, c3, rfl⟩ := own_slice' hs3.own
        clear hs3 hb3
        go_wp2_with fail
        go_roundw
        case rel => exact ⟨k + 1, v3, by omega, by go_num, Lib.hid (by rw [HSU.out]; have h1_ := HLL.out; have h2_ := HL.out; omega), Lib.hid (by rw [HSU.out]; exact HBB.out), Lib.hid (by rw [HSU.out]; exact HS3.out), Lib.hid (HB.out.trans HB3.out)⟩
        case measure => simp [intOf]; omega
      · have hkn : rs.take k = rs := List.take_of_length_le (by omega)
        rw [hkn] at HL HY HS
        obtain ⟨L, hL⟩ : ∃ L, layAll rs = L := ⟨_, rfl⟩
        rw [hL] at HL HY HS
        have T4 : Hid (Below w.heap.size w wr) := Lib.hid (bl_step (bl_alloc H2.out _) HB.out s2)
        have hLl : L.length ≤ 1000000 := by have h_ := HL.out; omega
        obtain ⟨Ab, cb, rfl⟩ := own_slice HS.out.own
        clear hL hkn HL HB
        go_wp2_with fail
        with_reducible refine (Bytes_any w2.heap.size w2.heap.size v L _ HS.out.wr (by omega)).mono ?_
        rintro e w5 ⟨v5, rfl, hn5⟩
        have hn5 : New _ w5 v5 L := hn5
        obtain ⟨A5, c5, rfl, _⟩ := hn5.slice
        have N5 := Lib.hid hn5
        have G5 := Lib.hid (HS.out.below hn5.bel)
        have T5 := Lib.hid (bl_seq T4.out hn5.bel)
        clear hn5
        go_wp2_with fail
        with_reducible refine (rSame_any L L A5 Ab _ _ c5 cb _ N5.out.reads (own_reads' G5.out.own) HY.out HY.out).mono ?_
        rintro e w6 ⟨rfl, hd6⟩
        have G6 := Lib.hid (G5.out.below hd6.below)
        have T6 := Lib.hid (bl_seq T5.out hd6.below)
        clear hd6
        simp only [decide_true]
        go_wp2_with fail
        with_reducible refine (Bytes_any w2.heap.size w2.heap.size v L _ G6.out.wr (by omega)).mono ?_
        rintro e w7 ⟨v7, rfl, hn7⟩
        have hn7 : New _ w7 v7 L := hn7
        obtain ⟨A7, c7, rfl, _⟩ := hn7.slice
        have N7 := Lib.hid hn7
        have G7 := Lib.hid (G6.out.below hn7.bel)
        have T7 := Lib.hid (bl_seq T6.out hn7.bel)
        clear hn7
        go_wp2_with fail
        with_reducible refine (rSame_any L L A7 Ab _ _ c7 cb _ N7.out.reads (own_reads' G7.out.own) HY.out HY.out).mono ?_
        rintro e w8 ⟨rfl, hd8⟩
        have T8 := Lib.hid (bl_seq T7.out hd8.below)
        clear hd8
        simp only [decide_true]
        go_wp2_with fail
        go_ret
        exact ⟨rfl, T8.out⟩
end Go.Proofs.Ythmhbnpaalgdfaa
