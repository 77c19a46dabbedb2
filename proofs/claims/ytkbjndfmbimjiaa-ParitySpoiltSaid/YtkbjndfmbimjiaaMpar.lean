import Derived.Test.YtkbjndfmbimjiaaMxor
import Derived.Test.YtkbjndfmbimjiaaMopn
import Derived.Test.YtkbjndfmbimjiaaRcom
import Derived.Test.YtkbjndfmbimjiaaChain
/-! parity.head, parity.Of. -/
set_option linter.unusedVariables false
set_option linter.unusedSimpArgs false
namespace Go.Proofs.Ytkbjndfmbimjiaa
open Go.RowKit Go.Proofs.YtkbjndfmbimjiaaW.PrintWords Go.Proofs.YtkbjndfmbimjiaaW.PrintLast
def PofR.T9 : Bool × List (List Nat × List Nat) := (true, [([], []), ([], []), ([], []), ([], []), ([3], [3]), ([1, 2, 4, 4], [1, 2, 4]), ([0, 5], [0, 5]), ([6, 5, 0, 1, 2, 3, 4, 5, 6], [6])])
def PofR.B9 : List Nat := [0, 0, 0, 0, 8, 30, 63, 127]
theorem PofR.tab9 : rtab .any (opsOf Try.f15 9) = PofR.T9 := by kernel_rfl
theorem PofR.bits9 : waitsOk PofR.T9.2 PofR.B9 = true := by kernel_rfl
/-- A row of bytes that is owned. -/
def OwnN (w : World) (base : Nat) (A : Option Addr) (n c : Nat) (xs : List Int) : Prop := w.ownsRow base 5 1 (.slice A n c) n (nums .u8 xs)
theorem OwnN.below {w w' : World} {base n c : Nat} {A : Option Addr} {xs : List Int} (h : OwnN w base A n c xs) (hb : Below w.heap.size w w') : OwnN w' base A n c xs := own_move h fun k hk => hb.block k (World.ownsRow.lt h k hk).2
theorem OwnN.base {w : World} {b b' n c : Nat} {A : Option Addr} {xs : List Int} (h : OwnN w b A n c xs) (hb : b' ≤ b) : OwnN w b' A n c xs := own_base h hb
theorem OwnN.far {w : World} {base n c : Nat} {A : Option Addr} {xs : List Int} (h : OwnN w base A n c xs) (g j : Nat) (v : Value) (hg : g < base) : OwnN (w.setCell ⟨g, j, none⟩ v) base A n c xs :=
  own_setCell h (fun e => by have h_ : base ≤ g := (World.ownsRow.lt h _ e.symm).1; omega) v
theorem OwnN.len {w : World} {base n c : Nat} {A : Option Addr} {xs : List Int} (h : OwnN w base A n c xs) : xs.length = n := by have h_ := h.1; simpa [nums] using h_
theorem OwnN.reads {w : World} {base n c : Nat} {A : Option Addr} {xs : List Int} (h : OwnN w base A n c xs) : ReadsInt w .u8 A n xs ∧ n ≤ c := ⟨own_reads' h, own_le h⟩
theorem OwnN.row {w : World} {base c n : Nat} {A : Option Addr} {xs : List Int} (h : OwnN w base A n c xs) (hb : Byt xs) : RowOk w ⟨A, c, xs⟩ := by
  have hl := h.len
  subst hl
  exact ⟨h.reads.2, h.reads.1, hb⟩
theorem sep_symm {x y : Option Nat} (h : x = none ∨ x ≠ y) : y = none ∨ y ≠ x := by
  rcases h with rfl | h
  · cases y with
    | none => exact .inl rfl
    | some b => exact .inr (by simp)
  · exact .inr (fun e => h e.symm)
/-- A row that grew lies apart from another still. -/
theorem sep_grown {v v1 u : Value} {B : Nat} (h : v.ownBlock = none ∨ v.ownBlock ≠ u.ownBlock) (hat : v1.ownBlock = v.ownBlock ∨ ∃ b, v1.ownBlock = some b ∧ B ≤ b) (hu : ∀ k, u.ownBlock = some k → k < B) : v1.ownBlock = none ∨ v1.ownBlock ≠ u.ownBlock := by
  rcases hat with hat | ⟨b, hb, hB⟩
  · rw [hat]; exact h
  · refine .inr (fun e => ?_)
    have h1 := hu b (e.symm.trans hb)
    omega
/-- A page as it stands in a row of pages. -/
structure Pg where
  d : Row
  o : Row
instance : Inhabited Pg := ⟨⟨default, default⟩⟩
def RdPages (w : World) (A : Option Addr) (ps : List Pg) : Prop :=
  ps.length ≤ 9223372036854775807 ∧ ∀ i, i < ps.length → ∃ a, A = some a ∧ w.cell? (a.add (i * 2)) = some (encR (ps.getD i default).d) ∧ w.cell? ⟨(a.add (i * 2)).block, (a.add (i * 2)).off + 1, none⟩ = some (encR (ps.getD i default).o) ∧ RowOk w (ps.getD i default).d ∧ RowOk w (ps.getD i default).o
theorem RdPages.below {w w1 : World} {A : Option Addr} {ps : List Pg} (h : RdPages w A ps) (hb : Below w.heap.size w w1) : RdPages w1 A ps :=
  ⟨h.1, fun i hi => by
    obtain ⟨a, e, h1, h2, h3, h4⟩ := h.2 i hi
    exact ⟨a, e, pw_cell_below hb h1, pw_cell_below hb h2, h3.below hb, h4.below hb⟩⟩
def headR (r : Row) : Row := ⟨r.A, r.c, r.l.take 32⟩
theorem headR_ok {w : World} {r : Row} (h : RowOk w r) : RowOk w (headR r) := by
  refine ⟨?_, ?_, fun x hx => h.2.2 x (List.take_subset _ _ hx)⟩
  · have h_ := h.1; simp only [headR, List.length_take]; omega
  · have h_ := h.2.1.take_ (min 32 r.l.length) (by omega)
    simp only [headR, List.length_take]
    have e : r.l.take (min 32 r.l.length) = r.l.take 32 := by
      rcases Nat.le_total 32 r.l.length with h1 | h1
      · rw [Nat.min_eq_left h1]
      · rw [Nat.min_eq_right h1, List.take_length, List.take_of_length_le h1]
    rw [e] at h_
    exact h_
def dataL (ps : List Pg) : List (List Int) := ps.map (·.d.l)
def headL (ps : List Pg) : List (List Int) := ps.map (fun p => p.o.l.take 32)
set_option maxHeartbeats 4000000 in
set_option maxRecDepth 100000 in
theorem head_any (r o : Row) (w : World) (hd : o.l.length ≤ o.c) (hm : o.l.length ≤ 9223372036854775807) : Calls Try.prog 24 #[.agg #[encR r, encR o]] w fun e w' => e = .returned (encR (headR o)) ∧ Below w.heap.size w w' := by
  have hb_ : (w.alloc (.cells #[encR r, encR o] 43)).heap[w.heap.size]? = some (.cells #[encR r, encR o] 43 (0, 0)) := heap_alloc_new _ _
  have y1 : (w.alloc (.cells #[encR r, encR o] 43)).cell? ⟨w.heap.size, 1, none⟩ = some (.slice o.A o.l.length o.c) := (blk_cell hb_ 1).trans rfl
  have hE : encR (headR o) = .slice o.A (min 32 o.l.length) o.c := by simp [encR, headR, List.length_take]
  rw [hE]
  clear hb_ hE
  go_enter Try.func24, Try.ntmps24
  go_wp2_with fail
  · go_ret
    exact ⟨by rw [Nat.min_eq_left (by omega)]; rfl, bl_alloc (Below.refl _ _) _⟩
  · go_ret
    exact ⟨by rw [Nat.min_eq_right (by omega)]; rfl, bl_alloc (Below.refl _ _) _⟩
set_option maxHeartbeats 4000000 in
set_option maxRecDepth 100000 in
theorem Of_any (h : Hd) (ps : List Pg) (A : Option Addr) (c : Nat) (w : World) (ho : h.ok) (hp : RdPages w A ps) (hm : mlen (dataL ps) ≤ 900000) (hps : ps.length ≤ 1000) :
    Calls Try.prog 15 #[.agg (hdC h), .slice A ps.length c] w fun e w' => ∃ A1 c1 A2 c2, e = .returned (.agg #[.slice A1 (xorL (dataL ps)).length c1, .slice A2 64 c2]) ∧ OwnN w' (w.heap.size + 2) A1 (xorL (dataL ps)).length c1 (xorL (dataL ps)) ∧ OwnN w' (w.heap.size + 2) A2 64 c2 (sealL h (xorL (dataL ps)) (xorL (headL ps))) ∧ Below w.heap.size w w' := by
  have HR := Lib.hid hp
  have HO := Lib.hid ho
  have HM := Lib.hid hm
  have hlen := hp.1
  clear hp ho hm
  have hb0 : ((w.alloc (.cells (hdC h) 35)).alloc (.cells #[.slice none 0 0, .slice none 0 0] 43)).heap[w.heap.size]? = some (.cells #[.int .u8 h.k, .int .u32 h.e, .int .u32 h.b, .int .u16 h.i, .int .u16 h.c, .int .u32 h.l, .int .u32 h.m] 35 (0, 0)) := blk_alloc (heap_alloc_new _ _) _
  have rb0 : ((w.alloc (.cells (hdC h) 35)).alloc (.cells #[.slice none 0 0, .slice none 0 0] 43)).heap[w.heap.size + 1]? = some (.cells #[.slice none 0 0, .slice none 0 0] 43 (0, 0)) := by
    have h_ := heap_alloc_new (w.alloc (.cells (hdC h) 35)) (.cells #[.slice none 0 0, .slice none 0 0] 43)
    simp only [World.size_alloc] at h_
    exact h_
  have tb0 : Below w.heap.size w ((w.alloc (.cells (hdC h) 35)).alloc (.cells #[.slice none 0 0, .slice none 0 0] 43)) := bl_alloc (bl_alloc (Below.refl _ _) _) _
  have H0 := Lib.hid (And.intro hb0 (And.intro rb0 tb0))
  clear hb0 rb0 tb0
  go_enter Try.func15, Try.ntmps15
  obtain ⟨wE, hwE⟩ : ∃ wE, ((w.alloc (.cells (hdC h) 35)).alloc (.cells #[.slice none 0 0, .slice none 0 0] 43)) = wE := ⟨_, rfl⟩
  have hzE : wE.heap.size = w.heap.size + 2 := by rw [← hwE]; simp
  rw [hwE] at H0
  go_wp2_with fail
  try rw [hwE]
  clear hwE
  have ZE := Lib.hid hzE
  clear hzE
  go_loopw [5, 6, 12] (fun a b i wr => ∃ k : Nat, k ≤ ps.length ∧ i = .int .i64 (k : Int) ∧ Hid (wr.ownsRow wE.heap.size 24 1 a ((ps.take k).map (·.d)).length (encs encR ((ps.take k).map (·.d)))) ∧ Hid (wr.ownsRow wE.heap.size 24 1 b ((ps.take k).map (fun p => headR p.o)).length (encs encR ((ps.take k).map (fun p => headR p.o)))) ∧ Hid (a.ownBlock = none ∨ a.ownBlock ≠ b.ownBlock) ∧ Hid (Below wE.heap.size wE wr)) (fun _ _ i _ => ps.length - (intOf i).toNat)
  case atStart => exact ⟨0, Nat.zero_le _, rfl, Lib.hid (own_nil _ _ _ _), Lib.hid (own_nil _ _ _ _), Lib.hid (.inl rfl), Lib.hid (Below.refl _ _)⟩
  case round =>
    obtain ⟨k, hk, rfl, HA, HB, HN, HT⟩ := hrel
    by_cases hlt : k < ps.length
    · obtain ⟨ad, he, hc1, hc2, hr1, hr2⟩ := (HR.out.below (bl_seq H0.out.2.2 HT.out)).2 k hlt
      subst he
      have hs1 : (ps.take (k + 1)).map (·.d) = (ps.take k).map (·.d) ++ [(ps.getD k default).d] := by
        rw [List.take_succ_eq_append_getElem hlt, List.map_append, List.getD_eq_getElem?_getD, List.getElem?_eq_getElem hlt]; rfl
      have hs2 : (ps.take (k + 1)).map (fun p => headR p.o) = (ps.take k).map (fun p => headR p.o) ++ [headR (ps.getD k default).o] := by
        rw [List.take_succ_eq_append_getElem hlt, List.map_append, List.getD_eq_getElem?_getD, List.getElem?_eq_getElem hlt]; rfl
      obtain ⟨p0, hp0⟩ : ∃ p0, ps.getD k default = p0 := ⟨_, rfl⟩
      rw [hp0] at hc1 hc2 hr1 hr2 hs1 hs2
      have HS := Lib.hid (And.intro hs1 (And.intro hs2 (And.intro hr1 hr2)))
      simp only [encR] at hc1 hc2
      have hki : ((k : Int) * 2).toNat = k * 2 := by omega
      have hl1 : ((ps.take k).map (·.d)).length = k := by simp; omega
      have hl2 : ((ps.take k).map (fun p => headR p.o)).length = k := by simp; omega
      have HL := Lib.hid (And.intro hl1 hl2)
      clear hs1 hs2 hr1 hr2 hp0 hl1 hl2
      obtain ⟨Aa, na, ca, rfl⟩ := own_slice' HA.out
      obtain ⟨Ab, nb, cb, rfl⟩ := own_slice' HB.out
      go_wp2_with (at_builtin; refine print_append_of (w0 := wE) encR wE.heap.size rfl (.tmp 16) (.tmp 19) 22 24 (.slice none 0 0) 24 rfl Try.underlying22 infoR rfl (by decide) _ ((ps.take k).map (·.d)) (p0.d) rfl (by first | rfl | (simp [Act.eval]; done) | (simp only [World.size_alloc]; rfl)) rfl ?aO ?aB ?aS ?aL ?_; (case aO => exact HA.out.alloc _); (case aB => exact HT.out.trans (bl_alloc (Below.refl _ _) _ |>.mono HT.out.size)); (case aS => exact (HT.out.trans (bl_alloc (Below.refl _ _) _ |>.mono HT.out.size)).size); (case aL => simp <;> omega); intro v9 w9 ho hb hg hat; have hpb := blk_grown (heap_alloc_new wr (.cells #[.slice p0.d.A p0.d.l.length p0.d.c, .slice p0.o.A p0.o.l.length p0.o.c] 43)) hg (fun e => by have h_ := (HA.out.lt _ e.symm).2; omega); have y0 : w9.cell? ⟨wr.heap.size, 0, none⟩ = some (.slice p0.d.A p0.d.l.length p0.d.c) := (blk_cell hpb 0).trans rfl; have y1 : w9.cell? ⟨wr.heap.size, 1, none⟩ = some (.slice p0.o.A p0.o.l.length p0.o.c) := (blk_cell hpb 1).trans rfl; have O9 := Lib.hid (And.intro ho (And.intro hb (And.intro hg hat))); clear ho hb hg hat hpb)
      refine (head_any p0.d p0.o w9 HS.out.2.2.2.1 HS.out.2.2.2.2.1.2.1).mono ?_
      rintro e w10 ⟨he10, hb10⟩
      rw [show encR (headR p0.o) = .slice (headR p0.o).A (headR p0.o).l.length (headR p0.o).c from rfl] at he10
      subst he10
      have ha10 : w10.ownsRow wE.heap.size 24 1 v9 ((ps.take k).map (·.d) ++ [p0.d]).length (encs encR ((ps.take k).map (·.d) ++ [p0.d])) := own_move O9.out.1 fun j hj => hb10.block j (O9.out.1.lt j hj).2
      have hb9 : w9.ownsRow wE.heap.size 24 1 (.slice Ab nb cb) ((ps.take k).map (fun p => headR p.o)).length (encs encR ((ps.take k).map (fun p => headR p.o))) := own_other (HB.out.alloc _) O9.out.2.2.1 (sep_symm HN.out)
      have hb10_ : w10.ownsRow wE.heap.size 24 1 (.slice Ab nb cb) ((ps.take k).map (fun p => headR p.o)).length (encs encR ((ps.take k).map (fun p => headR p.o))) := own_move hb9 fun j hj => hb10.block j (hb9.lt j hj).2
      have hn10 := sep_grown HN.out O9.out.2.2.2 (fun j hj => by have h_ := (HB.out.lt j hj).2; simp; omega)
      have HA10 := Lib.hid ha10
      have HB10 := Lib.hid hb10_
      have HN10 := Lib.hid hn10
      have HT10 := Lib.hid (O9.out.2.1.trans (hb10.mono O9.out.2.1.size))
      clear ha10 hb9 hb10_ hn10 hb10 HA HB HN HT y0 y1 O9
      go_wp2_with (at_builtin; refine print_append_of (w0 := wE) encR wE.heap.size rfl (.tmp 21) (.tmp 24) 22 24 (.slice none 0 0) 24 rfl Try.underlying22 infoR rfl (by decide) _ ((ps.take k).map (fun p => headR p.o)) (headR p0.o) rfl (by first | rfl | (simp [Act.eval]; done) | (simp only [World.size_alloc]; rfl)) rfl ?aO ?aB ?aS ?aL ?_; (case aO => exact HB10.out); (case aB => exact HT10.out); (case aS => exact HT10.out.size); (case aL => simp <;> omega); intro v11 w11 ho hb hg hat; have O11 := Lib.hid (And.intro ho (And.intro hb (And.intro hg hat))); clear ho hb hg hat)
      go_roundw
      case rel =>
        refine ⟨k + 1, by omega, by go_num, ?_, ?_, ?_, Lib.hid O11.out.2.1⟩
        · rw [HS.out.1]; exact Lib.hid (own_other HA10.out O11.out.2.2.1 HN10.out)
        · rw [HS.out.2.1]; exact Lib.hid O11.out.1
        · exact Lib.hid (sep_symm (sep_grown (sep_symm HN10.out) O11.out.2.2.2 (fun j hj => (HA10.out.lt j hj).2)))
      case measure => simp [intOf]; omega
    · have hk2 : ps.take k = ps := List.take_of_length_le (by omega)
      rw [hk2] at HA HB
      obtain ⟨Aa, na, ca, rfl⟩ := own_slice' HA.out
      obtain ⟨Ab, nb, cb, rfl⟩ := own_slice' HB.out
      have hna := own_n HA.out rfl
      have hnb := own_n HB.out rfl
      subst hna hnb
      have OKS := Lib.hid (show ∀ W, Below w.heap.size w W → (∀ r ∈ ps.map (·.d), RowOk W r) ∧ (∀ r ∈ ps.map (fun p => headR p.o), RowOk W r) from fun W hW => ⟨fun r hr => by
          obtain ⟨p, hp, rfl⟩ := List.mem_map.1 hr
          obtain ⟨i, hi, rfl⟩ := List.getElem_of_mem hp
          obtain ⟨_, _, _, _, h1, _⟩ := (HR.out.below hW).2 i hi
          rwa [List.getD_eq_getElem?_getD, List.getElem?_eq_getElem hi] at h1, fun r hr => by
          obtain ⟨p, hp, rfl⟩ := List.mem_map.1 hr
          obtain ⟨i, hi, rfl⟩ := List.getElem_of_mem hp
          obtain ⟨_, _, _, _, _, h1⟩ := (HR.out.below hW).2 i hi
          rw [List.getD_eq_getElem?_getD, List.getElem?_eq_getElem hi] at h1
          exact headR_ok h1⟩)
      clear hk2
      go_wp2_with fail
      have hxr := RdRows.of (reads_k HA.out rfl) (OKS.out wr (bl_seq H0.out.2.2 HT.out)).1
      have hll : ll (ps.map (·.d)) = dataL ps := by simp [ll, dataL]
      have hll2 : ll (ps.map (fun p => headR p.o)) = headL ps := by simp [ll, headL, headR]
      have hlm : (ps.map (·.d)).length = ps.length := by simp
      have hlm2 : (ps.map (fun p => headR p.o)).length = ps.length := by simp
      have hx1 := Xor_any (ps.map (·.d)) Aa ca wr hxr (by rw [hll]; have h_ := HM.out; omega)
      rw [hlm, hll] at hx1
      refine hx1.mono ?_
      rintro e w12 ⟨v12, rfl, hn12⟩
      obtain ⟨A9, c9, rfl, hc9⟩ := hn12.shape _ rfl
      have hrs : RdRows w12 Ab (ps.map (fun p => headR p.o)) := (RdRows.of (reads_k HB.out rfl) (OKS.out wr (bl_seq H0.out.2.2 HT.out)).2).below hn12.bel
      have hby1 : ∀ l ∈ dataL ps, Byt l := fun l hl => by
        simp only [dataL, List.mem_map] at hl
        obtain ⟨p, hp, rfl⟩ := hl
        exact ((OKS.out wr (bl_seq H0.out.2.2 HT.out)).1 p.d (List.mem_map.2 ⟨p, hp, rfl⟩)).2.2
      have hby2 : ∀ l ∈ headL ps, Byt l := fun l hl => by
        simp only [headL, List.mem_map] at hl
        obtain ⟨p, hp, rfl⟩ := hl
        exact ((OKS.out wr (bl_seq H0.out.2.2 HT.out)).2 (headR p.o) (List.mem_map.2 ⟨p, hp, rfl⟩)).2.2
      have hm32 : mlen (headL ps) ≤ 32 := mlen_bound fun l hl => by
        simp only [headL, List.mem_map] at hl
        obtain ⟨p, hp, rfl⟩ := hl
        rw [List.length_take]; omega
      have hbd := xorL_byt hby1
      have hbl := xorL_byt hby2
      have hlD : (xorL (dataL ps)).length ≤ 900000 := by rw [xorL_length]; exact HM.out
      have DD0 : OwnN w12 (w.heap.size + 2) A9 (xorL (dataL ps)).length c9 (xorL (dataL ps)) := (show OwnN w12 wr.heap.size A9 _ c9 _ from hn12.own rfl).base (by have h1_ := HT.out.size; have h2_ := ZE.out; omega)
      have BB0 := bl_seq (bl_seq H0.out.2.2 HT.out) hn12.bel
      have HB0 := blk_below (blk_below H0.out.1 HT.out) hn12.bel
      have RB0 := blk_below (blk_below H0.out.2.1 HT.out) hn12.bel
      generalize hDL : xorL (dataL ps) = DL at hbd hlD DD0 ⊢
      obtain ⟨BL, hBL⟩ : ∃ BL, xorL (headL ps) = BL := ⟨_, rfl⟩
      rw [hBL] at hbl
      have HDL := Lib.hid (And.intro hDL hBL)
      have XO : Hid (∀ W, RdRows W Ab (ps.map (fun p => headR p.o)) → Calls Try.prog 10 #[.slice Ab ps.length cb] W fun e W' => ∃ A' c', e = .returned (.slice A' BL.length c') ∧ OwnN W' W.heap.size A' BL.length c' BL ∧ Below W.heap.size W W') := Lib.hid (fun W hW => by
        have h_ := Xor_any (ps.map (fun p => headR p.o)) Ab cb W hW (by rw [hll2]; omega)
        rw [hlm2, hll2, hBL] at h_
        refine h_.mono ?_
        rintro e W' ⟨v, rfl, hn⟩
        obtain ⟨A', c', rfl, _⟩ := hn.shape _ rfl
        exact ⟨A', c', rfl, hn.own rfl, hn.bel⟩)
      have SE : Hid (∀ W A4 c4, OwnN W (w.heap.size + 2) A9 DL.length c9 DL → OwnN W 0 A4 BL.length c4 BL → Calls Try.prog 25 #[.agg #[.int .u8 h.k, .int .u32 h.e, .int .u32 h.b, .int .u16 h.i, .int .u16 h.c, .int .u32 h.l, .int .u32 h.m], .slice A9 DL.length c9, .slice A4 BL.length c4] W fun e W' => ∃ A' c', e = .returned (.slice A' 64 c') ∧ OwnN W' W.heap.size A' 64 c' (sealL h DL BL) ∧ Below W.heap.size W W') := Lib.hid (fun W A4 c4 h1 h2 => by
        refine (Seal_any h A9 A4 c9 c4 DL.length BL.length DL BL W HO.out h1.reads.1 h1.reads.2 hbd (by omega) h2.reads.1 h2.reads.2 hbl).mono ?_
        rintro e W' ⟨v, rfl, hn⟩
        obtain ⟨A', c', rfl, _⟩ := hn.shape 64 (sealL_length _ _ _)
        exact ⟨A', c', rfl, hn.own (sealL_length _ _ _), hn.bel⟩)
      obtain ⟨rsB, hrsB⟩ : ∃ rsB, ps.map (fun p => headR p.o) = rsB := ⟨_, rfl⟩
      rw [hrsB] at hrs XO
      have BB := Lib.hid BB0
      have HB_ := Lib.hid HB0
      have RB := Lib.hid RB0
      have DD := Lib.hid DD0
      have RS := Lib.hid hrs
      clear BB0 HB0 RB0 DD0 hrs hxr hll hll2 hlm hlm2 hx1 hn12 hby1 hby2 hm32 hbd hbl hlD hDL hBL hrsB OKS HA HN HT HB hc9
      have HB := HB_
      clear HB_
      obtain ⟨A6, hA6⟩ : ∃ A6, Ab = A6 := ⟨_, rfl⟩
      obtain ⟨c6, hc6⟩ : ∃ c6, cb = c6 := ⟨_, rfl⟩
      obtain ⟨n6, hn6⟩ : ∃ n6, ps.length = n6 := ⟨_, rfl⟩
      rw [hA6] at RS XO ⊢
      rw [hc6] at XO ⊢
      rw [hn6] at XO
      clear hA6 hc6
      go_wp2_with fail
      obtain ⟨wy, hwy⟩ : ∃ wy, wy = w12 := ⟨_, rfl⟩
      rw [← hwy] at BB HB RB DD RS ⊢
      clear hwy
      rw [hn6] at *
      refine start_ (n := 8) (S := fun w' => True) (ds := []) #[false, false, false, false, false, false, false, false] (by kernel_rfl) rfl rfl trivial (fun hHeld => ?_)
      refine with_tabW PofR.tab9 PofR.bits9 (fun HT_ HW_ => ?_)
      have BB := Lib.hid (bl_drew BB.out)
      have HB := Lib.hid (show wy.drew.heap[w.heap.size]? = _ from HB.out)
      have RB := Lib.hid (show wy.drew.heap[w.heap.size + 1]? = _ from RB.out)
      have DD := Lib.hid (show OwnN wy.drew _ _ _ _ _ from DD.out)
      have RS := Lib.hid (show RdRows wy.drew _ _ from RS.out)
      generalize wy.drew = wz at BB HB RB DD RS hHeld ⊢
      refine pure_ (i := 0) (N := some 29) (v := ?_) (a' := ?_) #[true, false, false, false, false, false, false, false] rfl rfl (any_of HT_.out (by kernel_rfl)) (fun _ _ _ h => h) (Or.inl ⟨by rfl, ?_⟩) ?_ ?_
      rotate_left
      · intro w'
        go_simp
        with_reducible rfl
      rotate_left
      · simp only [Act.put, List.setIfInBounds_toArray, List.set_cons_zero, List.set_cons_succ, i64_w, i32_w]
        rfl
      refine pure_ (i := 2) (N := some 31) (v := ?_) (a' := ?_) #[true, false, true, false, false, false, false, false] rfl rfl (any_of HT_.out (by kernel_rfl)) (fun _ _ _ h => h) (Or.inl ⟨by rfl, ?_⟩) ?_ ?_
      rotate_left
      · intro w'
        go_simp
        with_reducible rfl
      rotate_left
      · simp only [Act.put, List.setIfInBounds_toArray, List.set_cons_zero, List.set_cons_succ, i64_w, i32_w]
        rfl
      refine pure_ (i := 3) (N := some 32) (v := ?_) (a' := ?_) #[true, false, true, true, false, false, false, false] rfl rfl (any_of HT_.out (by kernel_rfl)) (fun _ _ _ h => h) (Or.inl ⟨by rfl, ?_⟩) ?_ ?_
      rotate_left
      · intro w'
        go_simp
        with_reducible rfl
      rotate_left
      · simp only [Act.put, List.setIfInBounds_toArray, List.set_cons_zero, List.set_cons_succ, i64_w, i32_w]
        rfl
      refine inv_at [1, 4, 5, 6, 7] (fun a0_ b a w' => ∃ (A4 : Option Addr) (c4 : Nat) (A5 : Option Addr) (c5 : Nat) (m4_ : Value) (m5_ : Value) (m6_ : Value), a = putSel a0_ b [(1, 30, .agg #[.int .u8 h.k, .int .u32 h.e, .int .u32 h.b, .int .u16 h.i, .int .u16 h.c, .int .u32 h.l, .int .u32 h.m]), (4, 33, m4_), (5, 34, m5_), (6, 35, m6_)] ∧ (Below w.heap.size w w') ∧ (w'.heap[w.heap.size]? = some (.cells #[.int .u8 h.k, .int .u32 h.e, .int .u32 h.b, .int .u16 h.i, .int .u16 h.c, .int .u32 h.l, .int .u32 h.m] 35 (0, 0))) ∧ (b 7 = false → w'.heap[w.heap.size + 1]? = some (.cells #[.slice none 0 0, .slice none 0 0] 43 (0, 0))) ∧ (OwnN w' (w.heap.size + 2) A9 DL.length c9 DL) ∧ (b 4 = false → RdRows w' A6 rsB) ∧ (b 4 = true → b 5 = false → OwnN w' 0 A4 BL.length c4 BL) ∧ (b 5 = true → OwnN w' (w.heap.size + 2) A5 64 c5 (sealL h DL BL)) ∧ (b 7 = true → w'.heap[w.heap.size + 1]? = some (.cells #[.slice A9 DL.length c9, .slice A5 64 c5] 43 (0, 0))) ∧ (b 4 = true → (m4_ : Value) = .slice A4 BL.length c4) ∧ (b 5 = true → (m5_ : Value) = .slice A5 64 c5) ∧ (b 6 = true → (m6_ : Value) = .agg #[.slice A9 DL.length c9, .slice A5 64 c5])) HT_.out HW_.out (by kernel_rfl) (by kernel_rfl) ?_ ?_ ?_
      · exact ⟨none, 0, none, 0, .bool false, .bool false, .bool false, by simp only [putSel, Bool.false_eq_true, if_false], BB.out, HB.out, fun _ => RB.out, DD.out, fun _ => RS.out, fun h_ => absurd h_ (by decide), fun h_ => absurd h_ (by decide), fun h_ => absurd h_ (by decide), fun h_ => absurd h_ (by decide), fun h_ => absurd h_ (by decide), fun h_ => absurd h_ (by decide)⟩
      · skip
        clear BB DD HB RB RS
        refine steps_cons ?_ ?_
        · rintro b a w' ⟨A4, c4, A5, c5, m4_, m5_, m6_, ha, Q_BB, Q_HB, Q_RB, Q_DD, Q_RS, Q_B4, Q_S5, Q_FIN, Q_X4_, Q_X5_, Q_X6_⟩ hb_ hon hoff
          refine ⟨_, rfl, fun K hK => ?_⟩
          have e2 : a.tmps[2]? = some (.pointer (some ⟨w.heap.size, 0, none⟩)) := by rw [ha]; exact (putSel_off rfl).trans rfl
          replace ha := Aside0.mk ha
          have BB := Aside0.mk Q_BB
          have HB := Aside0.mk Q_HB
          have RB := Aside0.mk (Q_RB (hoff 7 (by kernel_rfl)))
          have DD := Aside0.mk Q_DD
          have hc0_ : w'.cell? ⟨w.heap.size, 0, none⟩ = some (.int .u8 h.k) := (blk_cell HB.out 0).trans rfl
          have hc1_ : w'.cell? ⟨w.heap.size, 1, none⟩ = some (.int .u32 h.e) := (blk_cell HB.out 1).trans rfl
          have hc2_ : w'.cell? ⟨w.heap.size, 2, none⟩ = some (.int .u32 h.b) := (blk_cell HB.out 2).trans rfl
          have hc3_ : w'.cell? ⟨w.heap.size, 3, none⟩ = some (.int .u16 h.i) := (blk_cell HB.out 3).trans rfl
          have hc4_ : w'.cell? ⟨w.heap.size, 4, none⟩ = some (.int .u16 h.c) := (blk_cell HB.out 4).trans rfl
          have hc5_ : w'.cell? ⟨w.heap.size, 5, none⟩ = some (.int .u32 h.l) := (blk_cell HB.out 5).trans rfl
          have hc6_ : w'.cell? ⟨w.heap.size, 6, none⟩ = some (.int .u32 h.m) := (blk_cell HB.out 6).trans rfl
          refine value_ (w1 := w') (v := .agg #[.int .u8 h.k, .int .u32 h.e, .int .u32 h.b, .int .u16 h.i, .int .u16 h.c, .int .u32 h.l, .int .u32 h.m]) (by rfl) rfl ?_ ?_
          · go_simp
            (try simp only [i64_w])
            try rfl
          refine hK.out _ _ ⟨A4, c4, A5, c5, m4_, m5_, m6_, (by rw [ha.out]; exact putSel_upk 0 hb_ rfl rfl rfl), Q_BB, Q_HB, Q_RB, Q_DD, Q_RS, Q_B4, fun h0_ => absurd ((hoff 5 (by kernel_rfl)).symm.trans h0_) (by decide), fun h0_ => absurd ((hoff 7 (by kernel_rfl)).symm.trans h0_) (by decide), Q_X4_, fun h0_ => absurd ((hoff 5 (by kernel_rfl)).symm.trans h0_) (by decide), fun h0_ => absurd ((hoff 6 (by kernel_rfl)).symm.trans h0_) (by decide)⟩
        refine steps_cons ?_ ?_
        · rintro b a w' ⟨A4, c4, A5, c5, m4_, m5_, m6_, ha, Q_BB, Q_HB, Q_RB, Q_DD, Q_RS, Q_B4, Q_S5, Q_FIN, Q_X4_, Q_X5_, Q_X6_⟩ hb_ hon hoff
          refine ⟨_, rfl, fun K hK => ?_⟩
          have e32 : a.tmps[32]? = some (.slice A6 n6 c6) := by rw [ha]; exact (putSel_off rfl).trans rfl
          replace ha := Aside0.mk ha
          have BB := Aside0.mk Q_BB
          have HB := Aside0.mk Q_HB
          have RB := Aside0.mk (Q_RB (hoff 7 (by kernel_rfl)))
          have DD := Aside0.mk Q_DD
          have RS := Aside0.mk (Q_RS hb_)
          refine goes_ Try.func10 (by kernel_rfl) rfl #[.slice A6 n6 c6] (by rfl) rfl rfl (by first | (simp only [List.map_toArray, List.map_cons, List.map_nil, Act.eval, Array.getD_eq_getD_getElem?, Option.getD_some, e32]; done) | (simp only [List.map_toArray, List.map_cons, List.map_nil, Act.eval, Array.getD_eq_getD_getElem?, Option.getD_some, e32]; rfl)) ?_
          refine (XO.out w' RS.out).mono ?_
          rintro e w1 ⟨A_, c_, rfl, g1, g2⟩
          refine ⟨_, rfl, ?_⟩
          refine hK.out _ _ ⟨A_, c_, A5, c5, (.slice A_ BL.length c_), m5_, m6_, (by rw [ha.out]; exact putSel_upk 1 hb_ rfl rfl rfl), bl_seq BB.out g2, blk_below HB.out g2, fun _ => blk_below RB.out g2, DD.out.below g2, fun h0_ => absurd ((up_self b 4).symm.trans h0_) (by decide), fun _ _ => g1.base (Nat.zero_le _), fun h0_ => absurd ((hoff 5 (by kernel_rfl)).symm.trans h0_) (by decide), fun h0_ => absurd ((hoff 7 (by kernel_rfl)).symm.trans h0_) (by decide), fun _ => rfl, fun h0_ => absurd ((hoff 5 (by kernel_rfl)).symm.trans h0_) (by decide), fun h0_ => absurd ((hoff 6 (by kernel_rfl)).symm.trans h0_) (by decide)⟩
        refine steps_cons ?_ ?_
        · rintro b a w' ⟨A4, c4, A5, c5, m4_, m5_, m6_, ha, Q_BB, Q_HB, Q_RB, Q_DD, Q_RS, Q_B4, Q_S5, Q_FIN, Q_X4_, Q_X5_, Q_X6_⟩ hb_ hon hoff
          refine ⟨_, rfl, fun K hK => ?_⟩
          have e30 : a.tmps[30]? = some (.agg #[.int .u8 h.k, .int .u32 h.e, .int .u32 h.b, .int .u16 h.i, .int .u16 h.c, .int .u32 h.l, .int .u32 h.m]) := by rw [ha]; exact putSel_on (e := (1, 30, .agg #[.int .u8 h.k, .int .u32 h.e, .int .u32 h.b, .int .u16 h.i, .int .u16 h.c, .int .u32 h.l, .int .u32 h.m])) 0 rfl rfl (hon 1 (by kernel_rfl)) rfl
          have e31 : a.tmps[31]? = some (.slice A9 DL.length c9) := by rw [ha]; exact (putSel_off rfl).trans rfl
          have e33 : a.tmps[33]? = some (m4_) := by rw [ha]; exact putSel_on (e := (4, 33, m4_)) 1 rfl rfl (hon 4 (by kernel_rfl)) rfl
          rw [Q_X4_ (hon 4 (by kernel_rfl))] at e33
          replace ha := Aside0.mk ha
          have BB := Aside0.mk Q_BB
          have HB := Aside0.mk Q_HB
          have RB := Aside0.mk (Q_RB (hoff 7 (by kernel_rfl)))
          have DD := Aside0.mk Q_DD
          have B4 := Aside0.mk (Q_B4 (hon 4 (by kernel_rfl)) hb_)
          refine goes_ Try.func25 (by kernel_rfl) rfl #[.agg #[.int .u8 h.k, .int .u32 h.e, .int .u32 h.b, .int .u16 h.i, .int .u16 h.c, .int .u32 h.l, .int .u32 h.m], .slice A9 DL.length c9, .slice A4 BL.length c4] (by rfl) rfl rfl (by first | (simp only [List.map_toArray, List.map_cons, List.map_nil, Act.eval, Array.getD_eq_getD_getElem?, Option.getD_some, e30, e31, e33]; done) | (simp only [List.map_toArray, List.map_cons, List.map_nil, Act.eval, Array.getD_eq_getD_getElem?, Option.getD_some, e30, e31, e33]; rfl)) ?_
          refine (SE.out w' A4 c4 DD.out B4.out).mono ?_
          rintro e w1 ⟨A_, c_, rfl, g1, g2⟩
          refine ⟨_, rfl, ?_⟩
          refine hK.out _ _ ⟨A4, c4, A_, c_, m4_, (.slice A_ 64 c_), m6_, (by rw [ha.out]; exact putSel_upk 2 hb_ rfl rfl rfl), bl_seq BB.out g2, blk_below HB.out g2, fun _ => blk_below RB.out g2, DD.out.below g2, fun h0_ => absurd ((hon 4 (by kernel_rfl)).symm.trans h0_) (by decide), fun _ h1_ => absurd ((up_self b 5).symm.trans h1_) (by decide), fun _ => g1.base (by have h_ := blk_lt RB.out; omega), fun h0_ => absurd ((hoff 7 (by kernel_rfl)).symm.trans h0_) (by decide), Q_X4_, fun _ => rfl, fun h0_ => absurd ((hoff 6 (by kernel_rfl)).symm.trans h0_) (by decide)⟩
        refine steps_cons ?_ ?_
        · rintro b a w' ⟨A4, c4, A5, c5, m4_, m5_, m6_, ha, Q_BB, Q_HB, Q_RB, Q_DD, Q_RS, Q_B4, Q_S5, Q_FIN, Q_X4_, Q_X5_, Q_X6_⟩ hb_ hon hoff
          refine ⟨_, rfl, fun K hK => ?_⟩
          have e29 : a.tmps[29]? = some (.slice A9 DL.length c9) := by rw [ha]; exact (putSel_off rfl).trans rfl
          have e34 : a.tmps[34]? = some (m5_) := by rw [ha]; exact putSel_on (e := (5, 34, m5_)) 2 rfl rfl (hon 5 (by kernel_rfl)) rfl
          rw [Q_X5_ (hon 5 (by kernel_rfl))] at e34
          replace ha := Aside0.mk ha
          have BB := Aside0.mk Q_BB
          have HB := Aside0.mk Q_HB
          have RB := Aside0.mk (Q_RB (hoff 7 (by kernel_rfl)))
          have DD := Aside0.mk Q_DD
          have S5 := Aside0.mk (Q_S5 (hon 5 (by kernel_rfl)))
          refine value_ (w1 := w') (v := .agg #[.slice A9 DL.length c9, .slice A5 64 c5]) (by rfl) rfl ?_ ?_
          · go_simp
            (try simp only [i64_w])
            try rfl
          refine hK.out _ _ ⟨A4, c4, A5, c5, m4_, m5_, (.agg #[.slice A9 DL.length c9, .slice A5 64 c5]), (by rw [ha.out]; exact putSel_upk 3 hb_ rfl rfl rfl), Q_BB, Q_HB, Q_RB, Q_DD, fun h0_ => absurd ((hon 4 (by kernel_rfl)).symm.trans h0_) (by decide), fun _ h1_ => absurd ((hon 5 (by kernel_rfl)).symm.trans h1_) (by decide), Q_S5, fun h0_ => absurd ((hoff 7 (by kernel_rfl)).symm.trans h0_) (by decide), Q_X4_, Q_X5_, fun _ => rfl⟩
        refine steps_cons ?_ ?_
        · rintro b a w' ⟨A4, c4, A5, c5, m4_, m5_, m6_, ha, Q_BB, Q_HB, Q_RB, Q_DD, Q_RS, Q_B4, Q_S5, Q_FIN, Q_X4_, Q_X5_, Q_X6_⟩ hb_ hon hoff
          refine ⟨_, rfl, fun K hK => ?_⟩
          have e4 : a.tmps[4]? = some (.pointer (some ⟨w.heap.size + 1, 0, none⟩)) := by rw [ha]; exact (putSel_off rfl).trans rfl
          have e35 : a.tmps[35]? = some (m6_) := by rw [ha]; exact putSel_on (e := (6, 35, m6_)) 3 rfl rfl (hon 6 (by kernel_rfl)) rfl
          rw [Q_X6_ (hon 6 (by kernel_rfl))] at e35
          replace ha := Aside0.mk ha
          have BB := Aside0.mk Q_BB
          have HB := Aside0.mk Q_HB
          have RB := Aside0.mk (Q_RB hb_)
          have DD := Aside0.mk Q_DD
          have S5 := Aside0.mk (Q_S5 (hon 5 (by kernel_rfl)))
          have zc0 : w'.cell? ⟨w.heap.size + 1, 0, none⟩ = some (.slice none 0 0) := (blk_cell RB.out 0).trans rfl
          have zc1 : w'.cell? ⟨w.heap.size + 1, 1, none⟩ = some (.slice none 0 0) := (blk_cell RB.out 1).trans rfl
          have zf0 := blk_frozen RB.out 0
          have zf1 := blk_frozen RB.out 1
          refine skip_ (w1 := (w'.setCell ⟨w.heap.size + 1, 0, none⟩ (.slice A9 DL.length c9)).setCell ⟨w.heap.size + 1, 1, none⟩ (.slice A5 64 c5)) (by rfl) rfl ?_ ?_
          · go_simp
            try rfl
          refine hK.out _ _ ⟨A4, c4, A5, c5, m4_, m5_, m6_, (by rw [ha.out]; exact putSel_none (v := undef) rfl), bl_set (bl_set BB.out (p := ⟨w.heap.size + 1, 0, none⟩) (by show w.heap.size ≤ w.heap.size + 1; omega) _) (p := ⟨w.heap.size + 1, 1, none⟩) (by show w.heap.size ≤ w.heap.size + 1; omega) _, blk_far (blk_far HB.out (p := ⟨w.heap.size + 1, 0, none⟩) (by show w.heap.size ≠ w.heap.size + 1; omega) _) (p := ⟨w.heap.size + 1, 1, none⟩) (by show w.heap.size ≠ w.heap.size + 1; omega) _, fun h0_ => absurd ((up_self b 7).symm.trans h0_) (by decide), ((DD.out.far (w.heap.size + 1) 0 _ (by omega)).far (w.heap.size + 1) 1 _ (by omega)), fun h0_ => absurd ((hon 4 (by kernel_rfl)).symm.trans h0_) (by decide), fun _ h1_ => absurd ((hon 5 (by kernel_rfl)).symm.trans h1_) (by decide), fun _ => ((S5.out.far (w.heap.size + 1) 0 _ (by omega)).far (w.heap.size + 1) 1 _ (by omega)), fun _ => blk_put (blk_put RB.out 0 (.slice A9 DL.length c9) (cs' := #[.slice A9 DL.length c9, .slice none 0 0]) (by simp)) 1 (.slice A5 64 c5) (by simp), Q_X4_, Q_X5_, Q_X6_⟩
        exact steps_nil
      · rintro b a w' hall ⟨A4, c4, A5, c5, m4_, m5_, m6_, ha, Q_BB, Q_HB, Q_RB, Q_DD, Q_RS, Q_B4, Q_S5, Q_FIN, Q_X4_, Q_X5_, Q_X6_⟩
        clear BB DD HB RB RS
        have hb1_ := hall 1 (by kernel_rfl)
        have hb4_ := hall 4 (by kernel_rfl)
        have hb5_ := hall 5 (by kernel_rfl)
        have hb6_ := hall 6 (by kernel_rfl)
        have hb7_ := hall 7 (by kernel_rfl)
        subst ha
        obtain rfl := Q_X4_ hb4_
        obtain rfl := Q_X5_ hb5_
        obtain rfl := Q_X6_ hb6_
        simp only [putSel, hb1_, hb4_, hb5_, hb6_, hb7_, if_true, Act.put, List.setIfInBounds_toArray, List.set_cons_zero, List.set_cons_succ]
        have BB := Aside0.mk Q_BB
        clear Q_BB
        have HB := Aside0.mk Q_HB
        clear Q_HB
        clear Q_RB
        have DD := Aside0.mk Q_DD
        clear Q_DD
        clear Q_RS
        clear Q_B4
        have S5 := Aside0.mk (Q_S5 hb5_)
        clear Q_S5
        have FIN := Aside0.mk (Q_FIN hb7_)
        clear Q_FIN
        clear hall hb1_ hb4_ hb5_ hb6_ hb7_
        have BF := Lib.hid BB.out
        have DF := Lib.hid DD.out
        have SF := Lib.hid S5.out
        have FF := Lib.hid FIN.out
        have cc0 : w'.cell? ⟨w.heap.size + 1, 0, none⟩ = some (.slice A9 DL.length c9) := (blk_cell FF.out 0).trans rfl
        have cc1 : w'.cell? ⟨w.heap.size + 1, 1, none⟩ = some (.slice A5 64 c5) := (blk_cell FF.out 1).trans rfl
        go_wp2_with fail
        refine bodyPost_ret (v := .agg #[.slice A9 DL.length c9, .slice A5 64 c5]) (by simp [results, Try.results15, go_sem, cc0, cc1]) rfl ⟨A9, c9, A5, c5, ?_, ?_, ?_, BF.out⟩
        · rw [HDL.out.1]
        · rw [HDL.out.1]; exact DF.out
        · rw [HDL.out.1, HDL.out.2]; exact SF.out
end Go.Proofs.Ytkbjndfmbimjiaa

/-! append(v, make([]byte, m)...): zeros behind a row of one's own. -/
set_option linter.unusedVariables false
set_option linter.unusedSimpArgs false
namespace Go.Proofs.Ytkbjndfmbimjiaa
open Go.RowKit Go.Proofs.YtkbjndfmbimjiaaW.PrintWords Go.Proofs.YtkbjndfmbimjiaaW.PrintLast
theorem zeroCells_one (z : Value) (n : Nat) : (Builtin.zeroCells #[z] n).toList = List.replicate n z := by
  apply List.ext_getElem
  · simp [Builtin.zeroCells]
  · intro i h1 h2
    simp [Builtin.zeroCells, Nat.mod_one]
theorem run_append_own_zeros {P : Program} (w : World) (base : Nat) (t tn ty e : TypeId) (i : TypeInfo) (k kn : IntKind) (ht : P.underlying t = some (.slice e)) (htn : P.underlying tn = some (.int kn)) (hi : P.info? e = some i) (hz : i.zero = some (.int k 0)) (hs : i.size = 1) (hb : i.bytes = 1)
    (v : Value) (xs : List Value) (hown : w.ownsRow base e 1 v xs.length xs) (m : Nat) (hm : 0 < m) (hl : xs.length + m ≤ 140737488355328) (hbase : base ≤ w.heap.size) :
    ∃ v' w', (Builtin.append_ #[t, tn] ty #[v, .int .i64 (m : Int)]).run P w = .ok v' w' ∧ w'.ownsRow base e 1 v' (xs.length + m) (xs ++ List.replicate m (.int k 0)) ∧ w.grownBy w' v.ownBlock := by
  have hw : IntKind.i64.wrap (m : Int) = m := by rw [IntKind.wrap_i64]; omega
  have hneg : ¬ ((m : Int) < 0) := by omega
  have h48i : ¬ (281474976710656 < (m : Int)) := by omega
  have hm0 : m ≠ 0 := by omega
  have hlen : (xs ++ List.replicate m (Value.int k 0)).length = (xs.length + m) * 1 := by simp
  have hzc : (Value.int k 0).cells = #[.int k 0] := rfl
  have grown : ∀ (old : Nat), old < xs.length + m → ∀ (row : Option Nat),
      (w.drew.alloc (.cells (xs.toArray ++ Builtin.zeroCells #[.int k 0] m ++ Builtin.zeroCells #[.int k 0] (grownCap w (xs.length + m) old e - (xs.length + m))) e)).ownsRow base e 1
        (.slice (some ⟨w.heap.size, 0, none⟩) (xs.length + m) (grownCap w (xs.length + m) old e)) (xs.length + m) (xs ++ List.replicate m (.int k 0)) ∧
      w.grownBy (w.drew.alloc (.cells (xs.toArray ++ Builtin.zeroCells #[.int k 0] m ++ Builtin.zeroCells #[.int k 0] (grownCap w (xs.length + m) old e - (xs.length + m))) e)) row := by
    intro old ho row
    have hge := grownCap_ge w (xs.length + m) old e
    have hcm : grownCap w (xs.length + m) old e ≤ maxLen := grownCap_le_maxLen w (xs.length + m) old e (by simp only [maxLen]; omega)
    refine ⟨⟨hlen, .inr ⟨w.heap.size, _, _, rfl, hbase, heap_alloc_new w.drew _, hge, hcm, ?_, ?_⟩⟩, ⟨rfl, rfl, rfl, by simp, fun j hj _ => Go.heap_alloc_old w.drew _ hj⟩⟩
    · simp only [Array.size_append, List.size_toArray, size_zeroCells, List.size_toArray, List.length_cons, List.length_nil]
      omega
    · simp only [Array.toList_append, zeroCells_one]
      rw [← hlen]
      exact List.take_left
  rcases hown.2 with ⟨rfl, hx0⟩ | ⟨g, cap, cur, rfl, hbg, hg, hnc, hcm, hcs, htake⟩
  · obtain rfl : xs = [] := List.eq_nil_of_length_eq_zero hx0
    have hgr := grown 0 (by simp; omega) (Value.ownBlock (.slice none 0 0))
    have h63' : ¬ (9223372036854775807 < (m : Int)) := by omega
    have h48' : ¬ (281474976710656 < Builtin.nextslicecap m 0) := by rw [nextslicecap_zero hm]; omega
    simp only [List.length_nil, Nat.zero_add, List.nil_append] at hgr ⊢
    refine ⟨_, _, ?_, hgr.1, hgr.2⟩
    simp [Builtin.append_, run_underlying ht, run_underlying htn, sizeOf, typeInfo, zeroValue, hi, hz, hs, hb, asInt, asIntOf, hw, hm0, hneg, h63', h48', h48i, Question.forced, run_firstCells_none, newRow, grownCap, hzc]
  · by_cases hroom : xs.length + m ≤ cap
    · have hst := run_storeCells_at P g xs.length e (List.replicate m (.int k 0)) 0 cur w hg (by simp; omega) (by intro u hu; rw [List.eq_of_mem_replicate hu]; rfl)
      simp only [Nat.add_zero] at hst
      refine ⟨_, w.setRow g (cur.toList.take xs.length ++ List.replicate m (Value.int k 0) ++ cur.toList.drop (xs.length + (List.replicate m (Value.int k 0)).length)).toArray, ?_, ⟨hlen, .inr ⟨g, cap, _, rfl, hbg, setRow_heap w g cur _ e _ hg, hroom, hcm, ?_, ?_⟩⟩, ⟨rfl, rfl, rfl, by simp, fun k _ hk => setRow_other w g k _ (fun e => hk (by simp [Value.ownBlock, e]))⟩⟩
      · simp [Builtin.append_, run_underlying ht, run_underlying htn, sizeOf, typeInfo, zeroValue, hi, hz, hs, hb, asInt, asIntOf, hw, hm0, hneg, h48i, hroom, hzc, zeroCells_one, Addr.add_lit, hst]
      · simp
        omega
      · rw [Nat.mul_one] at htake
        rw [htake, ← hlen]
        exact List.take_left
    · have hcap : cap < xs.length + m := by omega
      have hgr := grown cap hcap (Value.ownBlock (.slice (some ⟨g, 0, none⟩) xs.length cap))
      have h63' : ¬ (9223372036854775807 < ((xs.length : Int) + (m : Int))) := by omega
      have h48' : ¬ (281474976710656 < Builtin.nextslicecap (xs.length + m) cap) := by
        have h_ := growslice_fits (bytes := 1) hcap (by omega); omega
      have hfc := run_firstCells_some (P := P) w.drew 1 xs.length ⟨g, 0, none⟩ xs.length cap xs (by simp) (fun j u hu => by have h_ := hown.cells (g := g) rfl j u hu; exact h_)
      refine ⟨_, _, ?_, hgr.1, hgr.2⟩
      simp [Builtin.append_, run_underlying ht, run_underlying htn, sizeOf, typeInfo, zeroValue, hi, hz, hs, hb, asInt, asIntOf, hw, hm0, hneg, hroom, h63', h48', h48i, Question.forced, hfc, newRow, grownCap, hzc]
section
variable {P : Program} {ops : Array Oper} {rest : List Oper} {o : Oper} {a : Act} {Q : Exit → Act → World → Prop}
theorem print_append_zeros {w0 W : World} (base : Nat) (hgd : o.guard = none) (s x : Operand) (t tn e : TypeId) (k kn : IntKind)
    (ho : o.op = .call { callee := .builtin .append, args := #[s, x], argTypes := #[t, tn] })
    (ht : P.underlying t = some (.slice e)) (htn : P.underlying tn = some (.int kn)) (hinfo : (P.info? e).map (fun i => (i.zero, i.size, i.bytes)) = some (some (.int k 0), 1, 1))
    (v : Value) (xs : List Int) (m : Nat) (hm : 0 < m) (hs : a.eval s = v) (hx : a.eval x = .int .i64 (m : Int))
    (HO : W.ownsRow base e 1 v xs.length (nums k xs)) (HB : Below base w0 W) (hbase : base ≤ W.heap.size) (hl : xs.length + m ≤ 140737488355328)
    (h : ∀ v1 w1, w1.ownsRow base e 1 v1 (xs ++ List.replicate m 0).length (nums k (xs ++ List.replicate m 0)) → Below base w0 w1 → W.grownBy w1 v.ownBlock → wpList P ops Q rest (a.put o.dst v1) w1) :
    wpList P ops Q (o :: rest) a W := by
  obtain ⟨i0, hi, hzz⟩ := Option.map_eq_some_iff.1 hinfo
  simp only [Prod.mk.injEq] at hzz
  obtain ⟨hz0, hz1, hz2⟩ := hzz
  have hnl : (nums k xs).length = xs.length := by simp [nums]
  obtain ⟨v1, w1, hr, h2, h3⟩ := run_append_own_zeros (P := P) W base t tn o.type e i0 k kn ht htn hi hz0 hz1 hz2 v (nums k xs) (by rw [hnl]; exact HO) m hm (by rw [hnl]; exact hl) hbase
  refine wpList_plain hgd fun K hK => ?_
  unfold Oper.wp execOp
  simp only [ho, resolve, invoke, builtin, Sem.run_bind, Sem.run_pure, Result.andThen_ok, List.map_toArray, List.map_cons, List.map_nil, hs, hx, hr]
  refine hK _ _ (h v1 w1 ?_ (HB.grown h3 hbase (fun j hj => (World.ownsRow.lt HO j hj).1)) h3)
  have e1 : nums k (xs ++ List.replicate m 0) = nums k xs ++ List.replicate m (.int k 0) := by simp [nums]
  rw [e1]
  have e2 : (xs ++ List.replicate m (0 : Int)).length = (nums k xs).length + m := by simp [nums]
  rw [e2]
  exact h2
end
end Go.Proofs.Ytkbjndfmbimjiaa

/-! parity.Missing. -/
set_option linter.unusedVariables false
set_option linter.unusedSimpArgs false
namespace Go.Proofs.Ytkbjndfmbimjiaa
open Go.RowKit Go.Proofs.YtkbjndfmbimjiaaW.PrintWords Go.Proofs.YtkbjndfmbimjiaaW.PrintLast
def MissR.T4 : Bool × List (List Nat × List Nat) := (true, [([], []), ([0], [0]), ([1], [1]), ([], []), ([3], [3]), ([4], [4]), ([5], [5]), ([2, 0, 1, 2], [2]), ([6, 7, 0, 1, 2, 3, 4, 5, 6, 7], [6])])
def MissR.B4 : List Nat := [0, 1, 3, 0, 8, 24, 56, 7, 255]
theorem MissR.tab4 : rtab .any (opsOf Try.f18 4) = MissR.T4 := by kernel_rfl
theorem MissR.bits4 : waitsOk MissR.T4.2 MissR.B4 = true := by kernel_rfl
/-- What Missing answers. -/
def missX (wd : List Int) (ps : List Pg) : List Int := xorL (wd :: dataL ps)
def missY (wo : List Int) (ps : List Pg) : List Int := xorL (wo.drop 32 :: headL ps) ++ List.replicate 32 0
def missB (wd wo : List Int) (ps : List Pg) : Bool := openB wd wo && (decide ((openH wo).k = 5) && openB (missX wd ps) (missY wo ps))
def missD (wd wo : List Int) (ps : List Pg) : List Int := if missB wd wo ps then missX wd ps else []
def missO (wd wo : List Int) (ps : List Pg) : List Int := if missB wd wo ps then missY wo ps else []
def missE (wd wo : List Int) (ps : List Pg) : Int := if missB wd wo ps then 0 else 63
theorem miss_no {wd wo : List Int} {ps : List Pg} (h : missB wd wo ps = false) : missD wd wo ps = [] ∧ missO wd wo ps = [] ∧ missE wd wo ps = 63 := by
  simp [missD, missO, missE, h]
theorem miss_yes {wd wo : List Int} {ps : List Pg} (h : missB wd wo ps = true) : missD wd wo ps = missX wd ps ∧ missO wd wo ps = missY wo ps ∧ missE wd wo ps = 0 := by
  simp [missD, missO, missE, h]
theorem own_one_lit (W : World) (base : Nat) (x : Value) (e : TypeId) (hb : base ≤ W.heap.size) : (W.alloc (.cells #[x] e)).ownsRow base e 1 (.slice (some ⟨W.heap.size, 0, none⟩) 1 1) 1 [x] := by
  have h := World.ownsRow_lit (base := base) (e := e) (size := 1) W #[x] 1 hb (by simp [maxLen]) (by simp)
  simpa using h
theorem own_eqn {w : World} {base n c L sz : Nat} {e : TypeId} {xs : List Value} {A : Option Addr} (h : w.ownsRow base e sz (.slice A n c) L xs) : n = L := by
  rcases h.2 with ⟨h2, h3⟩ | ⟨g, cap, cur, h2, _⟩
  · injection h2 with _ h2 _; omega
  · injection h2 with _ h2 _
theorem open_len {data o : List Int} (h : openB data o = true) : o.length = 64 := by
  rw [openB] at h
  simp at h
  exact h.1
theorem rows_nil (w : World) : RowOk w ⟨none, 0, []⟩ := ⟨Nat.le_refl _, ⟨rfl, by simp, fun h => absurd h (by simp)⟩, fun x hx => by cases hx⟩
set_option maxHeartbeats 4000000 in
set_option maxRecDepth 100000 in
theorem Missing_any (wd wo : List Int) (ps : List Pg) (A B R : Option Addr) (n c m d q : Nat) (w : World) (hA : ReadsInt w .u8 A n wd) (hc : n ≤ c) (bA : Byt wd) (hB : ReadsInt w .u8 B m wo) (hd : m ≤ d) (bB : Byt wo) (hp : RdPages w R ps) (hm : mlen (wd :: dataL ps) ≤ 900000) (hps : ps.length ≤ 1000) :
    Calls Try.prog 18 #[.agg #[.slice A n c, .slice B m d], .slice R ps.length q] w fun e w' => ∃ A1 c1 A2 c2, e = .returned (.tuple #[.agg #[.slice A1 (missD wd wo ps).length c1, .slice A2 (missO wd wo ps).length c2], .int .i64 (missE wd wo ps)]) ∧ RowOk w' ⟨A1, c1, missD wd wo ps⟩ ∧ RowOk w' ⟨A2, c2, missO wd wo ps⟩ ∧ Below w.heap.size w w' := by
  have HA := Lib.hid hA
  have HB := Lib.hid hB
  have YA := Lib.hid bA
  have YB := Lib.hid bB
  have HR := Lib.hid hp
  have HM := Lib.hid hm
  have hlen := hp.1
  have hln := hA.2.1
  clear hA hB bA bB hp hm
  have hb0 : ((w.alloc (.cells #[.slice A n c, .slice B m d] 43)).alloc (.cells #[.slice none 0 0, .slice none 0 0] 43)).heap[w.heap.size]? = some (.cells #[.slice A n c, .slice B m d] 43 (0, 0)) := blk_alloc (heap_alloc_new _ _) _
  have rb0 : ((w.alloc (.cells #[.slice A n c, .slice B m d] 43)).alloc (.cells #[.slice none 0 0, .slice none 0 0] 43)).heap[w.heap.size + 1]? = some (.cells #[.slice none 0 0, .slice none 0 0] 43 (0, 0)) := by
    have h_ := heap_alloc_new (w.alloc (.cells #[.slice A n c, .slice B m d] 43)) (.cells #[.slice none 0 0, .slice none 0 0] 43)
    simp only [World.size_alloc] at h_
    exact h_
  have tb0 : Below w.heap.size w ((w.alloc (.cells #[.slice A n c, .slice B m d] 43)).alloc (.cells #[.slice none 0 0, .slice none 0 0] 43)) := bl_alloc (bl_alloc (Below.refl _ _) _) _
  have H0 := Lib.hid (And.intro hb0 (And.intro rb0 tb0))
  clear hb0 rb0 tb0
  go_enter Try.func18, Try.ntmps18
  obtain ⟨wE, hwE⟩ : ∃ wE, ((w.alloc (.cells #[.slice A n c, .slice B m d] 43)).alloc (.cells #[.slice none 0 0, .slice none 0 0] 43)) = wE := ⟨_, rfl⟩
  rw [hwE] at H0
  have c0 : wE.cell? ⟨w.heap.size, 0, none⟩ = some (.slice A n c) := (blk_cell H0.out.1 0).trans rfl
  have c1 : wE.cell? ⟨w.heap.size, 1, none⟩ = some (.slice B m d) := (blk_cell H0.out.1 1).trans rfl
  go_wp2_with fail
  try rw [hwE]
  clear c0 c1 hwE
  refine (open_any B A d n c m wo wd wE (HB.out.below H0.out.2.2) YB.out hd (HA.out.below H0.out.2.2) YA.out hc).mono ?_
  rintro e w1 ⟨hb1, rfl⟩
  have H1 := Lib.hid (And.intro (blk_below H0.out.1 hb1) (And.intro (blk_below H0.out.2.1 hb1) (bl_seq H0.out.2.2 hb1)))
  clear hb1
  cases hob : openB wd wo
  case false =>
    have hmb : missB wd wo ps = false := by rw [missB, hob]; rfl
    have hR : openR wd wo = hd0 := openR_no hob
    rw [hR]
    clear hR hob
    simp only [hdC, hd0]
    have HMB := Lib.hid hmb
    clear hmb
    have ZR := Lib.hid (blk_alloc (H1.out.2.1) (.cells #[.int .u8 0, .int .u32 0, .int .u32 0, .int .u16 0, .int .u16 0, .int .u32 0, .int .u32 0] 35))
    have ZB := Lib.hid (bl_alloc (H1.out.2.2) (.cells #[.int .u8 0, .int .u32 0, .int .u32 0, .int .u16 0, .int .u16 0, .int .u32 0, .int .u32 0] 35))
    have zc0 : (w1.alloc (.cells #[.int .u8 0, .int .u32 0, .int .u32 0, .int .u16 0, .int .u16 0, .int .u32 0, .int .u32 0] 35)).cell? ⟨w.heap.size + 1, 0, none⟩ = some (.slice none 0 0) := (blk_cell ZR.out 0).trans rfl
    have zc1 : (w1.alloc (.cells #[.int .u8 0, .int .u32 0, .int .u32 0, .int .u16 0, .int .u16 0, .int .u32 0, .int .u32 0] 35)).cell? ⟨w.heap.size + 1, 1, none⟩ = some (.slice none 0 0) := (blk_cell ZR.out 1).trans rfl
    have zf0 : (w1.alloc (.cells #[.int .u8 0, .int .u32 0, .int .u32 0, .int .u16 0, .int .u16 0, .int .u32 0, .int .u32 0] 35)).frozen? ⟨w.heap.size + 1, 0, none⟩ = false := blk_frozen ZR.out 0
    have zf1 : (w1.alloc (.cells #[.int .u8 0, .int .u32 0, .int .u32 0, .int .u16 0, .int .u16 0, .int .u32 0, .int .u32 0] 35)).frozen? ⟨w.heap.size + 1, 1, none⟩ = false := blk_frozen ZR.out 1
    go_wp2_with fail
    have hf := blk_put (blk_put ZR.out 0 (.slice none 0 0) (cs' := #[.slice none 0 0, .slice none 0 0]) (by simp)) 1 (.slice none 0 0) (cs' := #[.slice none 0 0, .slice none 0 0]) (by simp)
    have hbf := bl_set (bl_set ZB.out (p := ⟨w.heap.size + 1, 0, none⟩) (by simp) (.slice none 0 0)) (p := ⟨w.heap.size + 1, 1, none⟩) (by simp) (.slice none 0 0)
    obtain ⟨wz, hwz⟩ : ∃ wz, (((w1.alloc (.cells #[.int .u8 0, .int .u32 0, .int .u32 0, .int .u16 0, .int .u16 0, .int .u32 0, .int .u32 0] 35)).setCell ⟨w.heap.size + 1, 0, none⟩ (.slice none 0 0)).setCell ⟨w.heap.size + 1, 1, none⟩ (.slice none 0 0)) = wz := ⟨_, rfl⟩
    rw [hwz] at hf hbf ⊢
    have cc0 : wz.cell? ⟨w.heap.size + 1, 0, none⟩ = some (.slice none 0 0) := (blk_cell hf 0).trans rfl
    have cc1 : wz.cell? ⟨w.heap.size + 1, 1, none⟩ = some (.slice none 0 0) := (blk_cell hf 1).trans rfl
    refine bodyPost_ret (v := .tuple #[.agg #[.slice none 0 0, .slice none 0 0], .int .i64 63]) (by simp [results, Try.results18, go_sem, cc0, cc1]) rfl ?_
    obtain ⟨m1, m2, m3⟩ := miss_no HMB.out
    rw [m1, m2, m3]
    exact ⟨none, 0, none, 0, rfl, rows_nil _, rows_nil _, hbf⟩
  case true =>
    have hwl := open_len hob
    have hm64 : m = 64 := by have h_ := HB.out.1; omega
    subst hm64
    have hR : openR wd wo = openH wo := openR_yes hob
    rw [hR]
    clear hR
    by_cases hk : (openH wo).k = 5
    case neg =>
      have hmb : missB wd wo ps = false := by rw [missB, decide_eq_false hk]; simp
      have kf : ((openH wo).k != 5) = true := by simpa using hk
      generalize openH wo = HH at kf ⊢
      simp only [hdC]
      have HMB := Lib.hid hmb
      clear hmb hk hob hwl
      have ZR := Lib.hid (blk_alloc (H1.out.2.1) (.cells #[.int .u8 HH.k, .int .u32 HH.e, .int .u32 HH.b, .int .u16 HH.i, .int .u16 HH.c, .int .u32 HH.l, .int .u32 HH.m] 35))
      have ZB := Lib.hid (bl_alloc (H1.out.2.2) (.cells #[.int .u8 HH.k, .int .u32 HH.e, .int .u32 HH.b, .int .u16 HH.i, .int .u16 HH.c, .int .u32 HH.l, .int .u32 HH.m] 35))
      have zc0 : (w1.alloc (.cells #[.int .u8 HH.k, .int .u32 HH.e, .int .u32 HH.b, .int .u16 HH.i, .int .u16 HH.c, .int .u32 HH.l, .int .u32 HH.m] 35)).cell? ⟨w.heap.size + 1, 0, none⟩ = some (.slice none 0 0) := (blk_cell ZR.out 0).trans rfl
      have zc1 : (w1.alloc (.cells #[.int .u8 HH.k, .int .u32 HH.e, .int .u32 HH.b, .int .u16 HH.i, .int .u16 HH.c, .int .u32 HH.l, .int .u32 HH.m] 35)).cell? ⟨w.heap.size + 1, 1, none⟩ = some (.slice none 0 0) := (blk_cell ZR.out 1).trans rfl
      have zf0 : (w1.alloc (.cells #[.int .u8 HH.k, .int .u32 HH.e, .int .u32 HH.b, .int .u16 HH.i, .int .u16 HH.c, .int .u32 HH.l, .int .u32 HH.m] 35)).frozen? ⟨w.heap.size + 1, 0, none⟩ = false := blk_frozen ZR.out 0
      have zf1 : (w1.alloc (.cells #[.int .u8 HH.k, .int .u32 HH.e, .int .u32 HH.b, .int .u16 HH.i, .int .u16 HH.c, .int .u32 HH.l, .int .u32 HH.m] 35)).frozen? ⟨w.heap.size + 1, 1, none⟩ = false := blk_frozen ZR.out 1
      go_wp2_with fail
      have hf := blk_put (blk_put ZR.out 0 (.slice none 0 0) (cs' := #[.slice none 0 0, .slice none 0 0]) (by simp)) 1 (.slice none 0 0) (cs' := #[.slice none 0 0, .slice none 0 0]) (by simp)
      have hbf := bl_set (bl_set ZB.out (p := ⟨w.heap.size + 1, 0, none⟩) (by simp) (.slice none 0 0)) (p := ⟨w.heap.size + 1, 1, none⟩) (by simp) (.slice none 0 0)
      obtain ⟨wz, hwz⟩ : ∃ wz, (((w1.alloc (.cells #[.int .u8 HH.k, .int .u32 HH.e, .int .u32 HH.b, .int .u16 HH.i, .int .u16 HH.c, .int .u32 HH.l, .int .u32 HH.m] 35)).setCell ⟨w.heap.size + 1, 0, none⟩ (.slice none 0 0)).setCell ⟨w.heap.size + 1, 1, none⟩ (.slice none 0 0)) = wz := ⟨_, rfl⟩
      rw [hwz] at hf hbf ⊢
      have cc0 : wz.cell? ⟨w.heap.size + 1, 0, none⟩ = some (.slice none 0 0) := (blk_cell hf 0).trans rfl
      have cc1 : wz.cell? ⟨w.heap.size + 1, 1, none⟩ = some (.slice none 0 0) := (blk_cell hf 1).trans rfl
      refine bodyPost_ret (v := .tuple #[.agg #[.slice none 0 0, .slice none 0 0], .int .i64 63]) (by simp [results, Try.results18, go_sem, cc0, cc1]) rfl ?_
      obtain ⟨m1, m2, m3⟩ := miss_no HMB.out
      rw [m1, m2, m3]
      exact ⟨none, 0, none, 0, rfl, rows_nil _, rows_nil _, hbf⟩
    case pos =>
      have hmb : missB wd wo ps = openB (missX wd ps) (missY wo ps) := by rw [missB, hob, decide_eq_true hk]; rfl
      have kf : ((openH wo).k != 5) = false := by simp [hk]
      have HMB := Lib.hid hmb
      have HWL := Lib.hid hwl
      generalize openH wo = HH at kf ⊢
      simp only [hdC]
      clear hmb hk hob hwl
      obtain ⟨i5, hi5, hz5, hs5, hb5⟩ := info_parts (show (Try.prog.info? 5).map (fun i => (i.zero, i.size, i.bytes)) = some (some (.int .u8 0), 1, 1) from info5')
      obtain ⟨B32, hcut, hB32⟩ := print_cut (P := Try.prog) 24 5 .i64 Try.underlying24 hi5 hs5 B 64 d 32 (by omega)
      obtain ⟨d32, hd32⟩ : ∃ d32, d - 32 = d32 := ⟨_, rfl⟩
      rw [hd32] at hcut
      have hcut2 : ∀ W : World, (Instr.slice 24 (.slice B 64 d) (some (.int .i64 32)) none none).run Try.prog W = .ok (.slice B32 32 d32) W := hcut
      clear hcut
      have HCB := Lib.hid hB32
      clear hB32
      go_wp2_with fail
      have HBy0 := blk_alloc H1.out.1 (.cells #[.int .u8 HH.k, .int .u32 HH.e, .int .u32 HH.b, .int .u16 HH.i, .int .u16 HH.c, .int .u32 HH.l, .int .u32 HH.m] 35)
      have RBy0 := blk_alloc H1.out.2.1 (.cells #[.int .u8 HH.k, .int .u32 HH.e, .int .u32 HH.b, .int .u16 HH.i, .int .u16 HH.c, .int .u32 HH.l, .int .u32 HH.m] 35)
      have BBy0 := bl_alloc H1.out.2.2 (.cells #[.int .u8 HH.k, .int .u32 HH.e, .int .u32 HH.b, .int .u16 HH.i, .int .u16 HH.c, .int .u32 HH.l, .int .u32 HH.m] 35)
      obtain ⟨wy, hwy⟩ : ∃ wy, w1.alloc (.cells #[.int .u8 HH.k, .int .u32 HH.e, .int .u32 HH.b, .int .u16 HH.i, .int .u16 HH.c, .int .u32 HH.l, .int .u32 HH.m] 35) = wy := ⟨_, rfl⟩
      have hp0 : 0 < wy.heap.size := by rw [← hwy]; simp
      rw [hwy] at HBy0 RBy0 BBy0 ⊢
      have HBy := Lib.hid HBy0
      have RBy := Lib.hid RBy0
      have BBy := Lib.hid BBy0
      have BBp := Lib.hid hp0
      clear hwy HBy0 RBy0 BBy0 hp0 kf
      refine start_ (n := 9) (S := fun w' => True) (ds := []) #[false, false, false, false, false, false, false, false, false] (by kernel_rfl) rfl rfl trivial (fun hHeld => ?_)
      refine with_tabW MissR.tab4 MissR.bits4 (fun HT_ HW_ => ?_)
      have HBz := Lib.hid (show wy.drew.heap[w.heap.size]? = _ from HBy.out)
      have RBz := Lib.hid (show wy.drew.heap[w.heap.size + 1]? = _ from RBy.out)
      have BBz := Lib.hid (bl_drew BBy.out)
      have hz0_ : 0 < wy.drew.heap.size := (show 0 < wy.heap.size from BBp.out)
      generalize wy.drew = wz at HBz RBz BBz hz0_ hHeld ⊢
      have ZS := Lib.hid (show w.heap.size + 2 ≤ wz.heap.size by have h_ := blk_lt RBz.out; omega)
      have BB := Lib.hid (Below.refl wz.heap.size wz)
      have LA := Lib.hid hz0_
      have LB := Lib.hid hz0_
      refine inv_at [0, 1, 2, 3, 4, 5, 6, 7, 8] (fun a0_ b a w' => ∃ (b34 : Nat) (b38 : Nat) (m2_ : Value) (m6_ : Value) (m7_ : Value) (m8_ : Value), a = putSel a0_ b [(0, 32, .pointer (some ⟨w.heap.size, 0, none⟩)), (1, 33, .slice A n c), (2, 34, m2_), (3, 35, .pointer (some ⟨w.heap.size, 1, none⟩)), (4, 36, .slice B 64 d), (5, 37, .slice B32 32 d32), (6, 38, m6_), (7, 8, m7_), (8, 9, m8_)] ∧ (Below wz.heap.size wz w') ∧ (b34 < w'.heap.size) ∧ (b38 < w'.heap.size) ∧ (b 2 = true → w'.ownsRow wz.heap.size 24 1 (.slice (some ⟨b34, 0, none⟩) 1 1) 1 [.slice A n c]) ∧ (b 6 = true → w'.ownsRow wz.heap.size 24 1 (.slice (some ⟨b38, 0, none⟩) 1 1) 1 [.slice B32 32 d32]) ∧ (b 2 = true → b 6 = true → b34 ≠ b38) ∧ (b 2 = true → (m2_ : Value) = .slice (some ⟨b34, 0, none⟩) 1 1) ∧ (b 6 = true → (m6_ : Value) = .slice (some ⟨b38, 0, none⟩) 1 1) ∧ (b 7 = true → (m7_ : Value) = .slice (some ⟨b34, 0, none⟩) 1 1) ∧ (b 8 = true → (m8_ : Value) = .slice (some ⟨b38, 0, none⟩) 1 1)) HT_.out HW_.out (by kernel_rfl) (by kernel_rfl) ?_ ?_ ?_
      · exact ⟨0, 0, .bool false, .bool false, .bool false, .bool false, by simp only [putSel, Bool.false_eq_true, if_false], BB.out, LA.out, LB.out, fun h_ => absurd h_ (by decide), fun h_ => absurd h_ (by decide), fun h_ => absurd h_ (by decide), fun h_ => absurd h_ (by decide), fun h_ => absurd h_ (by decide), fun h_ => absurd h_ (by decide), fun h_ => absurd h_ (by decide)⟩
      · skip
        clear BB LA LB
        refine steps_cons ?_ ?_
        · rintro b a w' ⟨b34, b38, m2_, m6_, m7_, m8_, ha, Q_BB, Q_LA, Q_LB, Q_OA, Q_OB, Q_SEP, Q_X2_, Q_X6_, Q_X7_, Q_X8_⟩ hb_ hon hoff
          refine ⟨_, rfl, fun K hK => ?_⟩
          have e2 : a.tmps[2]? = some (.pointer (some ⟨w.heap.size, 0, none⟩)) := by rw [ha]; exact (putSel_off rfl).trans rfl
          replace ha := Aside0.mk ha
          have BB := Aside0.mk Q_BB
          have LA := Aside0.mk Q_LA
          have LB := Aside0.mk Q_LB
          refine value_ (w1 := w') (v := .pointer (some ⟨w.heap.size, 0, none⟩)) (by rfl) rfl ?_ ?_
          · go_simp
            (try simp only [i64_w])
            try rfl
          refine hK.out _ _ ⟨b34, b38, m2_, m6_, m7_, m8_, (by rw [ha.out]; exact putSel_upk 0 hb_ rfl rfl rfl), Q_BB, Q_LA, Q_LB, fun h0_ => absurd ((hoff 2 (by kernel_rfl)).symm.trans h0_) (by decide), Q_OB, fun h0_ _ => absurd ((hoff 2 (by kernel_rfl)).symm.trans h0_) (by decide), fun h0_ => absurd ((hoff 2 (by kernel_rfl)).symm.trans h0_) (by decide), Q_X6_, fun h0_ => absurd ((hoff 7 (by kernel_rfl)).symm.trans h0_) (by decide), fun h0_ => absurd ((hoff 8 (by kernel_rfl)).symm.trans h0_) (by decide)⟩
        refine steps_cons ?_ ?_
        · rintro b a w' ⟨b34, b38, m2_, m6_, m7_, m8_, ha, Q_BB, Q_LA, Q_LB, Q_OA, Q_OB, Q_SEP, Q_X2_, Q_X6_, Q_X7_, Q_X8_⟩ hb_ hon hoff
          refine ⟨_, rfl, fun K hK => ?_⟩
          have e32 : a.tmps[32]? = some (.pointer (some ⟨w.heap.size, 0, none⟩)) := by rw [ha]; exact putSel_on (e := (0, 32, .pointer (some ⟨w.heap.size, 0, none⟩))) 0 rfl rfl (hon 0 (by kernel_rfl)) rfl
          replace ha := Aside0.mk ha
          have BB := Aside0.mk Q_BB
          have LA := Aside0.mk Q_LA
          have LB := Aside0.mk Q_LB
          have hc0_ : w'.cell? ⟨w.heap.size, 0, none⟩ = some (.slice A n c) := (blk_cell (blk_below HBz.out BB.out) 0).trans rfl
          refine value_ (w1 := w') (v := .slice A n c) (by rfl) rfl ?_ ?_
          · go_simp
            (try simp only [i64_w])
            try rfl
          refine hK.out _ _ ⟨b34, b38, m2_, m6_, m7_, m8_, (by rw [ha.out]; exact putSel_upk 1 hb_ rfl rfl rfl), Q_BB, Q_LA, Q_LB, fun h0_ => absurd ((hoff 2 (by kernel_rfl)).symm.trans h0_) (by decide), Q_OB, fun h0_ _ => absurd ((hoff 2 (by kernel_rfl)).symm.trans h0_) (by decide), fun h0_ => absurd ((hoff 2 (by kernel_rfl)).symm.trans h0_) (by decide), Q_X6_, fun h0_ => absurd ((hoff 7 (by kernel_rfl)).symm.trans h0_) (by decide), fun h0_ => absurd ((hoff 8 (by kernel_rfl)).symm.trans h0_) (by decide)⟩
        refine steps_cons ?_ ?_
        · rintro b a w' ⟨b34, b38, m2_, m6_, m7_, m8_, ha, Q_BB, Q_LA, Q_LB, Q_OA, Q_OB, Q_SEP, Q_X2_, Q_X6_, Q_X7_, Q_X8_⟩ hb_ hon hoff
          refine ⟨_, rfl, fun K hK => ?_⟩
          have e33 : a.tmps[33]? = some (.slice A n c) := by rw [ha]; exact putSel_on (e := (1, 33, .slice A n c)) 1 rfl rfl (hon 1 (by kernel_rfl)) rfl
          replace ha := Aside0.mk ha
          have BB := Aside0.mk Q_BB
          have LA := Aside0.mk Q_LA
          have LB := Aside0.mk Q_LB
          refine value_ (w1 := w'.alloc (.cells #[.slice A n c] 24)) (v := .slice (some ⟨w'.heap.size, 0, none⟩) 1 1) (by rfl) rfl ?_ ?_
          · go_simp
            try rfl
          refine hK.out _ _ ⟨w'.heap.size, b38, (.slice (some ⟨w'.heap.size, 0, none⟩) 1 1), m6_, m7_, m8_, (by rw [ha.out]; exact putSel_upk 2 hb_ rfl rfl rfl), bl_alloc BB.out _, (by have h1_ := LA.out; have h2_ := LB.out; simp <;> omega), (by have h1_ := LA.out; have h2_ := LB.out; simp <;> omega), fun _ => own_one_lit w' wz.heap.size (.slice A n c) 24 BB.out.size, fun h0_ => (Q_OB h0_).alloc _, fun _ _ => (by have h2_ := LB.out; omega), fun _ => rfl, Q_X6_, fun h0_ => absurd ((hoff 7 (by kernel_rfl)).symm.trans h0_) (by decide), fun h0_ => absurd ((hoff 8 (by kernel_rfl)).symm.trans h0_) (by decide)⟩
        refine steps_cons ?_ ?_
        · rintro b a w' ⟨b34, b38, m2_, m6_, m7_, m8_, ha, Q_BB, Q_LA, Q_LB, Q_OA, Q_OB, Q_SEP, Q_X2_, Q_X6_, Q_X7_, Q_X8_⟩ hb_ hon hoff
          refine ⟨_, rfl, fun K hK => ?_⟩
          have e2 : a.tmps[2]? = some (.pointer (some ⟨w.heap.size, 0, none⟩)) := by rw [ha]; exact (putSel_off rfl).trans rfl
          replace ha := Aside0.mk ha
          have BB := Aside0.mk Q_BB
          have LA := Aside0.mk Q_LA
          have LB := Aside0.mk Q_LB
          refine value_ (w1 := w') (v := .pointer (some ⟨w.heap.size, 1, none⟩)) (by rfl) rfl ?_ ?_
          · go_simp
            (try simp only [i64_w])
            try rfl
          refine hK.out _ _ ⟨b34, b38, m2_, m6_, m7_, m8_, (by rw [ha.out]; exact putSel_upk 3 hb_ rfl rfl rfl), Q_BB, Q_LA, Q_LB, Q_OA, fun h0_ => absurd ((hoff 6 (by kernel_rfl)).symm.trans h0_) (by decide), fun _ h1_ => absurd ((hoff 6 (by kernel_rfl)).symm.trans h1_) (by decide), Q_X2_, fun h0_ => absurd ((hoff 6 (by kernel_rfl)).symm.trans h0_) (by decide), Q_X7_, fun h0_ => absurd ((hoff 8 (by kernel_rfl)).symm.trans h0_) (by decide)⟩
        refine steps_cons ?_ ?_
        · rintro b a w' ⟨b34, b38, m2_, m6_, m7_, m8_, ha, Q_BB, Q_LA, Q_LB, Q_OA, Q_OB, Q_SEP, Q_X2_, Q_X6_, Q_X7_, Q_X8_⟩ hb_ hon hoff
          refine ⟨_, rfl, fun K hK => ?_⟩
          have e35 : a.tmps[35]? = some (.pointer (some ⟨w.heap.size, 1, none⟩)) := by rw [ha]; exact putSel_on (e := (3, 35, .pointer (some ⟨w.heap.size, 1, none⟩))) 3 rfl rfl (hon 3 (by kernel_rfl)) rfl
          replace ha := Aside0.mk ha
          have BB := Aside0.mk Q_BB
          have LA := Aside0.mk Q_LA
          have LB := Aside0.mk Q_LB
          have hc1_ : w'.cell? ⟨w.heap.size, 1, none⟩ = some (.slice B 64 d) := (blk_cell (blk_below HBz.out BB.out) 1).trans rfl
          refine value_ (w1 := w') (v := .slice B 64 d) (by rfl) rfl ?_ ?_
          · go_simp
            (try simp only [i64_w])
            try rfl
          refine hK.out _ _ ⟨b34, b38, m2_, m6_, m7_, m8_, (by rw [ha.out]; exact putSel_upk 4 hb_ rfl rfl rfl), Q_BB, Q_LA, Q_LB, Q_OA, fun h0_ => absurd ((hoff 6 (by kernel_rfl)).symm.trans h0_) (by decide), fun _ h1_ => absurd ((hoff 6 (by kernel_rfl)).symm.trans h1_) (by decide), Q_X2_, fun h0_ => absurd ((hoff 6 (by kernel_rfl)).symm.trans h0_) (by decide), Q_X7_, fun h0_ => absurd ((hoff 8 (by kernel_rfl)).symm.trans h0_) (by decide)⟩
        refine steps_cons ?_ ?_
        · rintro b a w' ⟨b34, b38, m2_, m6_, m7_, m8_, ha, Q_BB, Q_LA, Q_LB, Q_OA, Q_OB, Q_SEP, Q_X2_, Q_X6_, Q_X7_, Q_X8_⟩ hb_ hon hoff
          refine ⟨_, rfl, fun K hK => ?_⟩
          have e36 : a.tmps[36]? = some (.slice B 64 d) := by rw [ha]; exact putSel_on (e := (4, 36, .slice B 64 d)) 4 rfl rfl (hon 4 (by kernel_rfl)) rfl
          replace ha := Aside0.mk ha
          have BB := Aside0.mk Q_BB
          have LA := Aside0.mk Q_LA
          have LB := Aside0.mk Q_LB
          refine value_ (w1 := w') (v := .slice B32 32 d32) (by rfl) rfl ?_ ?_
          · go_simp
            (try simp only [i64_w])
            try rfl
          refine hK.out _ _ ⟨b34, b38, m2_, m6_, m7_, m8_, (by rw [ha.out]; exact putSel_upk 5 hb_ rfl rfl rfl), Q_BB, Q_LA, Q_LB, Q_OA, fun h0_ => absurd ((hoff 6 (by kernel_rfl)).symm.trans h0_) (by decide), fun _ h1_ => absurd ((hoff 6 (by kernel_rfl)).symm.trans h1_) (by decide), Q_X2_, fun h0_ => absurd ((hoff 6 (by kernel_rfl)).symm.trans h0_) (by decide), Q_X7_, fun h0_ => absurd ((hoff 8 (by kernel_rfl)).symm.trans h0_) (by decide)⟩
        refine steps_cons ?_ ?_
        · rintro b a w' ⟨b34, b38, m2_, m6_, m7_, m8_, ha, Q_BB, Q_LA, Q_LB, Q_OA, Q_OB, Q_SEP, Q_X2_, Q_X6_, Q_X7_, Q_X8_⟩ hb_ hon hoff
          refine ⟨_, rfl, fun K hK => ?_⟩
          have e37 : a.tmps[37]? = some (.slice B32 32 d32) := by rw [ha]; exact putSel_on (e := (5, 37, .slice B32 32 d32)) 5 rfl rfl (hon 5 (by kernel_rfl)) rfl
          replace ha := Aside0.mk ha
          have BB := Aside0.mk Q_BB
          have LA := Aside0.mk Q_LA
          have LB := Aside0.mk Q_LB
          refine value_ (w1 := w'.alloc (.cells #[.slice B32 32 d32] 24)) (v := .slice (some ⟨w'.heap.size, 0, none⟩) 1 1) (by rfl) rfl ?_ ?_
          · go_simp
            try rfl
          refine hK.out _ _ ⟨b34, w'.heap.size, m2_, (.slice (some ⟨w'.heap.size, 0, none⟩) 1 1), m7_, m8_, (by rw [ha.out]; exact putSel_upk 6 hb_ rfl rfl rfl), bl_alloc BB.out _, (by have h1_ := LA.out; have h2_ := LB.out; simp <;> omega), (by have h1_ := LA.out; have h2_ := LB.out; simp <;> omega), fun h0_ => (Q_OA h0_).alloc _, fun _ => own_one_lit w' wz.heap.size (.slice B32 32 d32) 24 BB.out.size, fun _ _ => (by have h1_ := LA.out; omega), Q_X2_, fun _ => rfl, Q_X7_, fun h0_ => absurd ((hoff 8 (by kernel_rfl)).symm.trans h0_) (by decide)⟩
        refine steps_cons ?_ ?_
        · rintro b a w' ⟨b34, b38, m2_, m6_, m7_, m8_, ha, Q_BB, Q_LA, Q_LB, Q_OA, Q_OB, Q_SEP, Q_X2_, Q_X6_, Q_X7_, Q_X8_⟩ hb_ hon hoff
          refine ⟨_, rfl, fun K hK => ?_⟩
          have e34 : a.tmps[34]? = some (m2_) := by rw [ha]; exact putSel_on (e := (2, 34, m2_)) 2 rfl rfl (hon 2 (by kernel_rfl)) rfl
          rw [Q_X2_ (hon 2 (by kernel_rfl))] at e34
          replace ha := Aside0.mk ha
          have BB := Aside0.mk Q_BB
          have LA := Aside0.mk Q_LA
          have LB := Aside0.mk Q_LB
          have OA := Aside0.mk (Q_OA (hon 2 (by kernel_rfl)))
          refine value_ (w1 := w') (v := .slice (some ⟨b34, 0, none⟩) 1 1) (by rfl) rfl ?_ ?_
          · go_simp
            (try simp only [i64_w])
            try rfl
          refine hK.out _ _ ⟨b34, b38, m2_, m6_, (.slice (some ⟨b34, 0, none⟩) 1 1), m8_, (by rw [ha.out]; exact putSel_upk 7 hb_ rfl rfl rfl), Q_BB, Q_LA, Q_LB, Q_OA, Q_OB, Q_SEP, Q_X2_, Q_X6_, fun _ => rfl, fun h0_ => absurd ((hoff 8 (by kernel_rfl)).symm.trans h0_) (by decide)⟩
        refine steps_cons ?_ ?_
        · rintro b a w' ⟨b34, b38, m2_, m6_, m7_, m8_, ha, Q_BB, Q_LA, Q_LB, Q_OA, Q_OB, Q_SEP, Q_X2_, Q_X6_, Q_X7_, Q_X8_⟩ hb_ hon hoff
          refine ⟨_, rfl, fun K hK => ?_⟩
          have e38 : a.tmps[38]? = some (m6_) := by rw [ha]; exact putSel_on (e := (6, 38, m6_)) 6 rfl rfl (hon 6 (by kernel_rfl)) rfl
          rw [Q_X6_ (hon 6 (by kernel_rfl))] at e38
          replace ha := Aside0.mk ha
          have BB := Aside0.mk Q_BB
          have LA := Aside0.mk Q_LA
          have LB := Aside0.mk Q_LB
          have OA := Aside0.mk (Q_OA (hon 2 (by kernel_rfl)))
          have OB := Aside0.mk (Q_OB (hon 6 (by kernel_rfl)))
          have SEP := Aside0.mk (Q_SEP (hon 2 (by kernel_rfl)) (hon 6 (by kernel_rfl)))
          refine value_ (w1 := w') (v := .slice (some ⟨b38, 0, none⟩) 1 1) (by rfl) rfl ?_ ?_
          · go_simp
            (try simp only [i64_w])
            try rfl
          refine hK.out _ _ ⟨b34, b38, m2_, m6_, m7_, (.slice (some ⟨b38, 0, none⟩) 1 1), (by rw [ha.out]; exact putSel_upk 8 hb_ rfl rfl rfl), Q_BB, Q_LA, Q_LB, Q_OA, Q_OB, Q_SEP, Q_X2_, Q_X6_, Q_X7_, fun _ => rfl⟩
        exact steps_nil
      · rintro b a w' hall ⟨b34, b38, m2_, m6_, m7_, m8_, ha, Q_BB, Q_LA, Q_LB, Q_OA, Q_OB, Q_SEP, Q_X2_, Q_X6_, Q_X7_, Q_X8_⟩
        clear BB LA LB
        have hb0_ := hall 0 (by kernel_rfl)
        have hb1_ := hall 1 (by kernel_rfl)
        have hb2_ := hall 2 (by kernel_rfl)
        have hb3_ := hall 3 (by kernel_rfl)
        have hb4_ := hall 4 (by kernel_rfl)
        have hb5_ := hall 5 (by kernel_rfl)
        have hb6_ := hall 6 (by kernel_rfl)
        have hb7_ := hall 7 (by kernel_rfl)
        have hb8_ := hall 8 (by kernel_rfl)
        subst ha
        obtain rfl := Q_X2_ hb2_
        obtain rfl := Q_X6_ hb6_
        obtain rfl := Q_X7_ hb7_
        obtain rfl := Q_X8_ hb8_
        simp only [putSel, hb0_, hb1_, hb2_, hb3_, hb4_, hb5_, hb6_, hb7_, hb8_, if_true, Act.put, List.setIfInBounds_toArray, List.set_cons_zero, List.set_cons_succ]
        have BB := Aside0.mk Q_BB
        clear Q_BB
        have LA := Aside0.mk Q_LA
        clear Q_LA
        have LB := Aside0.mk Q_LB
        clear Q_LB
        have OA := Aside0.mk (Q_OA hb2_)
        clear Q_OA
        have OB := Aside0.mk (Q_OB hb6_)
        clear Q_OB
        have SEP := Aside0.mk (Q_SEP hb2_ hb6_)
        clear Q_SEP
        clear hall hb0_ hb1_ hb2_ hb3_ hb4_ hb5_ hb6_ hb7_ hb8_
        have rAe : encs encR [(⟨A, c, wd⟩ : Row)] = [.slice A n c] := by have h_ := HA.out.1; simp [encs, encR, h_]
        have rBe : encs encR [(⟨B32, d32, wo.drop 32⟩ : Row)] = [.slice B32 32 d32] := by have h_ := HWL.out; simp [encs, encR, h_]
        obtain ⟨rA, hrA⟩ : ∃ rA : Row, rA = ⟨A, c, wd⟩ := ⟨_, rfl⟩
        obtain ⟨rB, hrB⟩ : ∃ rB : Row, rB = ⟨B32, d32, wo.drop 32⟩ := ⟨_, rfl⟩
        rw [← hrA] at rAe
        rw [← hrB] at rBe
        have HRR := Lib.hid (And.intro hrA hrB)
        have OA0 : Hid (w'.ownsRow wz.heap.size 24 1 (.slice (some ⟨b34, 0, none⟩) 1 1) ([rA]).length (encs encR [rA])) := Lib.hid (by rw [rAe]; exact OA.out)
        have OB0 : Hid (w'.ownsRow wz.heap.size 24 1 (.slice (some ⟨b38, 0, none⟩) 1 1) ([rB]).length (encs encR [rB])) := Lib.hid (by rw [rBe]; exact OB.out)
        have SEP0 : Hid ((Value.slice (some ⟨b34, 0, none⟩) 1 1).ownBlock = none ∨ (Value.slice (some ⟨b34, 0, none⟩) 1 1).ownBlock ≠ (Value.slice (some ⟨b38, 0, none⟩) 1 1).ownBlock) := Lib.hid (.inr (by have h_ := SEP.out; simpa [Value.ownBlock] using h_))
        have BB0 : Hid (Below wz.heap.size wz w') := Lib.hid BB.out
        clear OA OB SEP BB LA LB hrA hrB rAe rBe
        go_wp2_with fail
        go_loopw [8, 9, 41] (fun a b i wr => ∃ k : Nat, k ≤ ps.length ∧ i = .int .i64 (k : Int) ∧ Hid (wr.ownsRow wz.heap.size 24 1 a (rA :: (ps.take k).map (·.d)).length (encs encR (rA :: (ps.take k).map (·.d)))) ∧ Hid (wr.ownsRow wz.heap.size 24 1 b (rB :: (ps.take k).map (fun p => headR p.o)).length (encs encR (rB :: (ps.take k).map (fun p => headR p.o)))) ∧ Hid (a.ownBlock = none ∨ a.ownBlock ≠ b.ownBlock) ∧ Hid (Below wz.heap.size wz wr)) (fun _ _ i _ => ps.length - (intOf i).toNat)
        case atStart => exact ⟨0, Nat.zero_le _, rfl, OA0, OB0, SEP0, BB0⟩
        case round =>
          obtain ⟨k, hk, rfl, HA_, HB_, HN, HT⟩ := hrel
          clear OA0 OB0 SEP0 BB0
          by_cases hlt : k < ps.length
          · obtain ⟨ad, he, hc1, hc2, hr1, hr2⟩ := (HR.out.below (bl_seq BBz.out HT.out)).2 k hlt
            subst he
            have hs1 : rA :: (ps.take (k + 1)).map (·.d) = (rA :: (ps.take k).map (·.d)) ++ [(ps.getD k default).d] := by
              rw [List.take_succ_eq_append_getElem hlt, List.map_append, List.getD_eq_getElem?_getD, List.getElem?_eq_getElem hlt]; rfl
            have hs2 : rB :: (ps.take (k + 1)).map (fun p => headR p.o) = (rB :: (ps.take k).map (fun p => headR p.o)) ++ [headR (ps.getD k default).o] := by
              rw [List.take_succ_eq_append_getElem hlt, List.map_append, List.getD_eq_getElem?_getD, List.getElem?_eq_getElem hlt]; rfl
            obtain ⟨p0, hp0⟩ : ∃ p0, ps.getD k default = p0 := ⟨_, rfl⟩
            rw [hp0] at hc1 hc2 hr1 hr2 hs1 hs2
            have HS := Lib.hid (And.intro hs1 (And.intro hs2 (And.intro hr1 hr2)))
            simp only [encR] at hc1 hc2
            have hki : ((k : Int) * 2).toNat = k * 2 := by omega
            obtain ⟨LA, hLA⟩ : ∃ LA, rA :: (ps.take k).map (·.d) = LA := ⟨_, rfl⟩
            obtain ⟨LB, hLB⟩ : ∃ LB, rB :: (ps.take k).map (fun p => headR p.o) = LB := ⟨_, rfl⟩
            have hl1 : LA.length = k + 1 := by rw [← hLA]; simp; omega
            have hl2 : LB.length = k + 1 := by rw [← hLB]; simp; omega
            rw [hLA] at HA_
            rw [hLB] at HB_
            have HL := Lib.hid (And.intro hl1 (And.intro hl2 (And.intro hLA hLB)))
            clear hs1 hs2 hr1 hr2 hp0 hl1 hl2 hLA hLB
            obtain ⟨Aa, na, ca, rfl⟩ := own_slice' HA_.out
            obtain ⟨Ab, nb, cb, rfl⟩ := own_slice' HB_.out
            go_wp2_with (at_builtin; refine print_append_of (w0 := wz) encR wz.heap.size rfl (.tmp 45) (.tmp 48) 22 24 (.slice none 0 0) 24 rfl Try.underlying22 infoR rfl (by decide) _ LA (p0.d) rfl (by first | rfl | (simp [Act.eval]; done) | (simp only [World.size_alloc]; rfl)) rfl ?aO ?aB ?aS ?aL ?_; (case aO => exact HA_.out.alloc _); (case aB => exact HT.out.trans (bl_alloc (Below.refl _ _) _ |>.mono HT.out.size)); (case aS => exact (HT.out.trans (bl_alloc (Below.refl _ _) _ |>.mono HT.out.size)).size); (case aL => have h_ := HL.out.1; omega); intro v9 w9 ho hb hg hat; have hpb := blk_grown (heap_alloc_new wr (.cells #[.slice p0.d.A p0.d.l.length p0.d.c, .slice p0.o.A p0.o.l.length p0.o.c] 43)) hg (fun e => by have h_ := (HA_.out.lt _ e.symm).2; omega); have y0 : w9.cell? ⟨wr.heap.size, 0, none⟩ = some (.slice p0.d.A p0.d.l.length p0.d.c) := (blk_cell hpb 0).trans rfl; have y1 : w9.cell? ⟨wr.heap.size, 1, none⟩ = some (.slice p0.o.A p0.o.l.length p0.o.c) := (blk_cell hpb 1).trans rfl; have O9 := Lib.hid (And.intro ho (And.intro hb (And.intro hg hat))); clear ho hb hg hat hpb)
            refine (head_any p0.d p0.o w9 HS.out.2.2.2.1 HS.out.2.2.2.2.1.2.1).mono ?_
            rintro e w10 ⟨he10, hb10⟩
            rw [show encR (headR p0.o) = .slice (headR p0.o).A (headR p0.o).l.length (headR p0.o).c from rfl] at he10
            subst he10
            have ha10 : w10.ownsRow wz.heap.size 24 1 v9 (LA ++ [p0.d]).length (encs encR (LA ++ [p0.d])) := own_move O9.out.1 fun j hj => hb10.block j (O9.out.1.lt j hj).2
            have hb9 : w9.ownsRow wz.heap.size 24 1 (.slice Ab nb cb) LB.length (encs encR LB) := own_other (HB_.out.alloc _) O9.out.2.2.1 (sep_symm HN.out)
            have hb10_ : w10.ownsRow wz.heap.size 24 1 (.slice Ab nb cb) LB.length (encs encR LB) := own_move hb9 fun j hj => hb10.block j (hb9.lt j hj).2
            have hn10 := sep_grown HN.out O9.out.2.2.2 (fun j hj => by have h_ := (HB_.out.lt j hj).2; simp; omega)
            have HA10 := Lib.hid ha10
            have HB10 := Lib.hid hb10_
            have HN10 := Lib.hid hn10
            have HT10 := Lib.hid (O9.out.2.1.trans (hb10.mono O9.out.2.1.size))
            clear ha10 hb9 hb10_ hn10 hb10 HA_ HB_ HN HT y0 y1 O9
            go_wp2_with (at_builtin; refine print_append_of (w0 := wz) encR wz.heap.size rfl (.tmp 50) (.tmp 53) 22 24 (.slice none 0 0) 24 rfl Try.underlying22 infoR rfl (by decide) _ LB (headR p0.o) rfl (by first | rfl | (simp [Act.eval]; done) | (simp only [World.size_alloc]; rfl)) rfl ?aO ?aB ?aS ?aL ?_; (case aO => exact HB10.out); (case aB => exact HT10.out); (case aS => exact HT10.out.size); (case aL => have h_ := HL.out.2.1; omega); intro v11 w11 ho hb hg hat; have O11 := Lib.hid (And.intro ho (And.intro hb (And.intro hg hat))); clear ho hb hg hat)
            go_roundw
            case rel =>
              refine ⟨k + 1, by omega, by go_num, ?_, ?_, ?_, Lib.hid O11.out.2.1⟩
              · rw [HS.out.1, HL.out.2.2.1]; exact Lib.hid (own_other HA10.out O11.out.2.2.1 HN10.out)
              · rw [HS.out.2.1, HL.out.2.2.2]; exact Lib.hid O11.out.1
              · exact Lib.hid (sep_symm (sep_grown (sep_symm HN10.out) O11.out.2.2.2 (fun j hj => (HA10.out.lt j hj).2)))
            case measure => simp [intOf]; omega
          · have hk2 : ps.take k = ps := List.take_of_length_le (by omega)
            rw [hk2] at HA_ HB_
            clear hk2
            obtain ⟨LA, hLA⟩ : ∃ LA, rA :: ps.map (·.d) = LA := ⟨_, rfl⟩
            obtain ⟨LB, hLB⟩ : ∃ LB, rB :: ps.map (fun p => headR p.o) = LB := ⟨_, rfl⟩
            have hll : ll LA = wd :: dataL ps := by rw [← hLA, HRR.out.1]; simp [ll, dataL]
            have hll2 : ll LB = wo.drop 32 :: headL ps := by rw [← hLB, HRR.out.2]; simp [ll, headL, headR]
            have hoks : ∀ W, Below w.heap.size w W → (∀ r ∈ LA, RowOk W r) ∧ (∀ r ∈ LB, RowOk W r) := by
              intro W hW
              have hpg : ∀ p ∈ ps, RowOk W p.d ∧ RowOk W p.o := fun p hp => by
                obtain ⟨i, hi, rfl⟩ := List.getElem_of_mem hp
                obtain ⟨_, _, _, _, h1, h2⟩ := (HR.out.below hW).2 i hi
                rw [List.getD_eq_getElem?_getD, List.getElem?_eq_getElem hi] at h1 h2
                exact ⟨h1, h2⟩
              refine ⟨fun r hr => ?_, fun r hr => ?_⟩
              · rw [← hLA] at hr
                rcases List.mem_cons.1 hr with rfl | hr
                · rw [HRR.out.1]
                  have h_ := HA.out.below hW
                  refine ⟨by rw [show (Row.l ⟨A, c, wd⟩) = wd from rfl, h_.1]; exact hc, ?_, YA.out⟩
                  show ReadsInt W .u8 A wd.length wd
                  rw [h_.1]; exact h_
                · obtain ⟨p, hp, rfl⟩ := List.mem_map.1 hr
                  exact (hpg p hp).1
              · rw [← hLB] at hr
                rcases List.mem_cons.1 hr with rfl | hr
                · rw [HRR.out.2]
                  have h_ := HCB.out W .u8 wo hd (HB.out.below hW)
                  refine ⟨?_, ?_, fun x hx => YB.out x (List.drop_subset _ _ hx)⟩
                  · show (wo.drop 32).length ≤ d32
                    rw [h_.1]; omega
                  · show ReadsInt W .u8 B32 (wo.drop 32).length (wo.drop 32)
                    rw [h_.1]; exact h_
                · obtain ⟨p, hp, rfl⟩ := List.mem_map.1 hr
                  exact headR_ok (hpg p hp).2
            rw [hLA] at HA_
            rw [hLB] at HB_
            have OKS := Lib.hid hoks
            clear hoks hLA hLB
            obtain ⟨Aa, na, ca, rfl⟩ := own_slice' HA_.out
            obtain ⟨Ab, nb, cb, rfl⟩ := own_slice' HB_.out
            have hna := own_n HA_.out rfl
            have hnb := own_n HB_.out rfl
            subst hna hnb
            go_wp2_with fail
            have hxr := RdRows.of (reads_k HA_.out rfl) (OKS.out wr (bl_seq BBz.out HT.out)).1
            have hx1 := Xor_any LA Aa ca wr hxr (by rw [hll]; have h_ := HM.out; omega)
            rw [hll] at hx1
            refine hx1.mono ?_
            rintro e w12 ⟨v12, rfl, hn12⟩
            obtain ⟨A9, c9, rfl, hc9⟩ := hn12.shape _ rfl
            have hrs : RdRows w12 Ab LB := (RdRows.of (reads_k HB_.out rfl) (OKS.out wr (bl_seq BBz.out HT.out)).2).below hn12.bel
            have hby1 : ∀ l ∈ ll LA, Byt l := fun l hl => by
              simp only [ll, List.mem_map] at hl
              obtain ⟨r, hr, rfl⟩ := hl
              exact ((OKS.out wr (bl_seq BBz.out HT.out)).1 r hr).2.2
            have hby2 : ∀ l ∈ ll LB, Byt l := fun l hl => by
              simp only [ll, List.mem_map] at hl
              obtain ⟨r, hr, rfl⟩ := hl
              exact ((OKS.out wr (bl_seq BBz.out HT.out)).2 r hr).2.2
            have hm32 : mlen (ll LB) ≤ 32 := mlen_bound fun l hl => by
              rw [hll2] at hl
              rcases List.mem_cons.1 hl with rfl | hl
              · rw [List.length_drop, HWL.out]; omega
              · simp only [headL, List.mem_map] at hl
                obtain ⟨p, hp, rfl⟩ := hl
                rw [List.length_take]; omega
            have hbd : Byt (missX wd ps) := by rw [missX, ← hll]; exact xorL_byt hby1
            have hbl : Byt (missY wo ps) := by
              rw [missY, ← hll2]
              intro x hx
              rcases List.mem_append.1 hx with hx | hx
              · exact xorL_byt hby2 x hx
              · obtain ⟨_, rfl⟩ := List.mem_replicate.1 hx; omega
            have hlB : (xorL (wo.drop 32 :: headL ps)).length ≤ 32 := by rw [xorL_length, ← hll2]; exact hm32
            have DD0 : OwnN w12 (w.heap.size + 2) A9 (missX wd ps).length c9 (missX wd ps) := (show OwnN w12 wr.heap.size A9 _ c9 _ from hn12.own rfl).base (by have h1_ := HT.out.size; have h2_ := ZS.out; omega)
            have T12 := Lib.hid (bl_seq (bl_seq BBz.out HT.out) hn12.bel)
            have R12 := Lib.hid (blk_below (blk_below RBz.out HT.out) hn12.bel)
            have D12 := Lib.hid DD0
            have S12 := Lib.hid hrs
            have HS12 := Lib.hid (show w.heap.size + 2 ≤ w12.heap.size by have h1_ := HT.out.size; have h2_ := ZS.out; have h3_ := hn12.bel.size; omega)
            have HBY := Lib.hid (And.intro hbd (And.intro hbl (And.intro hlB (And.intro hm32 hll2))))
            have hxe : xorL (wd :: dataL ps) = missX wd ps := rfl
            rw [hxe]
            obtain ⟨DL, hDL⟩ : ∃ DL, missX wd ps = DL := ⟨_, rfl⟩
            have HDL := Lib.hid hDL
            rw [hDL] at D12 ⊢
            clear DD0 hrs hxr hll hll2 hx1 hn12 hby1 hby2 hm32 hbd hbl hlB hxe hDL HA_ HN
            go_wp2_with fail
            have hx2 := Xor_any LB Ab cb w12 S12.out (by have h_ := HBY.out.2.2.2.1; omega)
            rw [HBY.out.2.2.2.2] at hx2
            refine hx2.mono ?_
            rintro e w13 ⟨v13, rfl, hn13⟩
            obtain ⟨A13, c13, rfl, hc13⟩ := hn13.shape _ rfl
            have T13 := Lib.hid (bl_seq T12.out hn13.bel)
            have R13 := Lib.hid (blk_below R12.out hn13.bel)
            have D13 := Lib.hid (D12.out.below hn13.bel)
            have N13 := Lib.hid hn13
            obtain ⟨BL, hBL⟩ : ∃ BL, xorL (wo.drop 32 :: headL ps) = BL := ⟨_, rfl⟩
            have HBL := Lib.hid hBL
            rw [hBL] at N13 ⊢
            clear hx2 hn13 hBL HB_ S12
            go_wp2_with (at_builtin; refine print_append_zeros (w0 := w12) w12.heap.size rfl (.tmp 59) (.const (.int .i64 32)) 24 3 5 .u8 .i64 rfl Try.underlying24 Try.underlying3 info5' (.slice A13 BL.length c13) BL 32 (by decide) rfl rfl ?aO ?aB ?aS ?aL ?_; (case aO => exact N13.out.own rfl); (case aB => exact N13.out.bel); (case aS => exact N13.out.bel.size); (case aL => have h_ := HBY.out.2.2.1; rw [HBL.out] at h_; omega); intro v14 w14 ho hb hg; obtain ⟨A14, n14, c14, rfl⟩ := own_slice' ho; have O14 := Lib.hid (And.intro ho (And.intro hb hg)); clear ho hb hg)
            have hn14 := own_eqn O14.out.1
            subst hn14
            have hOL : BL ++ List.replicate 32 (0 : Int) = missY wo ps := by rw [missY, HBL.out]
            have hYb := HBY.out.2.1
            have hXb := HBY.out.1
            have hbb := HMB.out
            rw [HDL.out] at hXb hbb
            rw [hOL] at O14 ⊢
            obtain ⟨OL, hOLe⟩ : ∃ OL, missY wo ps = OL := ⟨_, rfl⟩
            rw [hOLe] at O14 hYb hbb ⊢
            have HOL := Lib.hid hOLe
            have HBB := Lib.hid (And.intro hYb (And.intro hXb hbb))
            have P14 := Lib.hid ((show OwnN w14 w12.heap.size A14 OL.length c14 OL from O14.out.1).base (b' := w.heap.size + 2) (by have h1_ := HS12.out; omega))
            have D14 := Lib.hid (D12.out.below O14.out.2.1)
            have T14 := Lib.hid (bl_seq T12.out O14.out.2.1)
            have R14 := Lib.hid (blk_below R12.out O14.out.2.1)
            clear hOL hYb hXb hbb hOLe O14
            refine (open_any A14 A9 c14 DL.length c9 OL.length OL DL w14 P14.out.reads.1 HBB.out.1 P14.out.reads.2 D14.out.reads.1 HBB.out.2.1 D14.out.reads.2).mono ?_
            rintro e w15 ⟨hb15, rfl⟩
            have P15 := Lib.hid (P14.out.below hb15)
            have D15 := Lib.hid (D14.out.below hb15)
            have T15 := Lib.hid (bl_seq T14.out hb15)
            have R15 := Lib.hid (blk_below R14.out hb15)
            clear hb15 P14 D14 T14 R14 N13 T13 R13 D13
            cases hob2 : openB DL OL
            case false =>
              replace HMB := Lib.hid (show missB wd wo ps = false by rw [HBB.out.2.2, hob2])
              have hR : openR DL OL = hd0 := openR_no hob2
              rw [hR]
              clear hR hob2
              simp only [hdC, hd0]
              have ZR := Lib.hid (blk_alloc (R15.out) (.cells #[.int .u8 0, .int .u32 0, .int .u32 0, .int .u16 0, .int .u16 0, .int .u32 0, .int .u32 0] 35))
              have ZB := Lib.hid (bl_alloc (T15.out) (.cells #[.int .u8 0, .int .u32 0, .int .u32 0, .int .u16 0, .int .u16 0, .int .u32 0, .int .u32 0] 35))
              have zc0 : (w15.alloc (.cells #[.int .u8 0, .int .u32 0, .int .u32 0, .int .u16 0, .int .u16 0, .int .u32 0, .int .u32 0] 35)).cell? ⟨w.heap.size + 1, 0, none⟩ = some (.slice none 0 0) := (blk_cell ZR.out 0).trans rfl
              have zc1 : (w15.alloc (.cells #[.int .u8 0, .int .u32 0, .int .u32 0, .int .u16 0, .int .u16 0, .int .u32 0, .int .u32 0] 35)).cell? ⟨w.heap.size + 1, 1, none⟩ = some (.slice none 0 0) := (blk_cell ZR.out 1).trans rfl
              have zf0 : (w15.alloc (.cells #[.int .u8 0, .int .u32 0, .int .u32 0, .int .u16 0, .int .u16 0, .int .u32 0, .int .u32 0] 35)).frozen? ⟨w.heap.size + 1, 0, none⟩ = false := blk_frozen ZR.out 0
              have zf1 : (w15.alloc (.cells #[.int .u8 0, .int .u32 0, .int .u32 0, .int .u16 0, .int .u16 0, .int .u32 0, .int .u32 0] 35)).frozen? ⟨w.heap.size + 1, 1, none⟩ = false := blk_frozen ZR.out 1
              go_wp2_with fail
              have hf := blk_put (blk_put ZR.out 0 (.slice none 0 0) (cs' := #[.slice none 0 0, .slice none 0 0]) (by simp)) 1 (.slice none 0 0) (cs' := #[.slice none 0 0, .slice none 0 0]) (by simp)
              have hbf := bl_set (bl_set ZB.out (p := ⟨w.heap.size + 1, 0, none⟩) (by simp) (.slice none 0 0)) (p := ⟨w.heap.size + 1, 1, none⟩) (by simp) (.slice none 0 0)
              obtain ⟨wz, hwz⟩ : ∃ wz, (((w15.alloc (.cells #[.int .u8 0, .int .u32 0, .int .u32 0, .int .u16 0, .int .u16 0, .int .u32 0, .int .u32 0] 35)).setCell ⟨w.heap.size + 1, 0, none⟩ (.slice none 0 0)).setCell ⟨w.heap.size + 1, 1, none⟩ (.slice none 0 0)) = wz := ⟨_, rfl⟩
              rw [hwz] at hf hbf ⊢
              have cc0 : wz.cell? ⟨w.heap.size + 1, 0, none⟩ = some (.slice none 0 0) := (blk_cell hf 0).trans rfl
              have cc1 : wz.cell? ⟨w.heap.size + 1, 1, none⟩ = some (.slice none 0 0) := (blk_cell hf 1).trans rfl
              refine bodyPost_ret (v := .tuple #[.agg #[.slice none 0 0, .slice none 0 0], .int .i64 63]) (by simp [results, Try.results18, go_sem, cc0, cc1]) rfl ?_
              obtain ⟨m1, m2, m3⟩ := miss_no HMB.out
              rw [m1, m2, m3]
              exact ⟨none, 0, none, 0, rfl, rows_nil _, rows_nil _, hbf⟩
            case true =>
              replace HMB := Lib.hid (show missB wd wo ps = true by rw [HBB.out.2.2, hob2])
              have hR : openR DL OL = openH OL := openR_yes hob2
              rw [hR]
              clear hR hob2
              generalize openH OL = HO
              simp only [hdC]
              have ZR := Lib.hid (blk_alloc (R15.out) (.cells #[.int .u8 HO.k, .int .u32 HO.e, .int .u32 HO.b, .int .u16 HO.i, .int .u16 HO.c, .int .u32 HO.l, .int .u32 HO.m] 35))
              have ZB := Lib.hid (bl_alloc (T15.out) (.cells #[.int .u8 HO.k, .int .u32 HO.e, .int .u32 HO.b, .int .u16 HO.i, .int .u16 HO.c, .int .u32 HO.l, .int .u32 HO.m] 35))
              have DA := Lib.hid (show OwnN (w15.alloc (.cells #[.int .u8 HO.k, .int .u32 HO.e, .int .u32 HO.b, .int .u16 HO.i, .int .u16 HO.c, .int .u32 HO.l, .int .u32 HO.m] 35)) (w.heap.size + 2) A9 DL.length c9 DL from D15.out.below (bl_alloc (Below.refl _ _) _))
              have PA := Lib.hid (show OwnN (w15.alloc (.cells #[.int .u8 HO.k, .int .u32 HO.e, .int .u32 HO.b, .int .u16 HO.i, .int .u16 HO.c, .int .u32 HO.l, .int .u32 HO.m] 35)) (w.heap.size + 2) A14 OL.length c14 OL from P15.out.below (bl_alloc (Below.refl _ _) _))
              have zc0 : (w15.alloc (.cells #[.int .u8 HO.k, .int .u32 HO.e, .int .u32 HO.b, .int .u16 HO.i, .int .u16 HO.c, .int .u32 HO.l, .int .u32 HO.m] 35)).cell? ⟨w.heap.size + 1, 0, none⟩ = some (.slice none 0 0) := (blk_cell ZR.out 0).trans rfl
              have zc1 : (w15.alloc (.cells #[.int .u8 HO.k, .int .u32 HO.e, .int .u32 HO.b, .int .u16 HO.i, .int .u16 HO.c, .int .u32 HO.l, .int .u32 HO.m] 35)).cell? ⟨w.heap.size + 1, 1, none⟩ = some (.slice none 0 0) := (blk_cell ZR.out 1).trans rfl
              have zf0 : (w15.alloc (.cells #[.int .u8 HO.k, .int .u32 HO.e, .int .u32 HO.b, .int .u16 HO.i, .int .u16 HO.c, .int .u32 HO.l, .int .u32 HO.m] 35)).frozen? ⟨w.heap.size + 1, 0, none⟩ = false := blk_frozen ZR.out 0
              have zf1 : (w15.alloc (.cells #[.int .u8 HO.k, .int .u32 HO.e, .int .u32 HO.b, .int .u16 HO.i, .int .u16 HO.c, .int .u32 HO.l, .int .u32 HO.m] 35)).frozen? ⟨w.heap.size + 1, 1, none⟩ = false := blk_frozen ZR.out 1
              go_wp2_with fail
              have hf := blk_put (blk_put ZR.out 0 (.slice A9 DL.length c9) (cs' := #[.slice A9 DL.length c9, .slice none 0 0]) (by simp)) 1 (.slice A14 OL.length c14) (cs' := #[.slice A9 DL.length c9, .slice A14 OL.length c14]) (by simp)
              have hbf := bl_set (bl_set ZB.out (p := ⟨w.heap.size + 1, 0, none⟩) (by simp) (.slice A9 DL.length c9)) (p := ⟨w.heap.size + 1, 1, none⟩) (by simp) (.slice A14 OL.length c14)
              have hdf := (DA.out.far (w.heap.size + 1) 0 (.slice A9 DL.length c9) (by omega)).far (w.heap.size + 1) 1 (.slice A14 OL.length c14) (by omega)
              have hpf := (PA.out.far (w.heap.size + 1) 0 (.slice A9 DL.length c9) (by omega)).far (w.heap.size + 1) 1 (.slice A14 OL.length c14) (by omega)
              obtain ⟨wf, hwf⟩ : ∃ wf, (((w15.alloc (.cells #[.int .u8 HO.k, .int .u32 HO.e, .int .u32 HO.b, .int .u16 HO.i, .int .u16 HO.c, .int .u32 HO.l, .int .u32 HO.m] 35)).setCell ⟨w.heap.size + 1, 0, none⟩ (.slice A9 DL.length c9)).setCell ⟨w.heap.size + 1, 1, none⟩ (.slice A14 OL.length c14)) = wf := ⟨_, rfl⟩
              rw [hwf] at hf hbf hdf hpf ⊢
              have cc0 : wf.cell? ⟨w.heap.size + 1, 0, none⟩ = some (.slice A9 DL.length c9) := (blk_cell hf 0).trans rfl
              have cc1 : wf.cell? ⟨w.heap.size + 1, 1, none⟩ = some (.slice A14 OL.length c14) := (blk_cell hf 1).trans rfl
              refine bodyPost_ret (v := .tuple #[.agg #[.slice A9 DL.length c9, .slice A14 OL.length c14], .int .i64 0]) (by simp [results, Try.results18, go_sem, cc0, cc1]) rfl ?_
              obtain ⟨m1, m2, m3⟩ := miss_yes HMB.out
              rw [m1, m2, m3, HDL.out, HOL.out]
              exact ⟨A9, c9, A14, c14, rfl, hdf.row HBB.out.2.1, hpf.row HBB.out.1, hbf⟩
end Go.Proofs.Ytkbjndfmbimjiaa

/-! What is missing of others and their parity: plain. -/
set_option linter.unusedVariables false
set_option linter.unusedSimpArgs false
namespace Go.Proofs.Ytkbjndfmbimjiaa
open Go.RowKit Go.Proofs.YtkbjndfmbimjiaaW.PrintWords Go.Proofs.YtkbjndfmbimjiaaW.PrintLast
theorem xorL_ext {a b : List (List Int)} (h : mlen a = mlen b) (hx : ∀ i, xn a i = xn b i) : xorL a = xorL b := by
  rw [xorL, xorL, h]
  exact List.map_congr_left fun i _ => by rw [hx]
theorem xorL_one {l : List Int} (hb : Byt l) : xorL [l] = l := by
  apply List.ext_getElem
  · rw [xorL_length]; simp [mlen]
  · intro i h1 h2
    have h3 := xorL_getD [l] i
    rw [List.getD_eq_getElem?_getD, List.getElem?_eq_getElem h1] at h3
    simp only [Option.getD_some] at h3
    rw [h3]
    simp only [xn, Nat.xor_zero, List.getD_eq_getElem?_getD, List.getElem?_eq_getElem h2, Option.getD_some]
    have h4 := hb l[i] (List.getElem_mem h2)
    omega
theorem xor_back (a x b : Nat) : (a ^^^ (x ^^^ b)) ^^^ (a ^^^ b) = x := by
  apply Nat.eq_of_testBit_eq
  intro i
  simp only [Nat.testBit_xor]
  cases a.testBit i <;> cases x.testBit i <;> cases b.testBit i <;> rfl
theorem xorL_back {A B : List (List Int)} {x : List Int} (hx : Byt x) (hl : mlen (A ++ x :: B) = x.length) : xorL (xorL (A ++ x :: B) :: (A ++ B).reverse) = x := by
  rw [← xorL_one hx]
  have hm : mlen (A ++ B) ≤ x.length := by
    rw [mlen_append] at hl ⊢
    simp only [mlen] at hl
    omega
  refine xorL_ext ?_ fun i => ?_
  · simp only [mlen, mlen_reverse]
    rw [xorL_length, xorL_one hx, hl]
    omega
  · simp only [xn, xn_reverse, xorL_getD, Int.toNat_natCast, xn_append, Nat.xor_zero]
    rw [xor_back]
theorem mlen_all {ls : List (List Int)} {n : Nat} (h : ∀ l ∈ ls, l.length = n) (hne : ls ≠ []) : mlen ls = n := by
  refine Nat.le_antisymm (mlen_bound fun l hl => by rw [h l hl]; omega) ?_
  obtain ⟨x, hx⟩ := List.exists_mem_of_ne_nil _ hne
  rw [← h x hx]
  exact mlen_le hx
theorem seal_split (h : Hd) (d : List Int) : (sealL h d []).take 32 ++ List.replicate 32 0 = sealL h d [] := by
  have e : (sealL h d []).drop 32 = List.replicate 32 0 := seal_drop h d []
  rw [← e, List.take_append_drop]
/-- A page that is sealed. -/
def Pg.sealed (p : Pg) (h : Hd) : Prop := p.o.l = sealL h p.d.l [] ∧ h.ok ∧ kindB h = true ∧ Byt p.d.l
theorem Pg.sealed.len {p : Pg} {h : Hd} (hp : p.sealed h) : p.o.l.length = 64 := by rw [hp.1, sealL_length]
theorem Pg.sealed.byt {p : Pg} {h : Hd} (hp : p.sealed h) : Byt p.o.l := by rw [hp.1]; exact sealL_byt _ _ (fun x hx => by cases hx)
theorem miss_back {hw h : Hd} {ps M A B : List Pg} {p : Pg} (hps : ps = A ++ p :: B) (hM : M = (A ++ B).reverse) (hl : mlen (dataL ps) = p.d.l.length) (ho : hw.ok) (hk : hw.k = 5) (hp : p.sealed h) (hh : ∀ q ∈ ps, q.o.l.length = 64) :
    missB (xorL (dataL ps)) (sealL hw (xorL (dataL ps)) (xorL (headL ps))) M = true ∧ missX (xorL (dataL ps)) M = p.d.l ∧ missY (sealL hw (xorL (dataL ps)) (xorL (headL ps))) M = p.o.l := by
  have e1 : dataL ps = dataL A ++ p.d.l :: dataL B := by rw [hps]; simp [dataL]
  have e2 : headL ps = headL A ++ p.o.l.take 32 :: headL B := by rw [hps]; simp [headL]
  have e3 : dataL M = (dataL A ++ dataL B).reverse := by rw [hM]; simp [dataL]
  have e4 : headL M = (headL A ++ headL B).reverse := by rw [hM]; simp [headL]
  have hX : missX (xorL (dataL ps)) M = p.d.l := by
    rw [missX, e3, e1]
    exact xorL_back hp.2.2.2 (by rw [← e1, hl])
  have ht : (p.o.l.take 32).length = 32 := by rw [List.length_take, hp.len]; rfl
  have hml : mlen (headL ps) = 32 := by
    refine mlen_all (fun l hl => ?_) (by rw [e2]; simp)
    obtain ⟨q, hq, rfl⟩ := List.mem_map.1 hl
    rw [List.length_take, hh q hq]; rfl
  have hY : missY (sealL hw (xorL (dataL ps)) (xorL (headL ps))) M = p.o.l := by
    rw [missY, seal_drop, tailL_self (by rw [xorL_length, hml]), e4, e2, xorL_back (fun x hx => hp.byt x (List.take_subset _ _ hx)) (by rw [← e2, hml, ht]), hp.1]
    exact seal_split h p.d.l
  refine ⟨?_, hX, hY⟩
  have hkb : kindB hw = true := by rw [kindB, hk]; rfl
  rw [missB, hX, hY, seal_open _ _ ho, seal_head _ _ ho, hkb, hk, hp.1, seal_open _ _ hp.2.1, hp.2.2.1]
  rfl
end Go.Proofs.Ytkbjndfmbimjiaa
