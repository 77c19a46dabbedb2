import Derived.Test.YtkbjndfmbimjiaaPkin
/-! gabionlaw09.pages: pages of a case, sealed. -/
set_option linter.unusedVariables false
set_option linter.unusedSimpArgs false
namespace Go.Proofs.Ytkbjndfmbimjiaa
open Go.RowKit Go.Proofs.YtkbjndfmbimjiaaW.PrintWords Go.Proofs.YtkbjndfmbimjiaaW.PrintLast
instance : Inhabited Hd := ⟨hd0⟩
/-- A row of headers that came in. -/
def RdHeads (w : World) (A : Option Addr) (hs : List Hd) : Prop :=
  hs.length ≤ 9223372036854775807 ∧ ∀ i, i < hs.length → ∃ a, A = some a ∧ w.cell? (a.add (i * 7)) = some (.int .u8 (hs.getD i default).k) ∧ w.cell? ⟨(a.add (i * 7)).block, (a.add (i * 7)).off + 1, none⟩ = some (.int .u32 (hs.getD i default).e) ∧ w.cell? ⟨(a.add (i * 7)).block, (a.add (i * 7)).off + 2, none⟩ = some (.int .u32 (hs.getD i default).b) ∧ w.cell? ⟨(a.add (i * 7)).block, (a.add (i * 7)).off + 3, none⟩ = some (.int .u16 (hs.getD i default).i) ∧ w.cell? ⟨(a.add (i * 7)).block, (a.add (i * 7)).off + 4, none⟩ = some (.int .u16 (hs.getD i default).c) ∧ w.cell? ⟨(a.add (i * 7)).block, (a.add (i * 7)).off + 5, none⟩ = some (.int .u32 (hs.getD i default).l) ∧ w.cell? ⟨(a.add (i * 7)).block, (a.add (i * 7)).off + 6, none⟩ = some (.int .u32 (hs.getD i default).m) ∧ (hs.getD i default).ok
theorem RdHeads.below {w w1 : World} {A : Option Addr} {hs : List Hd} (h : RdHeads w A hs) (hb : Below w.heap.size w w1) : RdHeads w1 A hs :=
  ⟨h.1, fun i hi => by
    obtain ⟨a, e, h0, h1, h2, h3, h4, h5, h6, h7⟩ := h.2 i hi
    exact ⟨a, e, pw_cell_below hb h0, pw_cell_below hb h1, pw_cell_below hb h2, pw_cell_below hb h3, pw_cell_below hb h4, pw_cell_below hb h5, pw_cell_below hb h6, h7⟩⟩
/-- A page's cells in a row of one's own. -/
def Rpg (p : Pg) (cs : List Value) : Prop := cs = [encR p.d, encR p.o]
/-- A page of one's own, sealed. -/
def PgOwn (w : World) (base : Nat) (p : Pg) : Prop := OwnN w base p.d.A p.d.l.length p.d.c p.d.l ∧ OwnN w base p.o.A p.o.l.length p.o.c p.o.l
def PgOk (w : World) (base n : Nat) (p : Pg) : Prop := PgOwn w base p ∧ p.d.l.length = n ∧ ∃ h, p.sealed h
theorem PgOk.below {w w1 : World} {base n : Nat} {p : Pg} (h : PgOk w base n p) (hb : Below w.heap.size w w1) : PgOk w1 base n p := ⟨⟨h.1.1.below hb, h.1.2.below hb⟩, h.2⟩
theorem PgOk.base {w : World} {base base' n : Nat} {p : Pg} (h : PgOk w base n p) (hb : base' ≤ base) : PgOk w base' n p := ⟨⟨h.1.1.base hb, h.1.2.base hb⟩, h.2⟩
theorem OwnN.other {w w1 : World} {base n c : Nat} {A : Option Addr} {xs : List Int} (h : OwnN w base A n c xs) {row : Option Nat} (hg : w.grownBy w1 row) (hne : (Value.slice A n c).ownBlock = none ∨ (Value.slice A n c).ownBlock ≠ row) : OwnN w1 base A n c xs := own_other h hg hne
/-- A row of another type turns no row of bytes. -/
theorem OwnN.grow {w w1 : World} {base base2 n c m sz : Nat} {A : Option Addr} {xs : List Int} {e : TypeId} {v : Value} {cs : List Value} (h : OwnN w base A n c xs) (ho : w.ownsRow base2 e sz v m cs) (he : e ≠ 5) (hg : w.grownBy w1 v.ownBlock) : OwnN w1 base A n c xs := by
  refine h.other hg ?_
  rcases h.2 with ⟨h2, _⟩ | ⟨g, cap, cur, h2, _, hb, _⟩
  · rw [h2]; exact .inl rfl
  · rw [h2]
    refine .inr (fun e' => ?_)
    exact own_ne ho hb he e'
theorem PgOk.grow {w w1 : World} {base base2 n m sz : Nat} {p : Pg} {e : TypeId} {v : Value} {cs : List Value} (h : PgOk w base n p) (ho : w.ownsRow base2 e sz v m cs) (he : e ≠ 5) (hg : w.grownBy w1 v.ownBlock) : PgOk w1 base n p := ⟨⟨h.1.1.grow ho he hg, h.1.2.grow ho he hg⟩, h.2⟩
theorem ownrow_lt {α : Type} {R : α → List Value → Prop} {e : TypeId} {size : Nat} {w : World} {base : Nat} {v : Value} {ps : List α} (h : OwnRow R e size w base v ps) : ∀ j, v.ownBlock = some j → base ≤ j ∧ j < w.heap.size := by
  obtain ⟨inner, ho, _⟩ := h
  exact ho.lt
theorem infoPg : (Try.prog.info? 43).map (fun i => (i.zero, i.size, i.bytes)) = some (some (.agg #[.slice none 0 0, .slice none 0 0]), 2, 48) := by kernel_rfl
theorem infoP9 : (Try.prog.info? 45).map (fun i => (i.zero, i.size, i.bytes)) = some (some (.agg #[.slice none 0 0, .slice none 0 0]), 2, 48) := by kernel_rfl
theorem OwnN.take {w : World} {base n c : Nat} {A : Option Addr} {xs : List Int} (h : OwnN w base A n c xs) (k : Nat) (hk : k ≤ n) : OwnN w base A k c (xs.take k) := by
  have hl := h.len
  have e1 : nums .u8 (xs.take k) = (nums .u8 xs).take k := by simp [nums, List.map_take]
  refine ⟨by rw [e1, List.length_take, h.1]; omega, ?_⟩
  rcases h.2 with ⟨h2, h3⟩ | ⟨g, cap, cur, h2, h3, h4, h5, h6, h7, h8⟩
  · injection h2 with e1 e2 e3
    subst e1 e3
    exact .inl ⟨by rw [show k = 0 by omega], by omega⟩
  · injection h2 with f1 f2 f3
    refine .inr ⟨g, cap, cur, by rw [f1, f3], h3, h4, by omega, h6, h7, ?_⟩
    rw [e1, ← h8, List.take_take]
    congr 1
    omega
set_option maxHeartbeats 4000000 in
set_option maxRecDepth 100000 in
theorem pages_any (hs : List Hd) (rs : List Row) (x : Hd) (AH AD : Option Addr) (cH cD : Nat) (q q2 : Int) (w : World) (hh : RdHeads w AH hs) (hr : RdRows w AD rs) :
    Calls Try.prog 14 #[.agg #[.slice AH hs.length cH, .slice AD rs.length cD, .int .i64 q, .int .i64 q2, .int .u8 x.k, .int .u32 x.e, .int .u32 x.b, .int .u16 x.i, .int .u16 x.c, .int .u32 x.l, .int .u32 x.m]] w fun e w' => Below w.heap.size w w' ∧ (e = .returned (.tuple #[.slice none 0 0, .slice none 0 0, .bool false]) ∨
      ∃ (ps : List Pg) (va vb : Value) (n : Nat), e = .returned (.tuple #[va, vb, .bool true]) ∧ 1 ≤ ps.length ∧ ps.length ≤ 12 ∧ n < 300 ∧ OwnRow Rpg 43 2 w' w.heap.size va ps ∧ OwnRow Rpg 45 2 w' w.heap.size vb ps ∧ (va.ownBlock = none ∨ va.ownBlock ≠ vb.ownBlock) ∧ ∀ p ∈ ps, PgOk w' w.heap.size n p) := by
  have HH := Lib.hid hh
  have HR := Lib.hid hr
  have hl1 := hh.1
  have hl2 := hr.1
  clear hh hr
  have H0 : Hid ((w.alloc (.cells #[.slice AH hs.length cH, .slice AD rs.length cD, .int .i64 q, .int .i64 q2, .int .u8 x.k, .int .u32 x.e, .int .u32 x.b, .int .u16 x.i, .int .u16 x.c, .int .u32 x.l, .int .u32 x.m] 37)).heap[w.heap.size]? = some (.cells #[.slice AH hs.length cH, .slice AD rs.length cD, .int .i64 q, .int .i64 q2, .int .u8 x.k, .int .u32 x.e, .int .u32 x.b, .int .u16 x.i, .int .u16 x.c, .int .u32 x.l, .int .u32 x.m] 37 (0, 0)) ∧ Below w.heap.size w (w.alloc (.cells #[.slice AH hs.length cH, .slice AD rs.length cD, .int .i64 q, .int .i64 q2, .int .u8 x.k, .int .u32 x.e, .int .u32 x.b, .int .u16 x.i, .int .u16 x.c, .int .u32 x.l, .int .u32 x.m] 37)) ∧ (w.alloc (.cells #[.slice AH hs.length cH, .slice AD rs.length cD, .int .i64 q, .int .i64 q2, .int .u8 x.k, .int .u32 x.e, .int .u32 x.b, .int .u16 x.i, .int .u16 x.c, .int .u32 x.l, .int .u32 x.m] 37)).heap.size = w.heap.size + 1) := Lib.hid ⟨heap_alloc_new _ _, bl_alloc (Below.refl _ _) _, by simp⟩
  go_enter Try.func14, Try.ntmps14
  obtain ⟨wE, hwE⟩ : ∃ wE, (w.alloc (.cells #[.slice AH hs.length cH, .slice AD rs.length cD, .int .i64 q, .int .i64 q2, .int .u8 x.k, .int .u32 x.e, .int .u32 x.b, .int .u16 x.i, .int .u16 x.c, .int .u32 x.l, .int .u32 x.m] 37)) = wE := ⟨_, rfl⟩
  rw [hwE] at H0
  have z0 : wE.cell? ⟨w.heap.size, 0, none⟩ = some (.slice AH hs.length cH) := (blk_cell H0.out.1 0).trans rfl
  have z1 : wE.cell? ⟨w.heap.size, 1, none⟩ = some (.slice AD rs.length cD) := (blk_cell H0.out.1 1).trans rfl
  have z2 : wE.cell? ⟨w.heap.size, 2, none⟩ = some (.int .i64 q) := (blk_cell H0.out.1 2).trans rfl
  by_cases hn1 : (hs.length : Int) < 1
  · go_wp2_with fail
    refine bodyPost_ret (v := .tuple #[.slice none 0 0, .slice none 0 0, .bool false]) (by simp [results, Try.results14, go_sem]) rfl ⟨by first | exact H0.out.2.1 | (rw [hwE]; exact H0.out.2.1), .inl rfl⟩
  by_cases hn12 : 12 < (hs.length : Int)
  · go_wp2_with fail
    refine bodyPost_ret (v := .tuple #[.slice none 0 0, .slice none 0 0, .bool false]) (by simp [results, Try.results14, go_sem]) rfl ⟨by first | exact H0.out.2.1 | (rw [hwE]; exact H0.out.2.1), .inl rfl⟩
  by_cases hnd : (rs.length : Int) < (hs.length : Int)
  · go_wp2_with fail
    refine bodyPost_ret (v := .tuple #[.slice none 0 0, .slice none 0 0, .bool false]) (by simp [results, Try.results14, go_sem]) rfl ⟨by first | exact H0.out.2.1 | (rw [hwE]; exact H0.out.2.1), .inl rfl⟩
  obtain ⟨sz, hsz, hs300⟩ := modU q 300 (by omega) (by omega)
  go_wp2_with fail
  have ZE := Lib.hid H0.out.2.2
  try rw [hwE]
  clear z0 z1 z2 hwE
  go_loopw [7, 8, 9] (fun a b i wr => ∃ (k : Nat) (ps : List Pg), k ≤ hs.length ∧ ps.length = k ∧ i = .int .i64 (k : Int) ∧ Hid (OwnRow Rpg 43 2 wr wE.heap.size a ps) ∧ Hid (OwnRow Rpg 45 2 wr wE.heap.size b ps) ∧ Hid (a.ownBlock = none ∨ a.ownBlock ≠ b.ownBlock) ∧ Hid (∀ p ∈ ps, PgOk wr wE.heap.size sz p) ∧ Hid (Below wE.heap.size wE wr)) (fun _ _ i _ => hs.length - (intOf i).toNat)
  case atStart => exact ⟨0, [], Nat.zero_le _, rfl, rfl, Lib.hid (OwnRow.none_ _ _ _ _ _), Lib.hid (OwnRow.none_ _ _ _ _ _), Lib.hid (.inl rfl), Lib.hid (fun p hp => by cases hp), Lib.hid (Below.refl _ _)⟩
  case round =>
    obtain ⟨k, ps, hk, hpk, rfl, HA, HB, HN, HP, HT⟩ := hrel
    have G0 := Lib.hid (blk_below H0.out.1 HT.out)
    have T0 := Lib.hid (bl_seq H0.out.2.1 HT.out)
    have z0 : wr.cell? ⟨w.heap.size, 0, none⟩ = some (.slice AH hs.length cH) := (blk_cell G0.out 0).trans rfl
    have z1 : wr.cell? ⟨w.heap.size, 1, none⟩ = some (.slice AD rs.length cD) := (blk_cell G0.out 1).trans rfl
    by_cases hlt : k < hs.length
    · obtain ⟨ad, he, d1_, d2_, d3_, d4_⟩ := HR.out.2 k (by omega)
      have hd1 := pw_cell_below T0.out d1_
      subst he
      obtain ⟨r0, hr0⟩ : ∃ r0, rs.getD k default = r0 := ⟨_, rfl⟩
      rw [hr0] at hd1 d2_ d3_ d4_
      have RW := Lib.hid (And.intro d2_ (And.intro d3_ d4_))
      clear d1_ d2_ d3_ d4_ hr0
      by_cases h300 : 300 < (r0.l.length : Int)
      · go_wp2_with fail
        refine bodyPost_ret (v := .tuple #[.slice none 0 0, .slice none 0 0, .bool false]) (by simp [results, Try.results14, go_sem]) rfl ⟨T0.out, .inl rfl⟩
      obtain ⟨ah, heh, e0_, e1_, e2_, e3_, e4_, e5_, e6_, eok_⟩ := HH.out.2 k hlt
      obtain ⟨h0, hh0⟩ : ∃ h0, hs.getD k default = h0 := ⟨_, rfl⟩
      subst heh
      rw [hh0] at e0_ e1_ e2_ e3_ e4_ e5_ e6_ eok_
      have HC := Lib.hid (And.intro e0_ (And.intro e1_ (And.intro e2_ (And.intro e3_ (And.intro e4_ (And.intro e5_ (And.intro e6_ eok_)))))))
      clear e0_ e1_ e2_ e3_ e4_ e5_ e6_ eok_ hh0
      go_wp2_with fail
      clear z0 z1 hd1
      refine (rPad_any r0.l r0.A r0.c (sz : Int) wr (RW.out.2.1.below T0.out) RW.out.1 (by omega) (by omega) (by omega)).mono ?_
      rintro e w1 ⟨v1, rfl, hn1⟩
      obtain ⟨A1, c1, rfl, hc1⟩ := hn1.shape _ rfl
      have hle : sz ≤ (padL r0.l (sz : Int)).length := by simp [padL]; omega
      have hpl : ((padL r0.l (sz : Int)).take sz).length = sz := by rw [List.length_take]; omega
      have hpb : Byt ((padL r0.l (sz : Int)).take sz) := fun y hy => (byt_append RW.out.2.2 (byt_rep _)) y (List.take_subset _ _ hy)
      obtain ⟨i5, hi5, hz5, hs5, hb5⟩ := info_parts (show (Try.prog.info? 5).map (fun i => (i.zero, i.size, i.bytes)) = some (some (.int .u8 0), 1, 1) from info5')
      obtain ⟨hcut, -, -⟩ := print_take_of (P := Try.prog) (Value.int .u8) 0 24 5 .i64 Try.underlying24 hi5 hs5 A1 c1 (padL r0.l (sz : Int)) (sz : Int) (by omega) (by omega) hc1
      rw [Int.toNat_natCast, hpl] at hcut
      have D1 := Lib.hid ((show OwnN w1 wr.heap.size A1 (padL r0.l (sz : Int)).length c1 (padL r0.l (sz : Int)) from hn1.own rfl).take sz hle)
      have T1 := Lib.hid (bl_seq T0.out hn1.bel)
      have TT1 := Lib.hid (bl_seq HT.out hn1.bel)
      have bb1 := hn1.bel
      have HA1 := Lib.hid (HA.out.below bb1)
      have HB1 := Lib.hid (HB.out.below bb1)
      have HP1 := Lib.hid (fun p hp => (HP.out p hp).below bb1)
      have hG1 := blk_below G0.out bb1
      have z0 : w1.cell? ⟨w.heap.size, 0, none⟩ = some (.slice (some ah) hs.length cH) := (blk_cell hG1 0).trans rfl
      obtain ⟨pl, hpe⟩ : ∃ pl, (padL r0.l (sz : Int)).length = pl := ⟨_, rfl⟩
      obtain ⟨dl, hde⟩ : ∃ dl, (padL r0.l (sz : Int)).take sz = dl := ⟨_, rfl⟩
      rw [hde] at D1 hpl hpb
      rw [hpe] at hcut ⊢
      have HD := Lib.hid (And.intro hpl hpb)
      have hki : ((k : Int) * 7).toNat = k * 7 := by omega
      have km := kind_mod HC.out.2.2.2.2.2.2.2.k0 HC.out.2.2.2.2.2.2.2.k1
      have y0 : w1.cell? (ah.add (k * 7)) = some (.int .u8 h0.k) := pw_cell_below T1.out HC.out.1
      have y1 : w1.cell? ⟨(ah.add (k * 7)).block, (ah.add (k * 7)).off + 1, none⟩ = some (.int .u32 h0.e) := pw_cell_below T1.out HC.out.2.1
      have y2 : w1.cell? ⟨(ah.add (k * 7)).block, (ah.add (k * 7)).off + 2, none⟩ = some (.int .u32 h0.b) := pw_cell_below T1.out HC.out.2.2.1
      have y3 : w1.cell? ⟨(ah.add (k * 7)).block, (ah.add (k * 7)).off + 3, none⟩ = some (.int .u16 h0.i) := pw_cell_below T1.out HC.out.2.2.2.1
      have y4 : w1.cell? ⟨(ah.add (k * 7)).block, (ah.add (k * 7)).off + 4, none⟩ = some (.int .u16 h0.c) := pw_cell_below T1.out HC.out.2.2.2.2.1
      have y5 : w1.cell? ⟨(ah.add (k * 7)).block, (ah.add (k * 7)).off + 5, none⟩ = some (.int .u32 h0.l) := pw_cell_below T1.out HC.out.2.2.2.2.2.1
      have y6 : w1.cell? ⟨(ah.add (k * 7)).block, (ah.add (k * 7)).off + 6, none⟩ = some (.int .u32 h0.m) := pw_cell_below T1.out HC.out.2.2.2.2.2.2.1
      clear hn1 hle hpl hpb bb1 hG1 hpe hde HA HB HP hc1
      go_wp2_with fail
      clear y0 y1 y2 y3 y4 y5 y6 z0 hcut
      refine (of05 (kindH h0) _ (kindH_ok HC.out.2.2.2.2.2.2.2)).mono ?_
      rintro e w2 ⟨rfl, hb2⟩
      have bb2 : Below w1.heap.size w1 w2 := bl_seq (bl_alloc (Below.refl _ _) _) hb2
      have D2 := Lib.hid (D1.out.below bb2)
      have T2 := Lib.hid (bl_seq T1.out bb2)
      have TT2 := Lib.hid (bl_seq TT1.out bb2)
      have HA2 := Lib.hid (HA1.out.below bb2)
      have HB2 := Lib.hid (HB1.out.below bb2)
      have HP2 := Lib.hid (fun p hp => (HP1.out p hp).below bb2)
      clear hb2 bb2 D1 T1 TT1 HA1 HB1 HP1
      go_wp2_with fail
      refine (rSeal05 (kindH h0) A1 none c1 0 sz 0 dl [] w2 (kindH_ok HC.out.2.2.2.2.2.2.2) D2.out.reads.1 D2.out.reads.2 HD.out.2 (by omega) ⟨rfl, by omega, fun h => absurd h (by omega)⟩ (Nat.le_refl _) (fun x hx => by cases hx)).mono ?_
      rintro e w3 ⟨v3, rfl, hn3⟩
      obtain ⟨A3, c3, rfl, hc3⟩ := hn3.shape 64 (sealL_length _ _ _)
      have hzw : wE.heap.size ≤ wr.heap.size := HT.out.size
      have D3 := Lib.hid ((D2.out.below hn3.bel).base (b' := wE.heap.size) hzw)
      have S3 := Lib.hid ((show OwnN w3 w2.heap.size A3 64 c3 (sealL (kindH h0) dl []) from hn3.own (sealL_length _ _ _)).base (b' := wE.heap.size) TT2.out.size)
      have T3 := Lib.hid (bl_seq T2.out hn3.bel)
      have TT3 := Lib.hid (bl_seq TT2.out hn3.bel)
      have HA3 := Lib.hid (HA2.out.below hn3.bel)
      have HB3 := Lib.hid (HB2.out.below hn3.bel)
      have HP3 := Lib.hid (fun p hp => (HP2.out p hp).below hn3.bel)
      obtain ⟨p1, hp1⟩ : ∃ p1 : Pg, p1 = ⟨⟨A1, c1, dl⟩, ⟨A3, c3, sealL (kindH h0) dl []⟩⟩ := ⟨_, rfl⟩
      have HCS : Hid (Rpg p1 [.slice A1 sz c1, .slice A3 64 c3]) := Lib.hid (by rw [hp1, Rpg]; simp only [encR, sealL_length]; rw [HD.out.1])
      have PK : Hid (∀ W, OwnN W wE.heap.size A1 sz c1 dl → OwnN W wE.heap.size A3 64 c3 (sealL (kindH h0) dl []) → PgOk W wE.heap.size sz p1) := Lib.hid (fun W g1 g2 => by
        rw [hp1]
        refine ⟨⟨?_, ?_⟩, HD.out.1, kindH h0, rfl, kindH_ok HC.out.2.2.2.2.2.2.2, kindH_six h0, HD.out.2⟩
        · show OwnN W wE.heap.size A1 dl.length c1 dl
          rw [HD.out.1]; exact g1
        · show OwnN W wE.heap.size A3 (sealL (kindH h0) dl []).length c3 _
          rw [sealL_length]; exact g2)
      have PS3 := Lib.hid (PK.out w3 D3.out S3.out)
      clear hn3 D2 T2 TT2 HA2 HB2 HP2 D3 S3 hc3 hzw hp1
      go_wp2_with (first | (at_builtin; refine OwnRow.append (R := Rpg) (w0 := wE) wE.heap.size rfl (.tmp 69) (.tmp 73) 38 43 (.agg #[.slice none 0 0, .slice none 0 0]) 2 48 rfl Try.underlying38 infoPg rfl (by decide) (by decide) _ ps p1 [.slice A1 sz c1, .slice A3 64 c3] rfl (by first | rfl | (simp [Act.eval]; done) | (simp only [World.size_alloc]; rfl)) ?aP rfl ?a1 ?aO ?aB ?aS ?aL ?_; (case aP => exact HCS.out); (case a1 => intro u hu; simp at hu; rcases hu with rfl | rfl <;> rfl); (case aO => exact HA3.out); (case aB => exact TT3.out); (case aS => exact (TT3.out).size); (case aL => omega); intro v9 w9 ho hb hg hat; have O_w9 := Lib.hid (And.intro ho (And.intro hb (And.intro hg hat))); clear ho hb hg hat; have HB9 := Lib.hid (HB3.out.other O_w9.out.2.2.1 (sep_symm HN.out)); have HP9 := Lib.hid (fun p hp => (HP3.out p hp).grow HA3.out.choose_spec.1 (by decide) O_w9.out.2.2.1); have PS9 := Lib.hid (PS3.out.grow HA3.out.choose_spec.1 (by decide) O_w9.out.2.2.1); have HN9 := Lib.hid (sep_grown HN.out O_w9.out.2.2.2 (fun j hj => (ownrow_lt HB3.out j hj).2)); have TT9 := Lib.hid O_w9.out.2.1; clear HB3 HP3 PS3 HA3 HN TT3) | (at_builtin; refine OwnRow.append (R := Rpg) (w0 := wE) wE.heap.size rfl (.tmp 75) (.tmp 79) 39 45 (.agg #[.slice none 0 0, .slice none 0 0]) 2 48 rfl Try.underlying39 infoP9 rfl (by decide) (by decide) _ ps p1 [.slice A1 sz c1, .slice A3 64 c3] rfl (by first | rfl | (simp [Act.eval]; done) | (simp only [World.size_alloc]; rfl)) ?bP rfl ?b1 ?bO ?bB ?bS ?bL ?_; (case bP => exact HCS.out); (case b1 => intro u hu; simp at hu; rcases hu with rfl | rfl <;> rfl); (case bO => exact HB9.out); (case bB => exact TT9.out); (case bS => exact (TT9.out).size); (case bL => omega); intro v11 w11 ho hb hg hat; have O_w11 := Lib.hid (And.intro ho (And.intro hb (And.intro hg hat))); clear ho hb hg hat))
      go_roundw
      case rel =>
        refine ⟨k + 1, ps ++ [p1], by omega, by simp; omega, by go_num, Lib.hid (O_w9.out.1.other O_w11.out.2.2.1 HN9.out), Lib.hid O_w11.out.1, Lib.hid (sep_symm (sep_grown (sep_symm HN9.out) O_w11.out.2.2.2 (fun j hj => (ownrow_lt O_w9.out.1 j hj).2))), Lib.hid (fun p hp => ?_), Lib.hid O_w11.out.2.1⟩
        rcases List.mem_append.1 hp with hp | hp
        · exact (HP9.out p hp).grow HB9.out.choose_spec.1 (by decide) O_w11.out.2.2.1
        · obtain rfl := List.mem_singleton.1 hp
          exact PS9.out.grow HB9.out.choose_spec.1 (by decide) O_w11.out.2.2.1
      case measure => simp [intOf]; omega
    · go_wp2_with fail
      refine bodyPost_ret (v := .tuple #[u7, u8, .bool true]) (by simp [results, Try.results14, go_sem]) rfl ⟨T0.out, .inr ⟨ps, u7, u8, sz, rfl, by omega, by omega, by omega, HA.out.lower (by have h_ := ZE.out; omega), HB.out.lower (by have h_ := ZE.out; omega), HN.out, fun p hp => (HP.out p hp).base (by have h_ := ZE.out; omega)⟩⟩
end Go.Proofs.Ytkbjndfmbimjiaa
