/- What the proof of TopSealed leans on: Ua Ub Uc Ud. -/
import Derived.Test.YtffalemndjampaaQax
section
set_option linter.unusedVariables false
set_option linter.unusedSimpArgs false
namespace Go.Proofs.Ytffalemndjampaa
open Go.RowKit Go.Proofs.YtffalemndjampaaW.PrintWords Go.Proofs.YtffalemndjampaaW.PrintLast
theorem rep4 {c : Nat} (h : c < 4) : (List.replicate 4 (Value.bool false))[c]? = some (.bool false) := by
 rw [List.getElem?_replicate, if_pos h]
def gl (g : Nat → Value) : List Value := (List.range 12).map g
theorem gl_len (g : Nat → Value) : (gl g).length = 6 * 2 := by simp [gl]
theorem gl_at {g : Nat → Value} {j : Nat} {u : Value} (h : (gl g)[j]? = some u) : j < 12 ∧ u = g j := by
 obtain ⟨hl, e⟩ := List.getElem?_eq_some_iff.1 h
 have hj : j < 12 := by simpa [gl] using hl
 exact ⟨hj, by rw [← e]; simp [gl]⟩
theorem gl_get (g : Nat → Value) {j : Nat} (h : j < 12) : (gl g)[j]? = some (g j) := by
 simp [gl, List.getElem?_range, h]
theorem dead_news {w : World} {dq : Nat} (h : ∀ c, c < 4 → w.cell? ⟨dq, c, none⟩ = some (.bool false)) : ∀ j u, (List.replicate 4 (Value.bool false))[j]? = some u → w.cell? ((⟨dq, 0, none⟩ : Addr).add j) = some u := by
 intro j u hu
 rw [List.getElem?_replicate] at hu
 split at hu
 ·rename_i hj
  rw [add_zero_, h j hj]; exact hu
 ·cases hu
section
variable {ops : Array Oper} {rest : List Oper} {o : Oper} {a : Act} {Q : Exit → Act → World → Prop}
theorem cp_at {W : World} (hgd : o.guard = none) (s x : Operand) (t e : TypeId) (z : Value) (sz bytes : Nat) (ho : o.op = .call { callee := .builtin .append, args := #[s, x], argTypes := #[t, t] }) (hty : o.type = t) (ht : Try.prog.underlying t = some (.slice e)) (hinfo : (Try.prog.info? e).map (fun i => (i.zero, i.size, i.bytes)) = some (some z, sz, bytes)) (hz : z.cells.size = sz) (hs : 0 < sz) (hb : bytes ≤ 1000)
  (hsv : a.eval s = .slice none 0 0) {ad : Addr} {m c : Nat} (hx : a.eval x = .slice (some ad) m c) {news : List Value} (hl : news.length = m * sz) (hnews : ∀ j u, news[j]? = some u → W.cell? (ad.add j) = some u) (h1 : ∀ u ∈ news, u.oneCell' = true) (hm : 0 < m) (hm2 : m ≤ 1000)
  (h : ∀ g c1 D w1, Below W.heap.size W w1 → W.heap.size ≤ g → m ≤ c1 → w1.heap[g]? = some (.cells D e (0, 0)) → D.toList.take (m * sz) = news → wpList Try.prog ops Q rest (a.put o.dst (.slice (some ⟨g, 0, none⟩) m c1)) w1) :
  wpList Try.prog ops Q (o :: rest) a W := by
 refine wpList_plain hgd fun K hK => ?_
 obtain ⟨g, c1, D, w1, hr, h2, h3, h4, h5, h6⟩ := cpN t e z sz bytes ht hinfo hz hs hb (w := W) (a := ad) (c := c) hl hnews h1 hm hm2
 unfold Oper.wp execOp
 simp only [ho, hty, resolve, invoke, builtin, Sem.run_bind, Sem.run_pure, Result.andThen_ok, List.map_toArray, List.map_cons, List.map_nil, hsv, hx, hr]
 exact hK _ _ (h g c1 D w1 h2 h3 h4 h5 h6)
end
def UaR.T3 : Bool × List (List Nat × List Nat) := (true, [([], []), ([0], [0]), ([1], [1]), ([2], [2]), ([], []), ([4], [4]), ([5], [5]), ([6], [6]), ([7], [7]), ([], []), ([9, 8], [9]), ([], []), ([11], [11]), ([12], [12]), ([13], [13]), ([3, 8, 10, 14], [3, 8, 10, 14]), ([15], [15]), ([16, 10, 0, 1, 2, 3, 4, 5, 6, 7, 8, 9, 10, 11, 12, 13, 14, 15, 16], [16])])
def UaR.B3 : List Nat := [0, 1, 3, 7, 0, 16, 48, 112, 240, 0, 1008, 0, 2048, 6144, 14336, 32767, 65535, 131071]
theorem UaR.tab3 : rtab .any (opsOf Try.f20 3) = UaR.T3 := by kernel_rfl
theorem UaR.bits3 : waitsOk UaR.T3.2 UaR.B3 = true := by kernel_rfl
structure Lay where
 p : Nat
 q : Nat
 qc : Nat
 dq : Nat
 dc : Nat
 r : Nat → Nat
 rc : Nat → Nat
 pr : Nat → Nat → Nat
 pc : Nat → Nat → Nat
def PApart (pr : Nat → Nat → Nat) (n : Nat) : Prop := ∀ c i c' i', c < n → i < 16 → c' < n → i' < 16 → (c ≠ c' ∨ i ≠ i') → pr c i ≠ pr c' i'
def WArr (w : World) (L : Lay) (EV : Value) (ops : Int) (off : Bool) (F : Nat → Nat → Int × Int × Bool) (G : Nat → Nat → Nat → Value) : Prop :=
 w.heap[L.p]? = some (.cells (arrC (.slice (some ⟨L.q, 0, none⟩) 4 L.qc) (.slice (some ⟨L.dq, 0, none⟩) 4 L.dc) EV ops off) 92 (0, 0)) ∧
 (∃ D, w.heap[L.q]? = some (.cells D 93 (0, 0)) ∧ ∀ c, c < 4 → D[c]? = some (.slice (some ⟨L.r c, 0, none⟩) 16 (L.rc c))) ∧
 (∃ D, w.heap[L.dq]? = some (.cells D 4 (0, 0)) ∧ ∀ c, c < 4 → D[c]? = some (.bool false)) ∧
 (∀ c, c < 4 → ∃ C, ChipR w (L.r c) C (L.pr c) (L.pc c) 16 (F c) (G c)) ∧ Apart L.r 4 ∧ PApart L.pr 4
def Lay.New (L : Lay) (B : Nat) : Prop := B ≤ L.p ∧ B ≤ L.q ∧ B ≤ L.dq ∧ ∀ c, c < 4 → B ≤ L.r c ∧ ∀ i, i < 16 → B ≤ L.pr c i
theorem PApart.step {pr : Nat → Nat → Nat} {c : Nat} {p : Nat → Nat} (h : PApart pr c) (h1 : ∀ i k, i < c → k < 16 → ∀ j, j < 16 → pr i k ≠ p j) (h2 : Apart p 16) : PApart (upd pr c p) (c + 1) := by
 intro a i a' i' ha hi ha' hi' hne
 by_cases e : a = c
 ·subst e
  rw [upd_same]
  by_cases e2 : a' = a
  ·subst e2; rw [upd_same]; exact h2 i i' hi hi' (hne.resolve_left (fun h => h rfl))
  ·rw [upd_other _ _ _ _ e2]; exact Ne.symm (h1 a' i' (by omega) hi' i hi)
 ·rw [upd_other _ _ _ _ e]
  by_cases e2 : a' = c
  ·subst e2; rw [upd_same]; exact h1 a i (by omega) hi i' hi'
  ·rw [upd_other _ _ _ _ e2]; exact h a i a' i' (by omega) hi (by omega) hi' hne
def CopyQ (w : World) (off : Bool) (F : Nat → Nat → Int × Int × Bool) (G : Nat → Nat → Nat → Value) (n : Nat) (LV : Value) (evs : List Ev0) (e : Ending) (w' : World) : Prop :=
 ∃ (L : Lay) (E2 : Option Addr) (cE : Nat), e = .returned (.pointer (some ⟨L.p, 0, none⟩)) ∧ Below w.heap.size w w' ∧ WArr w' L (.slice E2 n cE) 0 off F G ∧ L.New w.heap.size ∧ EvR w' E2 n LV evs ∧ (n = 0 → E2 = none ∧ cE = 0) ∧ ∀ x, E2 = some x → w.heap.size ≤ x.block ∧ ∃ D, w'.heap[x.block]? = some (.cells D 59 (0, 0))
theorem mk_cells (t e : TypeId) (z : Value) (sz bytes m : Nat) (ht : Try.prog.underlying t = some (.slice e)) (hinfo : (Try.prog.info? e).map (fun i => (i.zero, i.size, i.bytes)) = some (some z, sz, bytes)) (hb : bytes ≤ 1000) (hm : m ≤ 1000) (W : World) :
  (Instr.makeSlice t (.int .i64 (m : Int)) (.int .i64 (m : Int))).run Try.prog W = .ok (.slice (some ⟨W.heap.size, 0, none⟩) m m) (W.alloc (.cells (madeCells z.cells (m * sz)) e)) := by
 obtain ⟨i0, hi, hzz⟩ := Option.map_eq_some_iff.1 hinfo
 simp only [Prod.mk.injEq] at hzz
 obtain ⟨hz0, hz1, hz2⟩ := hzz
 have hr := run_make (P := Try.prog) W t e i0 z ht hi hz0 .i64 .i64 m m (by omega) (Int.le_refl _) (by
  rw [hz2]
  have h1 : bytes * m ≤ 1000 * 1000 := Nat.mul_le_mul hb hm
  have h2 : ((bytes * m : Nat) : Int) ≤ 1000000 := by omega
  rw [Int.natCast_mul] at h2
  omega) (by omega)
 simp only [Int.toNat_natCast, hz1] at hr
 exact hr
theorem infoSB : (Try.prog.info? 93).map (fun i => (i.zero, i.size, i.bytes)) = some (some (.slice none 0 0), 1, 24) := by kernel_rfl
theorem infoBlk : (Try.prog.info? 96).map (fun i => (i.zero, i.size, i.bytes)) = some (some (.agg #[.slice none 0 0, .int .i64 0, .int .i64 0, .bool false]), 4, 48) := by kernel_rfl
def blk0 : Array Value := madeCells (Value.agg #[.slice none 0 0, .int .i64 0, .int .i64 0, .bool false]).cells (16 * 4)
def pag0 : Array Value := madeCells (Value.agg #[.slice none 0 0, .slice none 0 0]).cells (6 * 2)
theorem blk0_size : blk0.size = 64 := size_madeCells _ _
theorem mk_blocks (W : World) : (Instr.makeSlice 93 (.int .i64 16) (.int .i64 16)).run Try.prog W = .ok (.slice (some ⟨W.heap.size, 0, none⟩) 16 16) (W.alloc (.cells blk0 96)) := mk_cells 93 96 _ 4 48 16 Try.underlying93 infoBlk (by decide) (by decide) W
theorem mk_pages (W : World) : (Instr.makeSlice 94 (.int .i64 6) (.int .i64 6)).run Try.prog W = .ok (.slice (some ⟨W.heap.size, 0, none⟩) 6 6) (W.alloc (.cells pag0 127)) := mk_cells 94 127 _ 2 48 6 Try.underlying94 infoNPage (by decide) (by decide) W
theorem row5 {C : Array Value} (hs : C.size = 64) {k : Nat} (hk : k < 16) (a b c d e : Value) :
  (((((C.setIfInBounds (k * 4) a).setIfInBounds (k * 4 + 1) b).setIfInBounds (k * 4 + 2) c).setIfInBounds (k * 4 + 3) d).setIfInBounds (k * 4) e).size = 64 ∧
  (∀ j, j < 4 * k → (((((C.setIfInBounds (k * 4) a).setIfInBounds (k * 4 + 1) b).setIfInBounds (k * 4 + 2) c).setIfInBounds (k * 4 + 3) d).setIfInBounds (k * 4) e)[j]? = C[j]?) ∧
  (((((C.setIfInBounds (k * 4) a).setIfInBounds (k * 4 + 1) b).setIfInBounds (k * 4 + 2) c).setIfInBounds (k * 4 + 3) d).setIfInBounds (k * 4) e)[k * 4]? = some e ∧
  (((((C.setIfInBounds (k * 4) a).setIfInBounds (k * 4 + 1) b).setIfInBounds (k * 4 + 2) c).setIfInBounds (k * 4 + 3) d).setIfInBounds (k * 4) e)[k * 4 + 1]? = some b ∧
  (((((C.setIfInBounds (k * 4) a).setIfInBounds (k * 4 + 1) b).setIfInBounds (k * 4 + 2) c).setIfInBounds (k * 4 + 3) d).setIfInBounds (k * 4) e)[k * 4 + 2]? = some c ∧
  (((((C.setIfInBounds (k * 4) a).setIfInBounds (k * 4 + 1) b).setIfInBounds (k * 4 + 2) c).setIfInBounds (k * 4 + 3) d).setIfInBounds (k * 4) e)[k * 4 + 3]? = some d ∧
  ((((C.setIfInBounds (k * 4) a).setIfInBounds (k * 4 + 1) b).setIfInBounds (k * 4 + 2) c).setIfInBounds (k * 4 + 3) d)[k * 4]? = some a := by
 have h0 : k * 4 < C.size := by omega
 have h1 : k * 4 + 1 < C.size := by omega
 have h2 : k * 4 + 2 < C.size := by omega
 have h3 : k * 4 + 3 < C.size := by omega
 refine ⟨by simp [hs], fun j hj => ?_, ?_, ?_, ?_, ?_, ?_⟩
 ·have e0 : ¬ k * 4 = j := by omega
  have e1 : ¬ k * 4 + 1 = j := by omega
  have e2 : ¬ k * 4 + 2 = j := by omega
  have e3 : ¬ k * 4 + 3 = j := by omega
  simp [Array.getElem?_setIfInBounds, e0, e1, e2, e3]
 all_goals simp [Array.getElem?_setIfInBounds, h0, h1, h2, h3]
theorem own_sl {w : World} {B n sz : Nat} {e : TypeId} {v : Value} {xs : List Value} (h : w.ownsRow B e sz v n xs) : ∃ A m c, v = .slice A m c := by
 rcases h.2 with ⟨rfl, -⟩ | ⟨g, cap, cur, rfl, -⟩
 ·exact ⟨_, _, _, rfl⟩
 ·exact ⟨_, _, _, rfl⟩
def KeepT (w w' : World) : Prop := w.heap.size ≤ w'.heap.size ∧ ∀ (k : Nat) (D : Array Value) (t : TypeId), w.heap[k]? = some (.cells D t (0, 0)) → t ≠ 92 → t ≠ 93 → w'.heap[k]? = some (.cells D t (0, 0))
theorem KeepT.refl (w : World) : KeepT w w := ⟨Nat.le_refl _, fun _ _ _ h _ _ => h⟩
theorem KeepT.trans {w w1 w2 : World} (h : KeepT w w1) (h' : KeepT w1 w2) : KeepT w w2 := ⟨Nat.le_trans h.1 h'.1, fun k D t hk h1 h2 => h'.2 k D t (h.2 k D t hk h1 h2) h1 h2⟩
theorem KeepT.below {w w' : World} (h : Below w.heap.size w w') : KeepT w w' := ⟨h.size, fun _ _ _ hk _ _ => blk_below hk h⟩
theorem KeepT.grown {w w' : World} {B n : Nat} {l : Value} {xs : List Value} (ho : w.ownsRow B 93 1 l n xs) (hg : w.grownBy w' l.ownBlock) : KeepT w w' :=
 ⟨hg.size, fun k D t hk _ h2 => grown_blk hg hk (own_ne ho hk (Ne.symm h2))⟩
theorem KeepT.set {w w' : World} {gp : Nat} {A : Array Value} (h : KeepT w w') (hg : w'.heap[gp]? = some (.cells A 92 (0, 0))) (i : Nat) (v : Value) : KeepT w (w'.setCell ⟨gp, i, none⟩ v) :=
 ⟨by simpa [World.setCell] using h.1, fun k D t hk h1 h2 => blk_far (h.2 k D t hk h1 h2) (p := ⟨gp, i, none⟩) (blk_ne (h.2 k D t hk h1 h2) hg h1) v⟩
theorem ChipR.keepT {w w' : World} {r : Nat} {C : Array Value} {pr pc : Nat → Nat} {n : Nat} {F : Nat → Int × Int × Bool} {G : Nat → Nat → Value} (h : ChipR w r C pr pc n F G) (k : KeepT w w') : ChipR w' r C pr pc n F G :=
 ⟨k.2 _ _ _ h.1 (by decide) (by decide), h.2.1, fun i hi => by obtain ⟨D, d1, d2⟩ := h.2.2 i hi; exact ⟨D, k.2 _ _ _ d1 (by decide) (by decide), d2⟩⟩
theorem EvR.keepT {w w' : World} {E2 : Option Addr} {n : Nat} {LV : Value} {evs : List Ev0} (h : EvR w E2 n LV evs) (ht : ∀ x, E2 = some x → ∃ D, w.heap[x.block]? = some (.cells D 59 (0, 0))) (k : KeepT w w') : EvR w' E2 n LV evs :=
 ⟨h.1, fun hn => by
  obtain ⟨b, rfl, hc⟩ := h.2 hn
  obtain ⟨D, hD⟩ := ht _ rfl
  have hD' := k.2 _ _ _ hD (by decide) (by decide)
  have hcc : ∀ i, w'.cell? ⟨b, i, none⟩ = w.cell? ⟨b, i, none⟩ := fun i => (blk_cell hD' i).trans (blk_cell hD i).symm
  refine ⟨b, rfl, fun j x hj => ?_⟩
  obtain ⟨c0, c1, c2, c3⟩ := hc j x hj
  exact ⟨(hcc _).trans c0, (hcc _).trans c1, (hcc _).trans c2, (hcc _).trans c3⟩⟩
def CpSt (w : World) (B gp : Nat) (SD SE : Value) (off : Bool) (c : Nat) (r' : Nat → Nat) (pr' pc' : Nat → Nat → Nat) (F : Nat → Nat → Int × Int × Bool) (G : Nat → Nat → Nat → Value) : Prop :=
 ∃ (l : Value) (xs : List Value), w.heap[gp]? = some (.cells #[.int .i64 3, .int .i64 16, .int .i64 6, .int .i64 256, l, SD, SE, .int .i64 0, .bool off] 92 (0, 0)) ∧ w.ownsRow B 93 1 l c xs ∧ (∀ i, i < c → xs[i]? = some (.slice (some ⟨r' i, 0, none⟩) 16 16)) ∧
  (∀ i, i < c → ∃ C, ChipR w (r' i) C (pr' i) (pc' i) 16 (F i) (G i)) ∧ Apart r' c ∧ PApart pr' c ∧ (∀ i, i < c → B ≤ r' i ∧ ∀ k, k < 16 → B ≤ pr' i k)
set_option maxHeartbeats 16000000 in
set_option maxRecDepth 100000 in
theorem copy_any (p q qc dq dc n ec : Nat) (EV : Value) (ops : Int) (off : Bool) (r rc : Nat → Nat) (pr pc : Nat → Nat → Nat) (F : Nat → Nat → Int × Int × Bool) (G : Nat → Nat → Nat → Value) (EA LA : Option Addr) (ln lc : Nat) (evs : List Ev0) (w : World)
  (h : w.heap[p]? = some (.cells (arrC (.slice (some ⟨q, 0, none⟩) 4 qc) (.slice (some ⟨dq, 0, none⟩) 4 dc) EV ops off) 92 (0, 0))) (hq : ∀ c, c < 4 → w.cell? ⟨q, c, none⟩ = some (.slice (some ⟨r c, 0, none⟩) 16 (rc c))) (hd : ∀ c, c < 4 → w.cell? ⟨dq, c, none⟩ = some (.bool false)) (hc : ∀ c, c < 4 → ∃ C, ChipR w (r c) C (pr c) (pc c) 16 (F c) (G c)) (hG : ∀ c i j, c < 4 → i < 16 → j < 12 → (G c i j).oneCell' = true)
  (he : EvR w EA n (.slice LA ln lc) evs) (h0 : n = 0 → EA = none ∧ ec = 0) (hn : n ≤ 1000) :
  Calls Try.prog 20 #[.pointer (some ⟨p, 0, none⟩), .slice EA n ec] w (CopyQ w off F G n (.slice LA ln lc) evs) := by
 have H0 := Lib.hid (And.intro h (And.intro hq (And.intro hd (And.intro hc hG))))
 have HE := Lib.hid (And.intro he (And.intro h0 hn))
 simp only [arrC] at H0
 clear h hq hd hc hG he h0 hn
 go_enter Try.func20, Try.ntmps20
 go_wp2_with fail
 refine start_ (n := 18) (S := fun w' => True) (ds := []) _ (by kernel_rfl) rfl rfl trivial (fun hHeld => ?_)
 refine with_tabW UaR.tab3 UaR.bits3 (fun HT_ HW_ => ?_)
 have HPz := Lib.hid (show w.drew.heap[p]? = _ from H0.out.1)
 have HDz := Lib.hid (show ∀ c, c < 4 → w.drew.cell? ⟨dq, c, none⟩ = some (.bool false) from H0.out.2.2.1)
 have HEz := Lib.hid (show EvR w.drew EA n (.slice LA ln lc) evs ∧ (n = 0 → EA = none ∧ ec = 0) ∧ n ≤ 1000 from ⟨HE.out.1.below (bl_drew (Below.refl _ _)), HE.out.2⟩)
 have DZ := Lib.hid (show Below w.heap.size w w.drew from bl_drew (Below.refl _ _))
 generalize w.drew = wz at HPz HDz HEz DZ hHeld ⊢
 have VB := Lib.hid (Below.refl wz.heap.size wz)
 refine pur_ 0 (some 13) HT_.out rfl rfl (by kernel_rfl) (fun _ _ _ h => h) (by rfl) (fun w' => by go_simp; with_reducible rfl) (by simp only [Act.put, List.setIfInBounds_toArray, List.set_cons_zero, List.set_cons_succ, i64_w, i32_w]; rfl) ?_
 refine pur_ 1 (some 14) HT_.out rfl rfl (by kernel_rfl) (fun _ _ _ h => h) (by rfl) (fun w' => by go_simp; with_reducible rfl) (by simp only [Act.put, List.setIfInBounds_toArray, List.set_cons_zero, List.set_cons_succ, i64_w, i32_w]; rfl) ?_
 refine pur_ 2 (some 15) HT_.out rfl rfl (by kernel_rfl) (fun _ _ _ h => h) (by rfl) (fun w' => by go_simp; with_reducible rfl) (by simp only [Act.put, List.setIfInBounds_toArray, List.set_cons_zero, List.set_cons_succ, i64_w, i32_w]; rfl) ?_
 refine pur_ 4 (some 17) HT_.out rfl rfl (by kernel_rfl) (fun _ _ _ h => h) (by rfl) (fun w' => by go_simp; with_reducible rfl) (by simp only [Act.put, List.setIfInBounds_toArray, List.set_cons_zero, List.set_cons_succ, i64_w, i32_w]; rfl) ?_
 refine pur_ 5 (some 18) HT_.out rfl rfl (by kernel_rfl) (fun _ _ _ h => h) (by rfl) (fun w' => by go_simp; with_reducible rfl) (by simp only [Act.put, List.setIfInBounds_toArray, List.set_cons_zero, List.set_cons_succ, i64_w, i32_w]; rfl) ?_
 refine pur_ 6 (some 19) HT_.out rfl rfl (by kernel_rfl) (fun _ _ _ h => h) (by rfl) (fun w' => by go_simp; with_reducible rfl) (by simp only [Act.put, List.setIfInBounds_toArray, List.set_cons_zero, List.set_cons_succ, i64_w, i32_w]; rfl) ?_
 refine pur_ 9 (some 22) HT_.out rfl rfl (by kernel_rfl) (fun _ _ _ h => h) (by rfl) (fun w' => by go_simp; with_reducible rfl) (by simp only [Act.put, List.setIfInBounds_toArray, List.set_cons_zero, List.set_cons_succ, i64_w, i32_w]; rfl) ?_
 refine pur_ 11 (some 24) HT_.out rfl rfl (by kernel_rfl) (fun _ _ _ h => h) (by rfl) (fun w' => by go_simp; with_reducible rfl) (by simp only [Act.put, List.setIfInBounds_toArray, List.set_cons_zero, List.set_cons_succ, i64_w, i32_w]; rfl) ?_
 refine pur_ 12 (some 25) HT_.out rfl rfl (by kernel_rfl) (fun _ _ _ h => h) (by rfl) (fun w' => by go_simp; with_reducible rfl) (by simp only [Act.put, List.setIfInBounds_toArray, List.set_cons_zero, List.set_cons_succ, i64_w, i32_w]; rfl) ?_
 refine pur_ 13 (some 26) HT_.out rfl rfl (by kernel_rfl) (fun _ _ _ h => h) (by rfl) (fun w' => by go_simp; with_reducible rfl) (by simp only [Act.put, List.setIfInBounds_toArray, List.set_cons_zero, List.set_cons_succ, i64_w, i32_w]; rfl) ?_
 refine inv_at [3, 7, 8, 10, 14, 15, 16, 17] (fun a0_ b a w' => ∃ (gD : Nat) (cD : Nat) (E2 : Option Addr) (cE : Nat) (gp : Nat) (m8_ : Value) (m10_ : Value) (m15_ : Value) (m16_ : Value) (m17_ : Value), a = putSel a0_ b [(3, 16, .agg #[.int .i64 3, .int .i64 16, .int .i64 6, .int .i64 256]), (7, 20, .slice (some ⟨dq, 0, none⟩) 4 dc), (8, 21, m8_), (10, 23, m10_), (14, 27, .bool off), (15, 28, m15_), (16, 29, m16_), (17, 5, m17_)] ∧ (Below wz.heap.size wz w') ∧ (b 8 = true → wz.heap.size ≤ gD ∧ gD < w'.heap.size ∧ 4 ≤ cD ∧ ∃ D, w'.heap[gD]? = some (.cells D 4 (0, 0)) ∧ ∀ c, c < 4 → D[c]? = some (.bool false)) ∧ (b 10 = true → EvR w' E2 n (.slice LA ln lc) evs ∧ (n = 0 → E2 = none ∧ cE = 0) ∧ ∀ x, E2 = some x → wz.heap.size ≤ x.block ∧ ∃ D, w'.heap[x.block]? = some (.cells D 59 (0, 0))) ∧ (b 16 = true → wz.heap.size ≤ gp ∧ w'.heap[gp]? = some (.cells #[.int .i64 3, .int .i64 16, .int .i64 6, .int .i64 256, .slice none 0 0, .slice (some ⟨gD, 0, none⟩) 4 cD, .slice E2 n cE, .int .i64 0, .bool off] 92 (0, 0))) ∧ (b 8 = true → (m8_ : Value) = .slice (some ⟨gD, 0, none⟩) 4 cD) ∧ (b 10 = true → (m10_ : Value) = .slice E2 n cE) ∧ (b 15 = true → (m15_ : Value) = .agg #[.int .i64 3, .int .i64 16, .int .i64 6, .int .i64 256, .slice none 0 0, .slice (some ⟨gD, 0, none⟩) 4 cD, .slice E2 n cE, .int .i64 0, .bool off]) ∧ (b 16 = true → (m16_ : Value) = .pointer (some ⟨gp, 0, none⟩)) ∧ (b 17 = true → (m17_ : Value) = .pointer (some ⟨gp, 0, none⟩))) HT_.out HW_.out (by kernel_rfl) (by kernel_rfl) ?_ ?_ ?_
 ·exact ⟨0, 0, none, 0, 0, .bool false, .bool false, .bool false, .bool false, .bool false, by simp only [putSel, Bool.false_eq_true, if_false], VB.out, fun h_ => absurd h_ (by decide), fun h_ => absurd h_ (by decide), fun h_ => absurd h_ (by decide), fun h_ => absurd h_ (by decide), fun h_ => absurd h_ (by decide), fun h_ => absurd h_ (by decide), fun h_ => absurd h_ (by decide), fun h_ => absurd h_ (by decide)⟩
 ·skip
  clear VB
  refine steps_cons ?_ ?_
  ·rintro b a w' ⟨gD, cD, E2, cE, gp, m8_, m10_, m15_, m16_, m17_, ha, Q_VB, Q_DD, Q_EE, Q_PP, Q_X8_, Q_X10_, Q_X15_, Q_X16_, Q_X17_⟩ hb_ hon hoff
   refine ⟨_, rfl, fun K hK => ?_⟩
   have e15 : a.tmps[15]? = some (.pointer (some ⟨p, 0, none⟩)) := by rw [ha]; exact (putSel_off rfl).trans rfl
   replace ha := Aside0.mk ha
   have VB := Aside0.mk Q_VB
   have hc0_ : w'.cell? ⟨p, 0, none⟩ = some (.int .i64 3) := (blk_cell (blk_below HPz.out VB.out) 0).trans rfl
   have hc1_ : w'.cell? ⟨p, 1, none⟩ = some (.int .i64 16) := (blk_cell (blk_below HPz.out VB.out) 1).trans rfl
   have hc2_ : w'.cell? ⟨p, 2, none⟩ = some (.int .i64 6) := (blk_cell (blk_below HPz.out VB.out) 2).trans rfl
   have hc3_ : w'.cell? ⟨p, 3, none⟩ = some (.int .i64 256) := (blk_cell (blk_below HPz.out VB.out) 3).trans rfl
   refine value_ (w1 := w') (v := .agg #[.int .i64 3, .int .i64 16, .int .i64 6, .int .i64 256]) (by rfl) rfl ?_ ?_
   ·go_simp
    (try simp only [i64_w])
    try rfl
   refine hK.out _ _ ⟨gD, cD, E2, cE, gp, m8_, m10_, m15_, m16_, m17_, (ptup_ ha.out 0 hb_ rfl rfl rfl), Q_VB, Q_DD, Q_EE, off_ (hoff 16 (by kernel_rfl)), Q_X8_, Q_X10_, off_ (hoff 15 (by kernel_rfl)), off_ (hoff 16 (by kernel_rfl)), off_ (hoff 17 (by kernel_rfl))⟩
  refine steps_cons ?_ ?_
  ·rintro b a w' ⟨gD, cD, E2, cE, gp, m8_, m10_, m15_, m16_, m17_, ha, Q_VB, Q_DD, Q_EE, Q_PP, Q_X8_, Q_X10_, Q_X15_, Q_X16_, Q_X17_⟩ hb_ hon hoff
   refine ⟨_, rfl, fun K hK => ?_⟩
   have e19 : a.tmps[19]? = some (.pointer (some ⟨p, 5, none⟩)) := by rw [ha]; exact (putSel_off rfl).trans rfl
   replace ha := Aside0.mk ha
   have VB := Aside0.mk Q_VB
   have hc5_ : w'.cell? ⟨p, 5, none⟩ = some (.slice (some ⟨dq, 0, none⟩) 4 dc) := (blk_cell (blk_below HPz.out VB.out) 5).trans rfl
   refine value_ (w1 := w') (v := .slice (some ⟨dq, 0, none⟩) 4 dc) (by rfl) rfl ?_ ?_
   ·go_simp
    (try simp only [i64_w])
    try rfl
   refine hK.out _ _ ⟨gD, cD, E2, cE, gp, m8_, m10_, m15_, m16_, m17_, (ptup_ ha.out 1 hb_ rfl rfl rfl), Q_VB, off_ (hoff 8 (by kernel_rfl)), off_ (hoff 10 (by kernel_rfl)), off_ (hoff 16 (by kernel_rfl)), off_ (hoff 8 (by kernel_rfl)), off_ (hoff 10 (by kernel_rfl)), off_ (hoff 15 (by kernel_rfl)), off_ (hoff 16 (by kernel_rfl)), off_ (hoff 17 (by kernel_rfl))⟩
  refine steps_cons ?_ ?_
  ·rintro b a w' ⟨gD, cD, E2, cE, gp, m8_, m10_, m15_, m16_, m17_, ha, Q_VB, Q_DD, Q_EE, Q_PP, Q_X8_, Q_X10_, Q_X15_, Q_X16_, Q_X17_⟩ hb_ hon hoff
   refine ⟨_, rfl, fun K hK => ?_⟩
   have e20 : a.tmps[20]? = some (.slice (some ⟨dq, 0, none⟩) 4 dc) := pton_ ha 1 rfl rfl (hon 7 (by kernel_rfl)) rfl
   replace ha := Aside0.mk ha
   have VB := Aside0.mk Q_VB
   obtain ⟨g_, c1_, D_, w1, hr_, hb_1, hg_, hm_, hD_, htk_⟩ := cpN 89 4 _ 1 1 Try.underlying89 infoBool rfl (by decide) (by decide) (w := w') (a := ⟨dq, 0, none⟩) (m := 4) (c := dc) (news := List.replicate 4 (.bool false)) rfl (dead_news (fun c hc => pw_cell_below VB.out (HDz.out c hc))) (by intro u hu; rw [List.eq_of_mem_replicate hu]; rfl) (by decide) (by decide)
   refine app_ (by rfl) rfl rfl rfl (by rfl) (eval_of e20) hr_ ?_
   refine hK.out _ _ ⟨g_, c1_, E2, cE, gp, (.slice (some ⟨g_, 0, none⟩) 4 c1_), m10_, m15_, m16_, m17_, (ptup_ ha.out 2 hb_ rfl rfl rfl), bl_seq VB.out hb_1, fun _ => ⟨Nat.le_trans VB.out.size hg_, blk_lt hD_, hm_, D_, hD_, fun c hc => take_cell htk_ (rep4 hc)⟩, off_ (hoff 10 (by kernel_rfl)), off_ (hoff 16 (by kernel_rfl)), fun _ => rfl, off_ (hoff 10 (by kernel_rfl)), off_ (hoff 15 (by kernel_rfl)), off_ (hoff 16 (by kernel_rfl)), off_ (hoff 17 (by kernel_rfl))⟩
  refine steps_cons ?_ ?_
  ·rintro b a w' ⟨gD, cD, E2, cE, gp, m8_, m10_, m15_, m16_, m17_, ha, Q_VB, Q_DD, Q_EE, Q_PP, Q_X8_, Q_X10_, Q_X15_, Q_X16_, Q_X17_⟩ hb_ hon hoff
   refine ⟨_, rfl, fun K hK => ?_⟩
   have e22 : a.tmps[22]? = some (.slice EA n ec) := by rw [ha]; exact (putSel_off rfl).trans rfl
   replace ha := Aside0.mk ha
   have VB := Aside0.mk Q_VB
   have DD := Aside0.mk (Q_DD (hon 8 (by kernel_rfl)))
   obtain ⟨E_, c1_, w1, hr_, hb_1, he_, hz_, hx_⟩ := cpE (w := w') (HEz.out.1.below VB.out) HEz.out.2.1 HEz.out.2.2
   refine app_ (by rfl) rfl rfl rfl (by rfl) (eval_of e22) hr_ ?_
   refine hK.out _ _ ⟨gD, cD, E_, c1_, gp, m8_, (.slice E_ n c1_), m15_, m16_, m17_, (ptup_ ha.out 3 hb_ rfl rfl rfl), bl_seq VB.out hb_1, fun _ => ⟨DD.out.1, Nat.lt_of_lt_of_le DD.out.2.1 hb_1.size, DD.out.2.2.1, _, blk_below DD.out.2.2.2.choose_spec.1 hb_1, DD.out.2.2.2.choose_spec.2⟩, fun _ => ⟨he_, hz_, fun x hx => ⟨Nat.le_trans VB.out.size (hx_ x hx).1, (hx_ x hx).2⟩⟩, off_ (hoff 16 (by kernel_rfl)), Q_X8_, fun _ => rfl, off_ (hoff 15 (by kernel_rfl)), off_ (hoff 16 (by kernel_rfl)), off_ (hoff 17 (by kernel_rfl))⟩
  refine steps_cons ?_ ?_
  ·rintro b a w' ⟨gD, cD, E2, cE, gp, m8_, m10_, m15_, m16_, m17_, ha, Q_VB, Q_DD, Q_EE, Q_PP, Q_X8_, Q_X10_, Q_X15_, Q_X16_, Q_X17_⟩ hb_ hon hoff
   refine ⟨_, rfl, fun K hK => ?_⟩
   have e26 : a.tmps[26]? = some (.pointer (some ⟨p, 8, none⟩)) := by rw [ha]; exact (putSel_off rfl).trans rfl
   replace ha := Aside0.mk ha
   have VB := Aside0.mk Q_VB
   have hc8_ : w'.cell? ⟨p, 8, none⟩ = some (.bool off) := (blk_cell (blk_below HPz.out VB.out) 8).trans rfl
   refine value_ (w1 := w') (v := .bool off) (by rfl) rfl ?_ ?_
   ·go_simp
    (try simp only [i64_w])
    try rfl
   refine hK.out _ _ ⟨gD, cD, E2, cE, gp, m8_, m10_, m15_, m16_, m17_, (ptup_ ha.out 4 hb_ rfl rfl rfl), Q_VB, Q_DD, Q_EE, off_ (hoff 16 (by kernel_rfl)), Q_X8_, Q_X10_, off_ (hoff 15 (by kernel_rfl)), off_ (hoff 16 (by kernel_rfl)), off_ (hoff 17 (by kernel_rfl))⟩
  refine steps_cons ?_ ?_
  ·rintro b a w' ⟨gD, cD, E2, cE, gp, m8_, m10_, m15_, m16_, m17_, ha, Q_VB, Q_DD, Q_EE, Q_PP, Q_X8_, Q_X10_, Q_X15_, Q_X16_, Q_X17_⟩ hb_ hon hoff
   refine ⟨_, rfl, fun K hK => ?_⟩
   have e16 : a.tmps[16]? = some (.agg #[.int .i64 3, .int .i64 16, .int .i64 6, .int .i64 256]) := pton_ ha 0 rfl rfl (hon 3 (by kernel_rfl)) rfl
   have e21 : a.tmps[21]? = some (m8_) := pton_ ha 2 rfl rfl (hon 8 (by kernel_rfl)) rfl
   rw [Q_X8_ (hon 8 (by kernel_rfl))] at e21
   have e23 : a.tmps[23]? = some (m10_) := pton_ ha 3 rfl rfl (hon 10 (by kernel_rfl)) rfl
   rw [Q_X10_ (hon 10 (by kernel_rfl))] at e23
   have e27 : a.tmps[27]? = some (.bool off) := pton_ ha 4 rfl rfl (hon 14 (by kernel_rfl)) rfl
   replace ha := Aside0.mk ha
   have VB := Aside0.mk Q_VB
   have DD := Aside0.mk (Q_DD (hon 8 (by kernel_rfl)))
   have EE := Aside0.mk (Q_EE (hon 10 (by kernel_rfl)))
   refine value_ (w1 := w') (v := .agg #[.int .i64 3, .int .i64 16, .int .i64 6, .int .i64 256, .slice none 0 0, .slice (some ⟨gD, 0, none⟩) 4 cD, .slice E2 n cE, .int .i64 0, .bool off]) (by rfl) rfl ?_ ?_
   ·go_simp
    (try simp only [i64_w])
    try rfl
   refine hK.out _ _ ⟨gD, cD, E2, cE, gp, m8_, m10_, (.agg #[.int .i64 3, .int .i64 16, .int .i64 6, .int .i64 256, .slice none 0 0, .slice (some ⟨gD, 0, none⟩) 4 cD, .slice E2 n cE, .int .i64 0, .bool off]), m16_, m17_, (ptup_ ha.out 5 hb_ rfl rfl rfl), Q_VB, Q_DD, Q_EE, off_ (hoff 16 (by kernel_rfl)), Q_X8_, Q_X10_, fun _ => rfl, off_ (hoff 16 (by kernel_rfl)), off_ (hoff 17 (by kernel_rfl))⟩
  refine steps_cons ?_ ?_
  ·rintro b a w' ⟨gD, cD, E2, cE, gp, m8_, m10_, m15_, m16_, m17_, ha, Q_VB, Q_DD, Q_EE, Q_PP, Q_X8_, Q_X10_, Q_X15_, Q_X16_, Q_X17_⟩ hb_ hon hoff
   refine ⟨_, rfl, fun K hK => ?_⟩
   have e28 : a.tmps[28]? = some (m15_) := pton_ ha 5 rfl rfl (hon 15 (by kernel_rfl)) rfl
   rw [Q_X15_ (hon 15 (by kernel_rfl))] at e28
   replace ha := Aside0.mk ha
   have VB := Aside0.mk Q_VB
   have DD := Aside0.mk (Q_DD (hon 8 (by kernel_rfl)))
   have EE := Aside0.mk (Q_EE (hon 10 (by kernel_rfl)))
   refine value_ (w1 := w'.alloc (.cells #[.int .i64 3, .int .i64 16, .int .i64 6, .int .i64 256, .slice none 0 0, .slice (some ⟨gD, 0, none⟩) 4 cD, .slice E2 n cE, .int .i64 0, .bool off] 92)) (v := .pointer (some ⟨w'.heap.size, 0, none⟩)) (by rfl) rfl ?_ ?_
   ·go_simp
    try rfl
   refine hK.out _ _ ⟨gD, cD, E2, cE, w'.heap.size, m8_, m10_, m15_, (.pointer (some ⟨w'.heap.size, 0, none⟩)), m17_, (ptup_ ha.out 6 hb_ rfl rfl rfl), bl_alloc VB.out _, fun _ => ⟨DD.out.1, Nat.lt_of_lt_of_le DD.out.2.1 (bl_alloc (Below.refl _ _) _).size, DD.out.2.2.1, _, blk_below DD.out.2.2.2.choose_spec.1 (bl_alloc (Below.refl _ _) _), DD.out.2.2.2.choose_spec.2⟩, fun _ => ⟨EE.out.1.below (bl_alloc (Below.refl _ _) _), EE.out.2.1, fun x hx => ⟨(EE.out.2.2 x hx).1, _, blk_below (EE.out.2.2 x hx).2.choose_spec (bl_alloc (Below.refl _ _) _)⟩⟩, fun _ => ⟨VB.out.size, heap_alloc_new w' _⟩, Q_X8_, Q_X10_, Q_X15_, fun _ => rfl, off_ (hoff 17 (by kernel_rfl))⟩
  refine steps_cons ?_ ?_
  ·rintro b a w' ⟨gD, cD, E2, cE, gp, m8_, m10_, m15_, m16_, m17_, ha, Q_VB, Q_DD, Q_EE, Q_PP, Q_X8_, Q_X10_, Q_X15_, Q_X16_, Q_X17_⟩ hb_ hon hoff
   refine ⟨_, rfl, fun K hK => ?_⟩
   have e29 : a.tmps[29]? = some (m16_) := pton_ ha 6 rfl rfl (hon 16 (by kernel_rfl)) rfl
   rw [Q_X16_ (hon 16 (by kernel_rfl))] at e29
   replace ha := Aside0.mk ha
   have VB := Aside0.mk Q_VB
   have DD := Aside0.mk (Q_DD (hon 8 (by kernel_rfl)))
   have EE := Aside0.mk (Q_EE (hon 10 (by kernel_rfl)))
   have PP := Aside0.mk (Q_PP (hon 16 (by kernel_rfl)))
   refine value_ (w1 := w') (v := .pointer (some ⟨gp, 0, none⟩)) (by rfl) rfl ?_ ?_
   ·go_simp
    (try simp only [i64_w])
    try rfl
   refine hK.out _ _ ⟨gD, cD, E2, cE, gp, m8_, m10_, m15_, m16_, (.pointer (some ⟨gp, 0, none⟩)), (ptup_ ha.out 7 hb_ rfl rfl rfl), Q_VB, Q_DD, Q_EE, Q_PP, Q_X8_, Q_X10_, Q_X15_, Q_X16_, fun _ => rfl⟩
  exact steps_nil
 ·rintro b a w' hall ⟨gD, cD, E2, cE, gp, m8_, m10_, m15_, m16_, m17_, ha, Q_VB, Q_DD, Q_EE, Q_PP, Q_X8_, Q_X10_, Q_X15_, Q_X16_, Q_X17_⟩
  clear VB
  have hb3_ := hall 3 (by kernel_rfl)
  have hb7_ := hall 7 (by kernel_rfl)
  have hb8_ := hall 8 (by kernel_rfl)
  have hb10_ := hall 10 (by kernel_rfl)
  have hb14_ := hall 14 (by kernel_rfl)
  have hb15_ := hall 15 (by kernel_rfl)
  have hb16_ := hall 16 (by kernel_rfl)
  have hb17_ := hall 17 (by kernel_rfl)
  subst ha
  obtain rfl := Q_X8_ hb8_
  obtain rfl := Q_X10_ hb10_
  obtain rfl := Q_X15_ hb15_
  obtain rfl := Q_X16_ hb16_
  obtain rfl := Q_X17_ hb17_
  simp only [putSel, hb3_, hb7_, hb8_, hb10_, hb14_, hb15_, hb16_, hb17_, if_true, Act.put, List.setIfInBounds_toArray, List.set_cons_zero, List.set_cons_succ]
  have VB := Aside0.mk Q_VB
  clear Q_VB
  have DD := Aside0.mk (Q_DD hb8_)
  clear Q_DD
  have EE := Aside0.mk (Q_EE hb10_)
  clear Q_EE
  have PP := Aside0.mk (Q_PP hb16_)
  clear Q_PP
  clear hall hb3_ hb7_ hb8_ hb10_ hb14_ hb15_ hb16_ hb17_
  have HB := Lib.hid (bl_seq DZ.out VB.out)
  have HD := Lib.hid DD.out
  have HEE := Lib.hid EE.out
  have HP := Lib.hid PP.out
  have HZS := Lib.hid DZ.out.size
  have x4 : w'.cell? ⟨p, 4, none⟩ = some (.slice (some ⟨q, 0, none⟩) 4 qc) := (blk_cell (blk_below H0.out.1 HB.out) 4).trans rfl
  clear VB DD EE PP HPz HDz HEz HE
  go_wp2_with fail
  clear x4
  obtain ⟨w3, hw3⟩ : ∃ w3, w' = w3 := ⟨_, rfl⟩
  rw [hw3] at HB HD HEE HP ⊢
  have HWZ := HZS
  clear hw3 HZS
  have HP3 := Lib.hid (And.intro (Nat.le_trans DZ.out.size HP.out.1) HP.out.2)
  clear HP DZ
  go_loopw [35] (fun i wr => ∃ (c : Nat) (r' : Nat → Nat) (pr' pc' : Nat → Nat → Nat), i = .int .i64 (c : Int) ∧ c ≤ 4 ∧ Hid (Below w.heap.size w wr ∧ KeepT w3 wr ∧ CpSt wr w.heap.size gp (.slice (some ⟨gD, 0, none⟩) 4 cD) (.slice E2 n cE) off c r' pr' pc' F G)) (fun i _ => 4 - (intOf i).toNat)
  case atStart => exact ⟨0, id, fun _ => id, fun _ => id, rfl, by decide, Lib.hid ⟨HB.out, KeepT.refl _, _, [], HP3.out.2, own_nil _ _ _ _, fun i hi => absurd hi (Nat.not_lt_zero i), fun i hi => absurd hi (Nat.not_lt_zero i), fun i j hi => absurd hi (Nat.not_lt_zero i), fun i j i' j' hi => absurd hi (Nat.not_lt_zero i), fun i hi => absurd hi (Nat.not_lt_zero i)⟩⟩
  case round =>
   obtain ⟨c, r', pr', pc', rfl, hc4, HI⟩ := hrel
   generalize wr = wO at HI ⊢
   by_cases hlt : c < 4
   ·have hci : (c : Int) < 4 := by omega
    have yq : wO.cell? ⟨q, c, none⟩ = some (.slice (some ⟨r c, 0, none⟩) 16 (rc c)) := pw_cell_below HI.out.1 (H0.out.2.1 c hlt)
    have hmk := mk_blocks
    go_wp2_with fail
    clear yq hmk
    have hb4 := bl_alloc (Below.refl wO.heap.size wO) (.cells blk0 96)
    have hg4 := heap_alloc_new wO (.cells blk0 96)
    have hs4 : (wO.alloc (.cells blk0 96)).heap.size = wO.heap.size + 1 := by simp
    obtain ⟨gm, hgm⟩ : ∃ gm, wO.heap.size = gm := ⟨_, rfl⟩
    have HGM := Lib.hid hgm
    obtain ⟨w4, hw4⟩ : ∃ w4, wO.alloc (.cells blk0 96) = w4 := ⟨_, rfl⟩
    rw [hw4] at hb4 hg4 hs4 ⊢
    rw [hgm] at hg4 hs4
    try rw [hgm]
    have H4 := Lib.hid (And.intro hb4 (And.intro hg4 hs4))
    clear hb4 hg4 hs4 hw4 hgm
    go_loopw [44] (fun i wr => ∃ (k : Nat) (C : Array Value) (prn pcn : Nat → Nat), i = .int .i64 (k : Int) ∧ k ≤ 16 ∧ Hid (C.size = 64 ∧ Below wO.heap.size wO wr ∧ ChipR wr gm C prn pcn k (F c) (G c) ∧ gm < wr.heap.size ∧ (∀ j, j < k → gm < prn j ∧ prn j < wr.heap.size) ∧ Apart prn k)) (fun i _ => 16 - (intOf i).toNat)
    case atStart => exact ⟨0, blk0, id, id, rfl, by decide, Lib.hid ⟨blk0_size, H4.out.1, ⟨H4.out.2.1, fun i hi => absurd hi (Nat.not_lt_zero i), fun i hi => absurd hi (Nat.not_lt_zero i)⟩, by have h_ := H4.out.2.2; omega, fun i hi => absurd hi (Nat.not_lt_zero i), fun i j hi => absurd hi (Nat.not_lt_zero i)⟩⟩
    case round =>
     obtain ⟨k, C, prn, pcn, rfl, hk16, HJ⟩ := hrel
     by_cases hkl : k < 16
     ·have hki : (k : Int) < 16 := by omega
      obtain ⟨Cs, hCs⟩ := H0.out.2.2.2.1 c hlt
      have HBB := Lib.hid (show Below w.heap.size w wr from bl_seq HI.out.1 HJ.out.2.1)
      have hrs := blk_below hCs.1 HBB.out
      have hcs := hCs.2.1 k hkl
      obtain ⟨Ds, hDs⟩ := hCs.2.2 k hkl
      have HDS := Lib.hid (And.intro (blk_below hDs.1 HBB.out) hDs.2)
      have s0 : wr.cell? ⟨r c, k * 4, none⟩ = some (.slice (some ⟨pr c k, 0, none⟩) 6 (pc c k)) := (blk_cell hrs _).trans hcs.1
      have s1 : wr.cell? ⟨r c, k * 4 + 1, none⟩ = some (.int .i64 (F c k).1) := (blk_cell hrs _).trans hcs.2.1
      have s2 : wr.cell? ⟨r c, k * 4 + 2, none⟩ = some (.int .i64 (F c k).2.1) := (blk_cell hrs _).trans hcs.2.2.1
      have s3 : wr.cell? ⟨r c, k * 4 + 3, none⟩ = some (.bool (F c k).2.2) := (blk_cell hrs _).trans hcs.2.2.2
      have hC := HJ.out.2.2.1.1
      have hC0 := fun o => blk_below hC (bl_alloc (Below.refl _ _) o)
      have tgt : ∀ i, i < 64 → ∃ v, C[i]? = some v := fun i hi => ⟨_, Array.getElem?_eq_getElem (by have h_ := HJ.out.1; omega)⟩
      obtain ⟨u0, hu0⟩ := tgt (k * 4) (by omega)
      obtain ⟨u1, hu1⟩ := tgt (k * 4 + 1) (by omega)
      obtain ⟨u2, hu2⟩ := tgt (k * 4 + 2) (by omega)
      obtain ⟨u3, hu3⟩ := tgt (k * 4 + 3) (by omega)
      have d0 : ∀ o, (wr.alloc o).cell? ⟨gm, k * 4, none⟩ = some u0 := fun o => (blk_cell (hC0 o) _).trans hu0
      have d1 : ∀ o, (wr.alloc o).cell? ⟨gm, k * 4 + 1, none⟩ = some u1 := fun o => (blk_cell (hC0 o) _).trans hu1
      have d2 : ∀ o, (wr.alloc o).cell? ⟨gm, k * 4 + 2, none⟩ = some u2 := fun o => (blk_cell (hC0 o) _).trans hu2
      have d3 : ∀ o, (wr.alloc o).cell? ⟨gm, k * 4 + 3, none⟩ = some u3 := fun o => (blk_cell (hC0 o) _).trans hu3
      have df := fun o i => blk_frozen (hC0 o) i
      have hne : ¬ (wr.heap.size = gm) := by have h_ := HJ.out.2.2.2.1; omega
      have HC := Lib.hid (And.intro hC0 tgt)
      clear hrs hcs hDs hC hC0 tgt hCs hu0 hu1 hu2 hu3
      have hge : wO.heap.size ≤ gm := Nat.le_of_eq HGM.out
      have hpn : pr c k ≠ gm := blk_ne HDS.out.1 HJ.out.2.2.1.1 (by decide)
      have HPN := Lib.hid (And.intro hge hpn)
      clear hge hpn
      go_wp2_with (at_builtin; go_loud (refine cp_at rfl (.const (.slice none 0 0)) (.tmp 56) 94 127 _ 2 48 rfl rfl Try.underlying94 infoNPage rfl (by decide) (by decide) rfl (ad := ⟨pr c k, 0, none⟩) (m := 6) (c := pc c k) rfl (news := gl (G c k)) (gl_len _) (fun j u hu => by rw [add_zero_]; obtain ⟨hj, rfl⟩ := gl_at hu; exact (blk_cell (blk_far (blk_far (blk_far (blk_far (blk_below HDS.out.1 (bl_alloc (Below.refl _ _) _)) HPN.out.2 _) HPN.out.2 _) HPN.out.2 _) HPN.out.2 _) j).trans (HDS.out.2.2 j hj)) (fun u hu => by obtain ⟨j_, hu_⟩ := List.getElem?_of_mem hu; obtain ⟨hj, rfl⟩ := gl_at hu_; exact H0.out.2.2.2.2 c k _ hlt hkl hj) (by decide) (by decide) (fun g cg D w5 hb5 hg5 hcg hD5 ht5 => ?_)); go_loud (have hm5 := blk_below (blk_set (blk_set (blk_set (blk_set (HC.out.1 _) _ _) _ _) _ _) _ _) hb5; have HR5 := Lib.hid (row5 HJ.out.1 hkl (.slice (some ⟨pr c k, 0, none⟩) 6 (pc c k)) (.int .i64 (F c k).1) (.int .i64 (F c k).2.1) (.bool (F c k).2.2) (.slice (some ⟨g, 0, none⟩) 6 cg)); obtain ⟨v5, hv5⟩ : ∃ v, w5.cell? ⟨gm, k * 4, none⟩ = some v := ⟨_, (blk_cell hm5 _).trans HR5.out.2.2.2.2.2.2⟩; have f5 := fun i => blk_frozen hm5 i; have hkp : ∀ x, x < wr.heap.size → x ≠ gm → w5.heap[x]? = wr.heap[x]? := fun x hx hn => (hb5.block x (by simp [World.setCell]; omega)).trans (by rw [Below.heap_setCell _ _ _ _ hn, Below.heap_setCell _ _ _ _ hn, Below.heap_setCell _ _ _ _ hn, Below.heap_setCell _ _ _ _ hn]; exact heap_alloc_old _ _ hx); have hB5 : Below wO.heap.size wO w5 := bl_seq (bl_set (bl_set (bl_set (bl_set (bl_alloc HJ.out.2.1 _) HPN.out.1 _) HPN.out.1 _) HPN.out.1 _) HPN.out.1 _) hb5; have hsz5 : wr.heap.size < g := Nat.lt_of_lt_of_le (by simp [World.setCell]) hg5; have HW5 := Lib.hid (And.intro hm5 (And.intro hkp (And.intro hB5 (And.intro hsz5 (And.intro hD5 ht5))))); clear hb5 hg5 hcg hD5 ht5 hm5 hkp hB5 hsz5))
      clear s0 s1 s2 s3 d0 d1 d2 d3 df hne hv5 f5
      go_roundw
      case rel =>
       have hg9 := HW5.out.2.2.2.1
       have hl5 := blk_lt HW5.out.2.2.2.2.1
       have hgl := HJ.out.2.2.2.1
       have hgg : g ≠ gm := by omega
       refine ⟨k + 1, _, upd prn k g, upd pcn k cg, by go_num, by omega, Lib.hid ⟨HR5.out.1, bl_set HW5.out.2.2.1 HPN.out.1 _, HJ.out.2.2.1.step (C' := _) (blk_set HW5.out.1 (k * 4) _) (fun i hi => ?_) HR5.out.2.1 HR5.out.2.2.1 HR5.out.2.2.2.1 HR5.out.2.2.2.2.1 HR5.out.2.2.2.2.2.1 (blk_far HW5.out.2.2.2.2.1 hgg _) ?_ (fun j hj => take_cell HW5.out.2.2.2.2.2 (gl_get _ hj)), ?_, ?_, HJ.out.2.2.2.2.2.step (fun i hi => ?_)⟩⟩
       ·have hp := HJ.out.2.2.2.2.1 i hi
        rw [Below.heap_setCell _ _ _ _ (show prn i ≠ (⟨gm, k * 4, none⟩ : Addr).block from by simp only; omega)]
        exact HW5.out.2.1 _ hp.2 (by omega)
       ·have h_ := congrArg List.length HW5.out.2.2.2.2.2
        rw [gl_len, List.length_take] at h_
        simp only [Array.length_toList] at h_
        omega
       ·simp only [World.setCell, Array.size_modify]; omega
       ·intro j hj
        simp only [World.setCell, Array.size_modify]
        by_cases e : j = k
        ·subst e; rw [upd_same]; omega
        ·rw [upd_other _ _ _ _ e]; have := HJ.out.2.2.2.2.1 j (by omega); omega
       ·have := HJ.out.2.2.2.2.1 i hi; omega
      case measure => simp [intOf]; omega
     ·obtain rfl : k = 16 := by omega
      obtain ⟨l, xs, p1, p2, p3, p4, p5, p6, p7⟩ := HI.out.2.2
      have hxl : xs.length = c := by have h_ := p2.1; omega
      have q1 := blk_below p1 HJ.out.2.1
      have q2 : wr.ownsRow w.heap.size 93 1 l xs.length xs := by
       rw [hxl]
       exact own_mods (S := fun _ => False) p2 (Mods.of_below HJ.out.2.1) (fun _ _ h => h)
      have x4 : wr.cell? ⟨gp, 4, none⟩ = some l := (blk_cell q1 4).trans rfl
      have HBB := Lib.hid (show Below w.heap.size w wr from bl_seq HI.out.1 HJ.out.2.1)
      have HQ := Lib.hid (And.intro q1 q2)
      have HX := Lib.hid hxl
      have HPP := Lib.hid (And.intro p1 (And.intro p3 (And.intro p4 (And.intro p5 (And.intro p6 p7)))))
      clear p1 p2 p3 p4 p5 p6 p7 q1 q2 hxl
      go_wp2_with (at_builtin; go_loud (refine print_append (w0 := w) w.heap.size rfl (.tmp 65) (.tmp 67) 90 93 (.slice none 0 0) 24 rfl Try.underlying90 infoSB rfl (by decide) l xs (.slice (some ⟨gm, 0, none⟩) 16 16) rfl rfl rfl HQ.out.2 HBB.out HBB.out.size (by have h_ := HX.out; omega) ?_); intro l2 w6 ho6 hb6 hg6 hat6; go_loud (obtain ⟨A9, n9, c9, rfl⟩ := own_sl ho6; have q6 := grown_blk hg6 HQ.out.1 (own_ne HQ.out.2 HQ.out.1 (by decide)); have y4 : w6.cell? ⟨gp, 4, none⟩ = some l := (blk_cell q6 4).trans rfl; have yf := fun i => blk_frozen q6 i; have H6 := Lib.hid (And.intro ho6 (And.intro hb6 (And.intro hg6 q6))); clear ho6 hb6 hg6 hat6 q6))
      clear x4 y4 yf
      have hK := (((KeepT.below HJ.out.2.1).trans (KeepT.grown HQ.out.2 H6.out.2.2.1)).set H6.out.2.2.2 4 (.slice A9 n9 c9))
      have hK1 := ((KeepT.grown HQ.out.2 H6.out.2.2.1).set H6.out.2.2.2 4 (.slice A9 n9 c9))
      go_roundw
      case rel =>
       refine ⟨c + 1, upd r' c gm, upd pr' c prn, upd pc' c pcn, by go_num, by omega, Lib.hid ⟨bl_set H6.out.2.1 (p := ⟨gp, 4, none⟩) HP3.out.1 _, HI.out.2.1.trans hK, .slice A9 n9 c9, xs ++ [.slice (some ⟨gm, 0, none⟩) 16 16], blk_put H6.out.2.2.2 4 (.slice A9 n9 c9) (by simp), ?_, ?_, ?_, ?_, ?_, ?_⟩⟩
       ·have ho := own_setCell H6.out.1 (p := ⟨gp, 4, none⟩) (own_ne H6.out.1 H6.out.2.2.2 (by decide)) (.slice A9 n9 c9)
        rw [show (xs ++ [Value.slice (some ⟨gm, 0, none⟩) 16 16]).length = c + 1 by simp [HX.out]] at ho
        exact ho
       ·intro i hi
        by_cases e : i = c
        ·subst e; rw [upd_same, List.getElem?_append_right (by have h_ := HX.out; omega)]; have h_ := HX.out; simp [h_]
        ·rw [upd_other _ _ _ _ e, List.getElem?_append_left (by have h_ := HX.out; omega)]; exact HPP.out.2.1 i (by omega)
       ·intro i hi
        by_cases e : i = c
        ·subst e; rw [upd_same, upd_same, upd_same]; exact ⟨C, HJ.out.2.2.1.keepT hK1⟩
        ·rw [upd_other _ _ _ _ e, upd_other _ _ _ _ e, upd_other _ _ _ _ e]; obtain ⟨C', hC'⟩ := HPP.out.2.2.1 i (by omega); exact ⟨C', hC'.keepT hK⟩
       ·exact HPP.out.2.2.2.1.step (fun i hi => by obtain ⟨C', hC'⟩ := HPP.out.2.2.1 i hi; have h_ := blk_lt hC'.1; have h2_ := HGM.out; omega)
       ·refine HPP.out.2.2.2.2.1.step (fun i k hi hk j hj e => ?_) HJ.out.2.2.2.2.2
        obtain ⟨C', hC'⟩ := HPP.out.2.2.1 i hi
        obtain ⟨D', hD'⟩ := hC'.2.2 k hk
        have h_ := blk_lt hD'.1
        have h2_ := HGM.out
        have h3_ := HJ.out.2.2.2.2.1 j hj
        omega
       ·intro i hi
        by_cases e : i = c
        ·subst e; rw [upd_same, upd_same]
         have h2_ := HGM.out
         have h4_ := HI.out.1.size
         exact ⟨by omega, fun k hk => by have h3_ := HJ.out.2.2.2.2.1 k hk; omega⟩
        ·rw [upd_other _ _ _ _ e, upd_other _ _ _ _ e]; exact HPP.out.2.2.2.2.2 i (by omega)
      case measure => simp [intOf]; omega
   ·obtain rfl : c = 4 := by omega
    go_wp2_with fail
    go_ret
    obtain ⟨l, xs, p1, p2, p3, p4, p5, p6, p7⟩ := HI.out.2.2
    rcases p2.2 with ⟨-, h0_⟩ | ⟨q', qc', cur, rfl, hq', hh, hc', hm', hs', ht'⟩
    ·omega
    ·obtain ⟨DD, hDD⟩ := HD.out.2.2.2
     have hz := HB.out.size
     exact ⟨⟨gp, q', qc', gD, cD, r', fun _ => 16, pr', pc'⟩, E2, cE, rfl, HI.out.1, ⟨p1, ⟨cur, hh, fun i hi => take_cell ht' (p3 i hi)⟩, ⟨DD, HI.out.2.1.2 _ _ _ hDD.1 (by decide) (by decide), hDD.2⟩, p4, p5, p6⟩, ⟨HP3.out.1, hq', Nat.le_trans HWZ.out HD.out.1, p7⟩, HEE.out.1.keepT (fun x hx => (HEE.out.2.2 x hx).2) HI.out.2.1, HEE.out.2.1, fun x hx => ⟨Nat.le_trans HWZ.out (HEE.out.2.2 x hx).1, by obtain ⟨D', hD'⟩ := (HEE.out.2.2 x hx).2; exact ⟨D', HI.out.2.1.2 _ _ _ hD' (by decide) (by decide)⟩⟩⟩
end Go.Proofs.Ytffalemndjampaa
end
section
set_option linter.unusedVariables false
set_option linter.unusedSimpArgs false
namespace Go.Proofs.Ytffalemndjampaa
open Go.RowKit Go.Proofs.YtffalemndjampaaW.PrintWords Go.Proofs.YtffalemndjampaaW.PrintLast
def dead0 : Array Value := madeCells (Value.bool false).cells (4 * 1)
theorem mk_dead (W : World) : (Instr.makeSlice 89 (.int .i64 4) (.int .i64 4)).run Try.prog W = .ok (.slice (some ⟨W.heap.size, 0, none⟩) 4 4) (W.alloc (.cells dead0 4)) := mk_cells 89 4 _ 1 1 4 Try.underlying89 infoBool (by decide) (by decide) W
theorem app_nil (w : World) : (Builtin.append_ #[60, 60] 60 #[.slice none 0 0, .slice none 0 0]).run Try.prog w = .ok (.slice none 0 0) w := by
 obtain ⟨i0, hi, hzz⟩ := Option.map_eq_some_iff.1 infoEv
 simp [Builtin.append_, run_underlying Try.underlying60, sizeOf, typeInfo, hi, Builtin.lenOf, Builtin.firstCells, loadCells, loadCellsFrom]
theorem made_at (z : Array Value) (n j : Nat) (v : Value) (h : j < n) (hz : z[j % z.size]? = some v) : (madeCells z n)[j]? = some v := by
 simp only [madeCells, Array.getElem?_map, Array.getElem?_range, h, if_true, Option.map_some]
 rw [getElem!_def, hz]
theorem dead0_at (c : Nat) (h : c < 4) : dead0[c]? = some (.bool false) := by
 refine made_at _ _ _ _ (by omega) ?_
 rw [show c % (Value.bool false).cells.size = 0 by show c % 1 = 0; omega]; rfl
def Zero4 (C : Array Value) : Prop := ∀ i, i < 16 → C[i * 4 + 1]? = some (.int .i64 0) ∧ C[i * 4 + 2]? = some (.int .i64 0) ∧ C[i * 4 + 3]? = some (.bool false)
theorem blk0_zero : Zero4 blk0 := fun i hi => by
 refine ⟨made_at _ _ _ _ (by omega) ?_, made_at _ _ _ _ (by omega) ?_, made_at _ _ _ _ (by omega) ?_⟩
 ·rw [show (i * 4 + 1) % (Value.agg #[.slice none 0 0, .int .i64 0, .int .i64 0, .bool false]).cells.size = 1 by show (i * 4 + 1) % 4 = 1; omega]; rfl
 ·rw [show (i * 4 + 2) % (Value.agg #[.slice none 0 0, .int .i64 0, .int .i64 0, .bool false]).cells.size = 2 by show (i * 4 + 2) % 4 = 2; omega]; rfl
 ·rw [show (i * 4 + 3) % (Value.agg #[.slice none 0 0, .int .i64 0, .int .i64 0, .bool false]).cells.size = 3 by show (i * 4 + 3) % 4 = 3; omega]; rfl
theorem pag0_at (j : Nat) (h : j < 12) : pag0[j]? = some (.slice none 0 0) := by
 refine made_at _ _ _ _ (by omega) ?_
 have e : j % (Value.agg #[.slice none 0 0, .slice none 0 0]).cells.size = 0 ∨ j % (Value.agg #[.slice none 0 0, .slice none 0 0]).cells.size = 1 := by show j % 2 = 0 ∨ j % 2 = 1; omega
 rcases e with e | e <;> rw [e] <;> rfl
theorem row1 {C : Array Value} (hs : C.size = 64) {k : Nat} (hk : k < 16) (v : Value) (hz : Zero4 C) :
  (C.setIfInBounds (k * 4) v).size = 64 ∧ (∀ j, j < 4 * k → (C.setIfInBounds (k * 4) v)[j]? = C[j]?) ∧ (C.setIfInBounds (k * 4) v)[k * 4]? = some v ∧ Zero4 (C.setIfInBounds (k * 4) v) := by
 have h0 : k * 4 < C.size := by omega
 refine ⟨by simp [hs], fun j hj => ?_, ?_, fun i hi => ?_⟩
 ·have e0 : ¬ k * 4 = j := by omega
  simp [Array.getElem?_setIfInBounds, e0]
 ·simp [Array.getElem?_setIfInBounds, h0]
 ·have e1 : ¬ k * 4 = i * 4 + 1 := by omega
  have e2 : ¬ k * 4 = i * 4 + 2 := by omega
  have e3 : ¬ k * 4 = i * 4 + 3 := by omega
  have h_ := hz i hi
  simp [Array.getElem?_setIfInBounds, e1, e2, e3, h_.1, h_.2.1, h_.2.2]
def UbR.T6 : Bool × List (List Nat × List Nat) := (true, [([], []), ([], []), ([1], [1]), ([2], [2]), ([3, 3], [3]), ([], []), ([5], [5]), ([0, 4, 6], [0, 4, 6]), ([7], [7]), ([8, 6, 0, 1, 2, 3, 4, 5, 6, 7, 8], [8])])
def UbR.B6 : List Nat := [0, 0, 2, 6, 14, 0, 32, 127, 255, 511]
theorem UbR.tab6 : rtab .any (opsOf Try.f16 6) = UbR.T6 := by kernel_rfl
theorem UbR.bits6 : waitsOk UbR.T6.2 UbR.B6 = true := by kernel_rfl
def F0 : Nat → Nat → Int × Int × Bool := fun _ _ => (0, 0, false)
def G0 : Nat → Nat → Nat → Value := fun _ _ _ => .slice none 0 0
def NewQ (w : World) (e : Ending) (w' : World) : Prop :=
 ∃ L : Lay, e = .returned (.tuple #[.pointer (some ⟨L.p, 0, none⟩), .int .i64 0]) ∧ Below w.heap.size w w' ∧ WArr w' L (.slice none 0 0) 0 false F0 G0 ∧ L.New w.heap.size
set_option maxHeartbeats 16000000 in
set_option maxRecDepth 100000 in
theorem new_any (w : World) : Calls Try.prog 16 #[.agg #[.int .i64 3, .int .i64 16, .int .i64 6, .int .i64 256], .slice none 0 0, .slice none 0 0] w (NewQ w) := by
 have hg1 := heap_alloc_new w (.cells #[.int .i64 3, .int .i64 16, .int .i64 6, .int .i64 256] 50)
 have hb1 := bl_alloc (Below.refl w.heap.size w) (.cells #[.int .i64 3, .int .i64 16, .int .i64 6, .int .i64 256] 50)
 have x0 : (w.alloc (.cells #[.int .i64 3, .int .i64 16, .int .i64 6, .int .i64 256] 50)).cell? ⟨w.heap.size, 0, none⟩ = some (.int .i64 3) := (blk_cell hg1 0).trans rfl
 have x1 : (w.alloc (.cells #[.int .i64 3, .int .i64 16, .int .i64 6, .int .i64 256] 50)).cell? ⟨w.heap.size, 1, none⟩ = some (.int .i64 16) := (blk_cell hg1 1).trans rfl
 have x2 : (w.alloc (.cells #[.int .i64 3, .int .i64 16, .int .i64 6, .int .i64 256] 50)).cell? ⟨w.heap.size, 2, none⟩ = some (.int .i64 6) := (blk_cell hg1 2).trans rfl
 have x3 : (w.alloc (.cells #[.int .i64 3, .int .i64 16, .int .i64 6, .int .i64 256] 50)).cell? ⟨w.heap.size, 3, none⟩ = some (.int .i64 256) := (blk_cell hg1 3).trans rfl
 have HB0 := Lib.hid hb1
 have HG0 := Lib.hid hg1
 clear hg1 hb1
 go_enter Try.func16, Try.ntmps16
 go_wp2_with fail
 clear x0 x1 x2 x3
 obtain ⟨w0, hw0⟩ : ∃ w0, w.alloc (.cells #[.int .i64 3, .int .i64 16, .int .i64 6, .int .i64 256] 50) = w0 := ⟨_, rfl⟩
 rw [hw0] at HB0 HG0 ⊢
 obtain ⟨g3, hg3⟩ : ∃ g3, w.heap.size = g3 := ⟨_, rfl⟩
 have H3 := Lib.hid hg3
 rw [hg3] at HG0
 try rw [hg3]
 clear hw0 hg3
 refine (gcheck_any w0).mono ?_
 rintro e w1 ⟨rfl, hb1⟩
 have HB1 := Lib.hid (bl_seq HB0.out hb1)
 have HG1 := Lib.hid (blk_below HG0.out hb1)
 clear hb1 HB0 HG0
 go_wp2_with fail
 refine start_ (n := 10) (S := fun w' => True) (ds := []) _ (by kernel_rfl) rfl rfl trivial (fun hHeld => ?_)
 refine with_tabW UbR.tab6 UbR.bits6 (fun HT_ HW_ => ?_)
 have HPz := Lib.hid (show w1.drew.heap[g3]? = _ from HG1.out)
 have DZ := Lib.hid (show Below w1.heap.size w1 w1.drew from bl_drew (Below.refl _ _))
 generalize w1.drew = wz at HPz DZ hHeld ⊢
 have VB := Lib.hid (Below.refl wz.heap.size wz)
 refine pur_ 1 (some 23) HT_.out rfl rfl (by kernel_rfl) (fun _ _ _ h => h) (by rfl) (fun w' => by go_simp; with_reducible rfl) (by simp only [Act.put, List.setIfInBounds_toArray, List.set_cons_zero, List.set_cons_succ, i64_w, i32_w]; rfl) ?_
 refine pur_ 5 (some 27) HT_.out rfl rfl (by kernel_rfl) (fun _ _ _ h => h) (by rfl) (fun w' => by go_simp; with_reducible rfl) (by simp only [Act.put, List.setIfInBounds_toArray, List.set_cons_zero, List.set_cons_succ, i64_w, i32_w]; rfl) ?_
 refine inv_at [0, 2, 3, 4, 6, 7, 8, 9] (fun a0_ b a w' => ∃ (gD : Nat) (gp : Nat) (m4_ : Value) (m7_ : Value) (m8_ : Value) (m9_ : Value), a = putSel a0_ b [(0, 22, .agg #[.int .i64 3, .int .i64 16, .int .i64 6, .int .i64 256]), (2, 24, .int .i64 3), (3, 25, .int .i64 4), (4, 26, m4_), (6, 28, .slice none 0 0), (7, 29, m7_), (8, 30, m8_), (9, 9, m9_)] ∧ (Below wz.heap.size wz w') ∧ (b 4 = true → wz.heap.size ≤ gD ∧ w'.heap[gD]? = some (.cells dead0 4 (0, 0))) ∧ (b 8 = true → wz.heap.size ≤ gp ∧ w'.heap[gp]? = some (.cells #[.int .i64 3, .int .i64 16, .int .i64 6, .int .i64 256, .slice none 0 0, .slice (some ⟨gD, 0, none⟩) 4 4, .slice none 0 0, .int .i64 0, .bool false] 92 (0, 0))) ∧ (b 4 = true → (m4_ : Value) = .slice (some ⟨gD, 0, none⟩) 4 4) ∧ (b 7 = true → (m7_ : Value) = .agg #[.int .i64 3, .int .i64 16, .int .i64 6, .int .i64 256, .slice none 0 0, .slice (some ⟨gD, 0, none⟩) 4 4, .slice none 0 0, .int .i64 0, .bool false]) ∧ (b 8 = true → (m8_ : Value) = .pointer (some ⟨gp, 0, none⟩)) ∧ (b 9 = true → (m9_ : Value) = .pointer (some ⟨gp, 0, none⟩))) HT_.out HW_.out (by kernel_rfl) (by kernel_rfl) ?_ ?_ ?_
 ·exact ⟨0, 0, .bool false, .bool false, .bool false, .bool false, by simp only [putSel, Bool.false_eq_true, if_false], VB.out, fun h_ => absurd h_ (by decide), fun h_ => absurd h_ (by decide), fun h_ => absurd h_ (by decide), fun h_ => absurd h_ (by decide), fun h_ => absurd h_ (by decide), fun h_ => absurd h_ (by decide)⟩
 ·skip
  clear VB
  refine steps_cons ?_ ?_
  ·rintro b a w' ⟨gD, gp, m4_, m7_, m8_, m9_, ha, Q_VB, Q_DD, Q_PP, Q_X4_, Q_X7_, Q_X8_, Q_X9_⟩ hb_ hon hoff
   refine ⟨_, rfl, fun K hK => ?_⟩
   have e3 : a.tmps[3]? = some (.pointer (some ⟨g3, 0, none⟩)) := by rw [ha]; exact (putSel_off rfl).trans rfl
   replace ha := Aside0.mk ha
   have VB := Aside0.mk Q_VB
   have hc0_ : w'.cell? ⟨g3, 0, none⟩ = some (.int .i64 3) := (blk_cell (blk_below HPz.out VB.out) 0).trans rfl
   have hc1_ : w'.cell? ⟨g3, 1, none⟩ = some (.int .i64 16) := (blk_cell (blk_below HPz.out VB.out) 1).trans rfl
   have hc2_ : w'.cell? ⟨g3, 2, none⟩ = some (.int .i64 6) := (blk_cell (blk_below HPz.out VB.out) 2).trans rfl
   have hc3_ : w'.cell? ⟨g3, 3, none⟩ = some (.int .i64 256) := (blk_cell (blk_below HPz.out VB.out) 3).trans rfl
   refine value_ (w1 := w') (v := .agg #[.int .i64 3, .int .i64 16, .int .i64 6, .int .i64 256]) (by rfl) rfl ?_ ?_
   ·go_simp
    (try simp only [i64_w])
    try rfl
   refine hK.out _ _ ⟨gD, gp, m4_, m7_, m8_, m9_, (ptup_ ha.out 0 hb_ rfl rfl rfl), Q_VB, Q_DD, off_ (hoff 8 (by kernel_rfl)), Q_X4_, off_ (hoff 7 (by kernel_rfl)), off_ (hoff 8 (by kernel_rfl)), off_ (hoff 9 (by kernel_rfl))⟩
  refine steps_cons ?_ ?_
  ·rintro b a w' ⟨gD, gp, m4_, m7_, m8_, m9_, ha, Q_VB, Q_DD, Q_PP, Q_X4_, Q_X7_, Q_X8_, Q_X9_⟩ hb_ hon hoff
   refine ⟨_, rfl, fun K hK => ?_⟩
   have e23 : a.tmps[23]? = some (.pointer (some ⟨g3, 0, none⟩)) := by rw [ha]; exact (putSel_off rfl).trans rfl
   replace ha := Aside0.mk ha
   have VB := Aside0.mk Q_VB
   have hc0_ : w'.cell? ⟨g3, 0, none⟩ = some (.int .i64 3) := (blk_cell (blk_below HPz.out VB.out) 0).trans rfl
   refine value_ (w1 := w') (v := .int .i64 3) (by rfl) rfl ?_ ?_
   ·go_simp
    (try simp only [i64_w])
    try rfl
   refine hK.out _ _ ⟨gD, gp, m4_, m7_, m8_, m9_, (ptup_ ha.out 1 hb_ rfl rfl rfl), Q_VB, off_ (hoff 4 (by kernel_rfl)), off_ (hoff 8 (by kernel_rfl)), off_ (hoff 4 (by kernel_rfl)), off_ (hoff 7 (by kernel_rfl)), off_ (hoff 8 (by kernel_rfl)), off_ (hoff 9 (by kernel_rfl))⟩
  refine steps_cons ?_ ?_
  ·rintro b a w' ⟨gD, gp, m4_, m7_, m8_, m9_, ha, Q_VB, Q_DD, Q_PP, Q_X4_, Q_X7_, Q_X8_, Q_X9_⟩ hb_ hon hoff
   refine ⟨_, rfl, fun K hK => ?_⟩
   have e24 : a.tmps[24]? = some (.int .i64 3) := pton_ ha 1 rfl rfl (hon 2 (by kernel_rfl)) rfl
   replace ha := Aside0.mk ha
   have VB := Aside0.mk Q_VB
   refine value_ (w1 := w') (v := .int .i64 4) (by rfl) rfl ?_ ?_
   ·go_simp
    first | done | rfl | decide | (simp [wrap64]; done) | (unfold wrap64; decide)
   refine hK.out _ _ ⟨gD, gp, m4_, m7_, m8_, m9_, (ptup_ ha.out 2 hb_ rfl rfl rfl), VB.out, off_ (hoff 4 (by kernel_rfl)), off_ (hoff 8 (by kernel_rfl)), off_ (hoff 4 (by kernel_rfl)), off_ (hoff 7 (by kernel_rfl)), off_ (hoff 8 (by kernel_rfl)), off_ (hoff 9 (by kernel_rfl))⟩
  refine steps_cons ?_ ?_
  ·rintro b a w' ⟨gD, gp, m4_, m7_, m8_, m9_, ha, Q_VB, Q_DD, Q_PP, Q_X4_, Q_X7_, Q_X8_, Q_X9_⟩ hb_ hon hoff
   refine ⟨_, rfl, fun K hK => ?_⟩
   have e25 : a.tmps[25]? = some (.int .i64 4) := pton_ ha 2 rfl rfl (hon 3 (by kernel_rfl)) rfl
   replace ha := Aside0.mk ha
   have VB := Aside0.mk Q_VB
   have hmk_ := mk_dead w'
   refine value_ (w1 := w'.alloc (.cells dead0 4)) (v := .slice (some ⟨w'.heap.size, 0, none⟩) 4 4) (by rfl) rfl ?_ ?_
   ·go_simp
    first | done | rfl | (rw [hmk_]; rfl) | (simp only [hmk_]; rfl)
   refine hK.out _ _ ⟨w'.heap.size, gp, (.slice (some ⟨w'.heap.size, 0, none⟩) 4 4), m7_, m8_, m9_, (ptup_ ha.out 3 hb_ rfl rfl rfl), bl_alloc VB.out _, fun _ => ⟨VB.out.size, heap_alloc_new w' _⟩, off_ (hoff 8 (by kernel_rfl)), fun _ => rfl, off_ (hoff 7 (by kernel_rfl)), off_ (hoff 8 (by kernel_rfl)), off_ (hoff 9 (by kernel_rfl))⟩
  refine steps_cons ?_ ?_
  ·rintro b a w' ⟨gD, gp, m4_, m7_, m8_, m9_, ha, Q_VB, Q_DD, Q_PP, Q_X4_, Q_X7_, Q_X8_, Q_X9_⟩ hb_ hon hoff
   refine ⟨_, rfl, fun K hK => ?_⟩
   have e27 : a.tmps[27]? = some (.slice none 0 0) := by rw [ha]; exact (putSel_off rfl).trans rfl
   replace ha := Aside0.mk ha
   have VB := Aside0.mk Q_VB
   refine app_ (by rfl) rfl rfl rfl (by rfl) (eval_of e27) (app_nil w') ?_
   refine hK.out _ _ ⟨gD, gp, m4_, m7_, m8_, m9_, (ptup_ ha.out 4 hb_ rfl rfl rfl), VB.out, fun h0_ => (Q_DD h0_), off_ (hoff 8 (by kernel_rfl)), Q_X4_, off_ (hoff 7 (by kernel_rfl)), off_ (hoff 8 (by kernel_rfl)), off_ (hoff 9 (by kernel_rfl))⟩
  refine steps_cons ?_ ?_
  ·rintro b a w' ⟨gD, gp, m4_, m7_, m8_, m9_, ha, Q_VB, Q_DD, Q_PP, Q_X4_, Q_X7_, Q_X8_, Q_X9_⟩ hb_ hon hoff
   refine ⟨_, rfl, fun K hK => ?_⟩
   have e22 : a.tmps[22]? = some (.agg #[.int .i64 3, .int .i64 16, .int .i64 6, .int .i64 256]) := pton_ ha 0 rfl rfl (hon 0 (by kernel_rfl)) rfl
   have e26 : a.tmps[26]? = some (m4_) := pton_ ha 3 rfl rfl (hon 4 (by kernel_rfl)) rfl
   rw [Q_X4_ (hon 4 (by kernel_rfl))] at e26
   have e28 : a.tmps[28]? = some (.slice none 0 0) := pton_ ha 4 rfl rfl (hon 6 (by kernel_rfl)) rfl
   replace ha := Aside0.mk ha
   have VB := Aside0.mk Q_VB
   have DD := Aside0.mk (Q_DD (hon 4 (by kernel_rfl)))
   refine value_ (w1 := w') (v := .agg #[.int .i64 3, .int .i64 16, .int .i64 6, .int .i64 256, .slice none 0 0, .slice (some ⟨gD, 0, none⟩) 4 4, .slice none 0 0, .int .i64 0, .bool false]) (by rfl) rfl ?_ ?_
   ·go_simp
    (try simp only [i64_w])
    try rfl
   refine hK.out _ _ ⟨gD, gp, m4_, (.agg #[.int .i64 3, .int .i64 16, .int .i64 6, .int .i64 256, .slice none 0 0, .slice (some ⟨gD, 0, none⟩) 4 4, .slice none 0 0, .int .i64 0, .bool false]), m8_, m9_, (ptup_ ha.out 5 hb_ rfl rfl rfl), Q_VB, Q_DD, off_ (hoff 8 (by kernel_rfl)), Q_X4_, fun _ => rfl, off_ (hoff 8 (by kernel_rfl)), off_ (hoff 9 (by kernel_rfl))⟩
  refine steps_cons ?_ ?_
  ·rintro b a w' ⟨gD, gp, m4_, m7_, m8_, m9_, ha, Q_VB, Q_DD, Q_PP, Q_X4_, Q_X7_, Q_X8_, Q_X9_⟩ hb_ hon hoff
   refine ⟨_, rfl, fun K hK => ?_⟩
   have e29 : a.tmps[29]? = some (m7_) := pton_ ha 5 rfl rfl (hon 7 (by kernel_rfl)) rfl
   rw [Q_X7_ (hon 7 (by kernel_rfl))] at e29
   replace ha := Aside0.mk ha
   have VB := Aside0.mk Q_VB
   have DD := Aside0.mk (Q_DD (hon 4 (by kernel_rfl)))
   refine value_ (w1 := w'.alloc (.cells #[.int .i64 3, .int .i64 16, .int .i64 6, .int .i64 256, .slice none 0 0, .slice (some ⟨gD, 0, none⟩) 4 4, .slice none 0 0, .int .i64 0, .bool false] 92)) (v := .pointer (some ⟨w'.heap.size, 0, none⟩)) (by rfl) rfl ?_ ?_
   ·go_simp
    try rfl
   refine hK.out _ _ ⟨gD, w'.heap.size, m4_, m7_, (.pointer (some ⟨w'.heap.size, 0, none⟩)), m9_, (ptup_ ha.out 6 hb_ rfl rfl rfl), bl_alloc VB.out _, fun _ => ⟨DD.out.1, blk_below DD.out.2 (bl_alloc (Below.refl _ _) _)⟩, fun _ => ⟨VB.out.size, heap_alloc_new w' _⟩, Q_X4_, Q_X7_, fun _ => rfl, off_ (hoff 9 (by kernel_rfl))⟩
  refine steps_cons ?_ ?_
  ·rintro b a w' ⟨gD, gp, m4_, m7_, m8_, m9_, ha, Q_VB, Q_DD, Q_PP, Q_X4_, Q_X7_, Q_X8_, Q_X9_⟩ hb_ hon hoff
   refine ⟨_, rfl, fun K hK => ?_⟩
   have e30 : a.tmps[30]? = some (m8_) := pton_ ha 6 rfl rfl (hon 8 (by kernel_rfl)) rfl
   rw [Q_X8_ (hon 8 (by kernel_rfl))] at e30
   replace ha := Aside0.mk ha
   have VB := Aside0.mk Q_VB
   have DD := Aside0.mk (Q_DD (hon 4 (by kernel_rfl)))
   have PP := Aside0.mk (Q_PP (hon 8 (by kernel_rfl)))
   refine value_ (w1 := w') (v := .pointer (some ⟨gp, 0, none⟩)) (by rfl) rfl ?_ ?_
   ·go_simp
    (try simp only [i64_w])
    try rfl
   refine hK.out _ _ ⟨gD, gp, m4_, m7_, m8_, (.pointer (some ⟨gp, 0, none⟩)), (ptup_ ha.out 7 hb_ rfl rfl rfl), Q_VB, Q_DD, Q_PP, Q_X4_, Q_X7_, Q_X8_, fun _ => rfl⟩
  exact steps_nil
 ·rintro b a w' hall ⟨gD, gp, m4_, m7_, m8_, m9_, ha, Q_VB, Q_DD, Q_PP, Q_X4_, Q_X7_, Q_X8_, Q_X9_⟩
  clear VB
  have hb0_ := hall 0 (by kernel_rfl)
  have hb2_ := hall 2 (by kernel_rfl)
  have hb3_ := hall 3 (by kernel_rfl)
  have hb4_ := hall 4 (by kernel_rfl)
  have hb6_ := hall 6 (by kernel_rfl)
  have hb7_ := hall 7 (by kernel_rfl)
  have hb8_ := hall 8 (by kernel_rfl)
  have hb9_ := hall 9 (by kernel_rfl)
  subst ha
  obtain rfl := Q_X4_ hb4_
  obtain rfl := Q_X7_ hb7_
  obtain rfl := Q_X8_ hb8_
  obtain rfl := Q_X9_ hb9_
  simp only [putSel, hb0_, hb2_, hb3_, hb4_, hb6_, hb7_, hb8_, hb9_, if_true, Act.put, List.setIfInBounds_toArray, List.set_cons_zero, List.set_cons_succ]
  have VB := Aside0.mk Q_VB
  clear Q_VB
  have DD := Aside0.mk (Q_DD hb4_)
  clear Q_DD
  have PP := Aside0.mk (Q_PP hb8_)
  clear Q_PP
  clear hall hb0_ hb2_ hb3_ hb4_ hb6_ hb7_ hb8_ hb9_
  have HB := Lib.hid (bl_seq HB1.out (bl_seq DZ.out VB.out))
  have HGG := Lib.hid (blk_below HPz.out VB.out)
  have HD := Lib.hid (show w.heap.size ≤ gD ∧ w'.heap[gD]? = _ from ⟨Nat.le_trans (Nat.le_trans HB1.out.size DZ.out.size) DD.out.1, DD.out.2⟩)
  have HP3 := Lib.hid (show w.heap.size ≤ gp ∧ w'.heap[gp]? = _ from ⟨Nat.le_trans (Nat.le_trans HB1.out.size DZ.out.size) PP.out.1, PP.out.2⟩)
  clear VB DD PP HPz HB1 HG1 DZ
  obtain ⟨w3, hw3⟩ : ∃ w3, w' = w3 := ⟨_, rfl⟩
  rw [hw3] at HB HGG HD HP3 ⊢
  clear hw3
  have x0 : w3.cell? ⟨g3, 0, none⟩ = some (.int .i64 3) := (blk_cell HGG.out 0).trans rfl
  go_wp2_with fail
  clear x0
  go_loopw [34] (fun i wr => ∃ (c : Nat) (r' : Nat → Nat) (pr' pc' : Nat → Nat → Nat), i = .int .i64 (c : Int) ∧ c ≤ 4 ∧ Hid (Below w.heap.size w wr ∧ KeepT w3 wr ∧ CpSt wr w.heap.size gp (.slice (some ⟨gD, 0, none⟩) 4 4) (.slice none 0 0) false c r' pr' pc' F0 G0)) (fun i _ => 4 - (intOf i).toNat)
  case atStart => exact ⟨0, id, fun _ => id, fun _ => id, rfl, by decide, Lib.hid ⟨HB.out, KeepT.refl _, _, [], HP3.out.2, own_nil _ _ _ _, fun i hi => absurd hi (Nat.not_lt_zero i), fun i hi => absurd hi (Nat.not_lt_zero i), fun i j hi => absurd hi (Nat.not_lt_zero i), fun i j i' j' hi => absurd hi (Nat.not_lt_zero i), fun i hi => absurd hi (Nat.not_lt_zero i)⟩⟩
  case round =>
   obtain ⟨c, r', pr', pc', rfl, hc4, HI⟩ := hrel
   generalize wr = wO at HI ⊢
   by_cases hlt : c < 4
   ·have hci : (c : Int) < 4 := by omega
    have hGO := HI.out.2.1.2 _ _ _ HGG.out (by decide) (by decide)
    have HGO := Lib.hid hGO
    have x1 : wO.cell? ⟨g3, 1, none⟩ = some (.int .i64 16) := (blk_cell hGO 1).trans rfl
    have hmk := mk_blocks
    clear hGO
    go_wp2_with fail
    clear x1 hmk
    have hb4 := bl_alloc (Below.refl wO.heap.size wO) (.cells blk0 96)
    have hg4 := heap_alloc_new wO (.cells blk0 96)
    have hs4 : (wO.alloc (.cells blk0 96)).heap.size = wO.heap.size + 1 := by simp
    obtain ⟨gm, hgm⟩ : ∃ gm, wO.heap.size = gm := ⟨_, rfl⟩
    have HGM := Lib.hid hgm
    obtain ⟨w4, hw4⟩ : ∃ w4, wO.alloc (.cells blk0 96) = w4 := ⟨_, rfl⟩
    rw [hw4] at hb4 hg4 hs4 ⊢
    rw [hgm] at hg4 hs4
    try rw [hgm]
    have H4 := Lib.hid (And.intro hb4 (And.intro hg4 hs4))
    clear hb4 hg4 hs4 hw4 hgm
    go_loopw [41] (fun i wr => ∃ (k : Nat) (C : Array Value) (prn pcn : Nat → Nat), i = .int .i64 (k : Int) ∧ k ≤ 16 ∧ Hid (C.size = 64 ∧ Below wO.heap.size wO wr ∧ ChipR wr gm C prn pcn k (F0 c) (G0 c) ∧ gm < wr.heap.size ∧ (∀ j, j < k → gm < prn j ∧ prn j < wr.heap.size) ∧ Apart prn k ∧ Zero4 C)) (fun i _ => 16 - (intOf i).toNat)
    case atStart => exact ⟨0, blk0, id, id, rfl, by decide, Lib.hid ⟨blk0_size, H4.out.1, ⟨H4.out.2.1, fun i hi => absurd hi (Nat.not_lt_zero i), fun i hi => absurd hi (Nat.not_lt_zero i)⟩, by have h_ := H4.out.2.2; omega, fun i hi => absurd hi (Nat.not_lt_zero i), fun i j hi => absurd hi (Nat.not_lt_zero i), blk0_zero⟩⟩
    case round =>
     obtain ⟨k, C, prn, pcn, rfl, hk16, HJ⟩ := hrel
     by_cases hkl : k < 16
     ·have hki : (k : Int) < 16 := by omega
      have x2 : wr.cell? ⟨g3, 2, none⟩ = some (.int .i64 6) := (blk_cell (blk_below HGO.out HJ.out.2.1) 2).trans rfl
      have hC := HJ.out.2.2.1.1
      have hC0 := fun o => blk_below hC (bl_alloc (Below.refl _ _) o)
      obtain ⟨u0, hu0⟩ : ∃ v, C[k * 4]? = some v := ⟨_, Array.getElem?_eq_getElem (by have h_ := HJ.out.1; omega)⟩
      have d0 : ∀ o, (wr.alloc o).cell? ⟨gm, k * 4, none⟩ = some u0 := fun o => (blk_cell (hC0 o) _).trans hu0
      have df := fun o i => blk_frozen (hC0 o) i
      have hmk := mk_pages
      have HR1 := Lib.hid (row1 HJ.out.1 hkl (.slice (some ⟨wr.heap.size, 0, none⟩) 6 6) HJ.out.2.2.2.2.2.2)
      clear hC hC0 hu0
      go_wp2_with fail
      clear x2 d0 df hmk
      go_roundw
      case rel =>
       have hge : wO.heap.size ≤ gm := Nat.le_of_eq HGM.out
       have hgl := HJ.out.2.2.2.1
       have hC := HJ.out.2.2.1.1
       have hz := HR1.out.2.2.2 k hkl
       refine ⟨k + 1, _, upd prn k wr.heap.size, upd pcn k 6, by go_num, by omega, Lib.hid ⟨HR1.out.1, bl_set (bl_alloc HJ.out.2.1 _) (p := ⟨gm, k * 4, none⟩) hge _, HJ.out.2.2.1.step (C' := _) (blk_set (blk_below hC (bl_alloc (Below.refl _ _) _)) (k * 4) _) (fun i hi => ?_) HR1.out.2.1 HR1.out.2.2.1 hz.1 hz.2.1 hz.2.2 (blk_far (heap_alloc_new wr _) (show wr.heap.size ≠ gm by omega) _) (by show 12 ≤ pag0.size; rw [show pag0.size = 12 from size_madeCells _ _]; decide) (fun j hj => pag0_at j hj), ?_, ?_, HJ.out.2.2.2.2.2.1.step (fun i hi => (HJ.out.2.2.2.2.1 i hi).2), HR1.out.2.2.2⟩⟩
       ·have hp := HJ.out.2.2.2.2.1 i hi
        rw [Below.heap_setCell _ _ _ _ (show prn i ≠ (⟨gm, k * 4, none⟩ : Addr).block from by simp only; omega)]
        exact heap_alloc_old _ _ hp.2
       ·simp [World.setCell]; omega
       ·intro j hj
        simp only [World.setCell, Array.size_modify, World.size_alloc]
        by_cases e : j = k
        ·subst e; rw [upd_same]; omega
        ·rw [upd_other _ _ _ _ e]; have := HJ.out.2.2.2.2.1 j (by omega); omega
      case measure => simp [intOf]; omega
     ·obtain rfl : k = 16 := by omega
      obtain ⟨l, xs, p1, p2, p3, p4, p5, p6, p7⟩ := HI.out.2.2
      have hxl : xs.length = c := by have h_ := p2.1; omega
      have q1 := blk_below p1 HJ.out.2.1
      have q2 : wr.ownsRow w.heap.size 93 1 l xs.length xs := by
       rw [hxl]
       exact own_mods (S := fun _ => False) p2 (Mods.of_below HJ.out.2.1) (fun _ _ h => h)
      have x4 : wr.cell? ⟨gp, 4, none⟩ = some l := (blk_cell q1 4).trans rfl
      have HBB := Lib.hid (show Below w.heap.size w wr from bl_seq HI.out.1 HJ.out.2.1)
      have HQ := Lib.hid (And.intro q1 q2)
      have HX := Lib.hid hxl
      have HPP := Lib.hid (And.intro p1 (And.intro p3 (And.intro p4 (And.intro p5 (And.intro p6 p7)))))
      clear p1 p2 p3 p4 p5 p6 p7 q1 q2 hxl
      go_wp2_with (at_builtin; go_loud (refine print_append (w0 := w) w.heap.size rfl (.tmp 56) (.tmp 58) 90 93 (.slice none 0 0) 24 rfl Try.underlying90 infoSB rfl (by decide) l xs (.slice (some ⟨gm, 0, none⟩) 16 16) rfl rfl rfl HQ.out.2 HBB.out HBB.out.size (by have h_ := HX.out; omega) ?_); intro l2 w6 ho6 hb6 hg6 hat6; go_loud (obtain ⟨A9, n9, c9, rfl⟩ := own_sl ho6; have q6 := grown_blk hg6 HQ.out.1 (own_ne HQ.out.2 HQ.out.1 (by decide)); have y4 : w6.cell? ⟨gp, 4, none⟩ = some l := (blk_cell q6 4).trans rfl; have yf := fun i => blk_frozen q6 i; have H6 := Lib.hid (And.intro ho6 (And.intro hb6 (And.intro hg6 q6))); clear ho6 hb6 hg6 hat6 q6))
      clear x4 y4 yf
      have hK := (((KeepT.below HJ.out.2.1).trans (KeepT.grown HQ.out.2 H6.out.2.2.1)).set H6.out.2.2.2 4 (.slice A9 n9 c9))
      have hK1 := ((KeepT.grown HQ.out.2 H6.out.2.2.1).set H6.out.2.2.2 4 (.slice A9 n9 c9))
      go_roundw
      case rel =>
       refine ⟨c + 1, upd r' c gm, upd pr' c prn, upd pc' c pcn, by go_num, by omega, Lib.hid ⟨bl_set H6.out.2.1 (p := ⟨gp, 4, none⟩) HP3.out.1 _, HI.out.2.1.trans hK, .slice A9 n9 c9, xs ++ [.slice (some ⟨gm, 0, none⟩) 16 16], blk_put H6.out.2.2.2 4 (.slice A9 n9 c9) (by simp), ?_, ?_, ?_, ?_, ?_, ?_⟩⟩
       ·have ho := own_setCell H6.out.1 (p := ⟨gp, 4, none⟩) (own_ne H6.out.1 H6.out.2.2.2 (by decide)) (.slice A9 n9 c9)
        rw [show (xs ++ [Value.slice (some ⟨gm, 0, none⟩) 16 16]).length = c + 1 by simp [HX.out]] at ho
        exact ho
       ·intro i hi
        by_cases e : i = c
        ·subst e; rw [upd_same, List.getElem?_append_right (by have h_ := HX.out; omega)]; have h_ := HX.out; simp [h_]
        ·rw [upd_other _ _ _ _ e, List.getElem?_append_left (by have h_ := HX.out; omega)]; exact HPP.out.2.1 i (by omega)
       ·intro i hi
        by_cases e : i = c
        ·subst e; rw [upd_same, upd_same, upd_same]; exact ⟨C, HJ.out.2.2.1.keepT hK1⟩
        ·rw [upd_other _ _ _ _ e, upd_other _ _ _ _ e, upd_other _ _ _ _ e]; obtain ⟨C', hC'⟩ := HPP.out.2.2.1 i (by omega); exact ⟨C', hC'.keepT hK⟩
       ·exact HPP.out.2.2.2.1.step (fun i hi => by obtain ⟨C', hC'⟩ := HPP.out.2.2.1 i hi; have h_ := blk_lt hC'.1; have h2_ := HGM.out; omega)
       ·refine HPP.out.2.2.2.2.1.step (fun i k hi hk j hj e => ?_) HJ.out.2.2.2.2.2.1
        obtain ⟨C', hC'⟩ := HPP.out.2.2.1 i hi
        obtain ⟨D', hD'⟩ := hC'.2.2 k hk
        have h_ := blk_lt hD'.1
        have h2_ := HGM.out
        have h3_ := HJ.out.2.2.2.2.1 j hj
        omega
       ·intro i hi
        by_cases e : i = c
        ·subst e; rw [upd_same, upd_same]
         have h2_ := HGM.out
         have h4_ := HI.out.1.size
         exact ⟨by omega, fun k hk => by have h3_ := HJ.out.2.2.2.2.1 k hk; omega⟩
        ·rw [upd_other _ _ _ _ e, upd_other _ _ _ _ e]; exact HPP.out.2.2.2.2.2 i (by omega)
      case measure => simp [intOf]; omega
   ·obtain rfl : c = 4 := by omega
    go_wp2_with fail
    go_loopw [65] (fun i w9 => i = .int .i64 0 ∧ Hid (w9 = wO)) (fun i _ => 0)
    case atStart => exact ⟨rfl, Lib.hid rfl⟩
    case round =>
    obtain ⟨rfl, HE9⟩ := hrel
    go_wp2_with fail
    go_ret2
    rw [HE9.out]
    obtain ⟨l, xs, p1, p2, p3, p4, p5, p6, p7⟩ := HI.out.2.2
    rcases p2.2 with ⟨-, h0_⟩ | ⟨q', qc', cur, rfl, hq', hh, hc', hm', hs', ht'⟩
    ·omega
    ·exact ⟨⟨gp, q', qc', gD, 4, r', fun _ => 16, pr', pc'⟩, rfl, HI.out.1, ⟨p1, ⟨cur, hh, fun i hi => take_cell ht' (p3 i hi)⟩, ⟨dead0, HI.out.2.1.2 _ _ _ HD.out.2 (by decide) (by decide), dead0_at⟩, p4, p5, p6⟩, ⟨HP3.out.1, hq', HD.out.1, p7⟩⟩
end Go.Proofs.Ytffalemndjampaa
end
section
set_option linter.unusedVariables false
set_option linter.unusedSimpArgs false
namespace Go.Proofs.Ytffalemndjampaa
open Go.RowKit Go.Proofs.YtffalemndjampaaW.PrintWords Go.Proofs.YtffalemndjampaaW.PrintLast
theorem eraseS_free {ar : Ar} {s : St} {kb : Nat} (h1 : s.off = false) (h2 : s.kind ar = 0) (h3 : (s.bl kb).bad = false) : eraseS ar s kb = (((s.go false).setPgs kb fun _ => none).setNx kb 0, 0) := by
 rw [eraseS, if_neg (by rw [h1]; decide), if_neg (by rw [h2]; decide), if_neg (by rw [h3]; decide), if_neg (by rw [h2]; decide)]
theorem progS_free {ar : Ar} {s : St} {kb p : Nat} {x : List Int × List Int} (h1 : s.off = false) (h2 : s.kind ar = 0) (h3 : (s.bl kb).bad = false) (h4 : p = (s.bl kb).nx) : progS ar s kb p x = (((s.go false).setPg kb p x).setNx kb (p + 1), 0) := by
 rw [progS, if_neg (by rw [h1]; decide), if_neg (by rw [h2]; decide), if_neg (by rw [h3]; decide), if_neg (by rw [h4]; exact fun h => h rfl), if_neg (by rw [h2]; decide)]
def blankS (n : Int) : St := ⟨fun _ => ⟨fun _ => none, 0, false⟩, n, false⟩
theorem blank_erase {ar : Ar} {n : Int} {kb : Nat} (h : (blankS n).kind ar = 0) : eraseS ar (blankS n) kb = (blankS (n + 1), 0) := by
 rw [eraseS_free rfl h rfl]
 refine congrArg (·, 0) (St.ext_ ?_ rfl rfl)
 funext i
 simp only [St.setNx, St.setPgs, St.go, blankS, upd]
 split <;> simp_all
theorem Arr.anyok {w : World} {ar : Ar} {ok ok2 : Nat → Prop} {n : Int} (h : Arr w ar ok (blankS n)) : Arr w ar ok2 (blankS n) := by
 obtain ⟨h1, h2, h3, h4, h5, h6, h7⟩ := h
 exact ⟨h1, h2, h3, h4, h5, h6, fun i hi => h7 i hi⟩
def T0 : Tb := ⟨0, [2, 3, 4, 5, 6, 7, 8, 9, 10, 11, 12], [13, 14, 15], 0, 1⟩
theorem T0_ok : TbOk T0.up := ⟨by decide, by decide, by decide, by decide⟩
def fmtS : St := (((blankS 18).setPg 1 0 (tbD T0.up, tbO T0.up)).setNx 1 1)
theorem fmt_save {ar : Ar} (h : ∀ n, (blankS n).kind ar = 0) : saveS ar (blankS 16) T0 = (fmtS, T0.up, 0) := by
 have h1 : layS ar (blankS 16) 1 T0.up = (fmtS, 0) := by
  rw [layS, blank_erase (h 16)]
  simp only [if_true]
  rw [progS_free (s := blankS (16 + 1)) (kb := 1) (p := 0) rfl (h _) rfl rfl]
  refine congrArg (·, 0) (St.ext_ rfl rfl rfl)
 have h2 : T0.up.tab = 1 := by decide
 show saveGo ar 3 (blankS 16) T0.up = _
 rw [saveGo, show T0.up.tab = 1 from h2, h1]
 rfl
def ints (n : Nat) : List Int := (List.range n).map fun i : Nat => (i : Int)
theorem ints_succ (n : Nat) : ints (n + 1) = ints n ++ [(n : Int)] := by simp [ints, List.range_succ]
theorem row_piece {w : World} {G n m : Nat} {xs : List Int} (h : ReadsInt w .i64 (some ⟨G, 0, none⟩) n xs) (i : Nat) (hi : i + m ≤ n) (h0 : 0 < m) (h1 : 0 < i) : ReadsInt w .i64 (some ⟨G, i, none⟩) m ((xs.drop i).take m) := by
 refine ⟨by rw [List.length_take, List.length_drop, h.1]; omega, by have := h.2.1; omega, fun _ => ⟨_, rfl, fun j hj => ?_⟩⟩
 obtain ⟨ad, e, hc⟩ := h.2.2 (by omega)
 obtain rfl := Option.some.inj e
 have h_ := hc (i + j) (by omega)
 have e1 : (⟨G, 0, none⟩ : Addr).add (i + j) = ⟨G, i + j, none⟩ := add_zero_ _ _
 have e2 : (⟨G, i, none⟩ : Addr).add j = ⟨G, i + j, none⟩ := by
  unfold Addr.add
  by_cases hz : j = 0
  ·subst hz; simp
  ·simp [hz]
 rw [e1] at h_
 rw [e2, h_]
 simp only [List.getD_eq_getElem?_getD, List.getElem?_take, List.getElem?_drop, if_pos hj]
def UcR.T18 : Bool × List (List Nat × List Nat) := (true, [([], []), ([], []), ([], []), ([], []), ([1, 2, 3], [1, 2, 3]), ([], []), ([], []), ([5, 6], [5, 6]), ([], []), ([8], [8]), ([9], [9]), ([], []), ([11], [11]), ([12], [12]), ([10, 13], [10, 13]), ([4, 7, 14], [4, 7, 14]), ([0, 0, 1, 2, 3, 4, 5, 6, 7, 8, 9, 10, 11, 12, 13, 14, 15], [0]), ([16, 0, 1, 2, 3, 4, 5, 6, 7, 8, 9, 10, 11, 12, 13, 14, 15], [16]), ([17, 15, 0, 1, 2, 3, 4, 5, 6, 7, 8, 9, 10, 11, 12, 13, 14, 15], [15, 17])])
def UcR.B18 : List Nat := [0, 0, 0, 0, 14, 0, 0, 96, 0, 256, 768, 0, 2048, 6144, 16128, 32766, 65535, 131071, 262143]
theorem UcR.tab18 : rtab .any (opsOf Try.f19 18) = UcR.T18 := by kernel_rfl
theorem UcR.bits18 : waitsOk UcR.T18.2 UcR.B18 = true := by kernel_rfl
def FormatQ (w : World) (ar : Ar) (ok : Nat → Prop) (e : Ending) (w' : World) : Prop :=
 ∃ vp, e = .returned (.tuple #[.pointer (some ⟨vp, 0, none⟩), .int .i64 0]) ∧ Arr w' ar ok fmtS ∧ Mods ar.M w w'
theorem mods_old {S S' : Nat → Prop} {w w1 w2 : World} (h : Mods S w w1) (h' : Mods S' w1 w2) (hs : ∀ k, S' k → k < w.heap.size → S k) : Mods S w w2 :=
 ⟨h'.os.trans h.os, h'.tape.trans h.tape, h'.output.trans h.output, Nat.le_trans h.size h'.size, fun i hi hn => (h'.block i (Nat.lt_of_lt_of_le hi h.size) (fun e => hn (hs i e hi))).trans (h.block i hi hn)⟩
theorem own_sln {w : World} {B n sz : Nat} {e : TypeId} {v : Value} {xs : List Value} (h : w.ownsRow B e sz v n xs) : ∃ A c, v = .slice A n c := by
 rcases h.2 with ⟨rfl, rfl⟩ | ⟨g, cap, cur, rfl, -⟩
 ·exact ⟨_, _, rfl⟩
 ·exact ⟨_, _, rfl⟩
set_option maxHeartbeats 16000000 in
set_option maxRecDepth 100000 in
theorem format_any (ar : Ar) (ok : Nat → Prop) (w : World) (hf : ar.Fix) (hok : ∀ k, ok k → ¬ ar.M k) (hnew : ∀ k, w.heap.size ≤ k → ok k) (he : ∀ x, ar.EA = some x → x.block < w.heap.size) (hl : ∀ x, ar.LA = some x → 0 < ar.ln → x.block < w.heap.size) (h : Arr w ar ok (blankS 0)) (hev : ar.evs = []) :
  Calls Try.prog 19 #[.pointer (some ⟨ar.p, 0, none⟩), .int .i64 0] w (FormatQ w ar ok) := by
 have HF := Lib.hid (And.intro hf (And.intro hok (And.intro hnew (And.intro he (And.intro hl hev)))))
 have HM := Lib.hid (show (∀ k, ar.M k → k < w.heap.size) ∧ (∀ k, w.heap.size ≤ k → ar.Out (fun _ => False) k) from ⟨fun k hk => h.M_lt hk, fun k hk => h.anyok.outB he hl (fun _ h => h.elim) hk⟩)
 have HKD := Lib.hid (show ∀ n, (blankS n).kind ar = 0 from fun n => by simp only [St.kind, hev]; rfl)
 have HA := Lib.hid h
 have HGE := Lib.hid (geo_any ar ok (blankS 0) w h)
 clear hf hok hnew he hl hev h
 go_enter Try.func19, Try.ntmps19
 go_wp2_with fail
 refine HGE.out.mono ?_
 rintro e w1 ⟨rfl, hb1⟩
 have HB1 := Lib.hid hb1
 have hv1 := heap_alloc_new w1 (.cells #[.pointer (some ⟨ar.p, 0, none⟩), .int .i64 0, .int .i64 3, .int .i64 16, .int .i64 6, .int .i64 256, .int .u32 0, .slice none 0 0, .slice none 0 0, .int .i64 0, .int .i64 0] 110)
 have y3 : (w1.alloc (.cells #[.pointer (some ⟨ar.p, 0, none⟩), .int .i64 0, .int .i64 3, .int .i64 16, .int .i64 6, .int .i64 256, .int .u32 0, .slice none 0 0, .slice none 0 0, .int .i64 0, .int .i64 0] 110)).cell? ⟨w1.heap.size, 3, none⟩ = some (.int .i64 16) := (blk_cell hv1 3).trans rfl
 clear hb1 HGE
 go_wp2_with fail
 clear y3
 obtain ⟨vp, hvp⟩ : ∃ vp, w1.heap.size = vp := ⟨_, rfl⟩
 have HVP := Lib.hid (show w.heap.size ≤ vp ∧ (w1.alloc (.cells #[.pointer (some ⟨ar.p, 0, none⟩), .int .i64 0, .int .i64 3, .int .i64 16, .int .i64 6, .int .i64 256, .int .u32 0, .slice none 0 0, .slice none 0 0, .int .i64 0, .int .i64 0] 110)).heap.size = vp + 1 ∧ Mods ar.M w (w1.alloc (.cells #[.pointer (some ⟨ar.p, 0, none⟩), .int .i64 0, .int .i64 3, .int .i64 16, .int .i64 6, .int .i64 256, .int .u32 0, .slice none 0 0, .slice none 0 0, .int .i64 0, .int .i64 0] 110)) from ⟨by rw [← hvp]; exact HB1.out.size, by simp [← hvp], (Mods.of_below HB1.out).alloc _⟩)
 have HA0 := Lib.hid ((HA.out.below HB1.out).below (bl_alloc (Below.refl _ _) (.cells #[.pointer (some ⟨ar.p, 0, none⟩), .int .i64 0, .int .i64 3, .int .i64 16, .int .i64 6, .int .i64 256, .int .u32 0, .slice none 0 0, .slice none 0 0, .int .i64 0, .int .i64 0] 110)))
 obtain ⟨w0, hw0⟩ : ∃ w0, w1.alloc (.cells #[.pointer (some ⟨ar.p, 0, none⟩), .int .i64 0, .int .i64 3, .int .i64 16, .int .i64 6, .int .i64 256, .int .u32 0, .slice none 0 0, .slice none 0 0, .int .i64 0, .int .i64 0] 110) = w0 := ⟨_, rfl⟩
 rw [hw0] at HVP HA0 hv1 ⊢
 rw [hvp] at hv1
 try rw [hvp]
 have HV1 := Lib.hid hv1
 clear hv1 hw0
 go_loopw [7, 25] (fun l i wr => ∃ (j : Nat) (A : Option Addr) (c : Nat), i = .int .i64 (j : Int) ∧ j ≤ 16 ∧ l = .slice A j c ∧ Hid (Arr wr ar (fun _ => False) (blankS j) ∧ Mods ar.M w wr ∧ wr.heap[vp]? = some (.cells #[.pointer (some ⟨ar.p, 0, none⟩), .int .i64 0, .int .i64 3, .int .i64 16, .int .i64 6, .int .i64 256, .int .u32 0, .slice none 0 0, .slice none 0 0, .int .i64 0, .int .i64 0] 110 (0, 0)) ∧ vp < wr.heap.size ∧ wr.ownsRow (vp + 1) 3 1 (.slice A j c) (ints j).length (nums .i64 (ints j)))) (fun _ i _ => 16 - (intOf i).toNat)
 case atStart => exact ⟨0, none, 0, rfl, by decide, rfl, Lib.hid ⟨HA0.out.anyok, HVP.out.2.2, HV1.out, by have h_ := HVP.out.2.1; omega, own_nil _ _ _ _⟩⟩
 case round =>
  obtain ⟨j, A, c, rfl, hj, rfl, HI⟩ := hrel
  generalize wr = w9 at HI ⊢
  by_cases hlt : j < 16
  ·have hji : (j : Int) < 16 := by omega
   go_wp2_with fail
   refine (nerase_any ar (fun k => ¬ ar.M k) (blankS j) j w9 HF.out.1 (fun k h => h) (fun k hk hM => by have h_ := HM.out.1 k hM; have h2_ := HI.out.2.1.size; omega) HI.out.1.anyok hlt (by show (0 : Int) ≤ (j : Int); omega) (by show (j : Int) ≤ 1000000; omega)).mono ?_
   rintro e w2 ⟨rfl, hA2, hM2⟩
   rw [blank_erase (HKD.out _)] at hA2 ⊢
   have hA2' : Arr w2 ar (fun _ => False) (blankS ((j + 1 : Nat) : Int)) := by rw [Int.natCast_add]; exact hA2.anyok
   have H2 := Lib.hid (show Arr w2 ar (fun _ => False) (blankS ((j + 1 : Nat) : Int)) ∧ Mods ar.M w w2 ∧ w2.heap[vp]? = _ ∧ vp < w2.heap.size from ⟨hA2', HI.out.2.1.trans hM2, hM2.blk HI.out.2.2.1 (fun hM => by have h_ := HM.out.1 _ hM; have h2_ := HVP.out.1; omega), Nat.lt_of_lt_of_le HI.out.2.2.2.1 hM2.size⟩)
   have HO := Lib.hid (own_mods HI.out.2.2.2.2 hM2 (fun k hk hM => by have h_ := HM.out.1 k hM; have h2_ := own_ge HI.out.2.2.2.2 k hk; have h3_ := HVP.out.1; omega))
   clear hA2 hA2' hM2
   go_wp2_with (at_builtin; go_loud (refine print_append_num (w0 := w2) (vp + 1) rfl (.tmp 36) (.tmp 38) 46 3 .i64 8 rfl Try.underlying46 infoI (by decide) (.slice A j c) (ints j) (j : Int) rfl rfl HO.out (Below.refl _ _) H2.out.2.2.2 (by simp [ints]; omega) ?_); intro l2 w3 ho3 hb3 hg3 hat3; go_loud (obtain ⟨A3, c3, rfl⟩ := own_sln ho3; have H3 := Lib.hid (And.intro ho3 (And.intro hb3 hg3)); clear ho3 hb3 hg3 hat3))
   have HL3 := Lib.hid (show (ints j ++ [(j : Int)]).length = j + 1 by simp [ints])
   have hl1 : (ints j).length = j := by simp [ints]
   go_roundw
   rw [hl1]
   case rel =>
    refine ⟨j + 1, A3, c3, by go_num, by omega, rfl, Lib.hid ⟨?_, ?_, ?_, ?_, ?_⟩⟩
    ·exact H2.out.1.mods ((Mods.refl (fun k => vp + 1 ≤ k) w2).grown_ H3.out.2.2 (fun k e => .inl (own_ge HO.out k e))) (fun k hk => HM.out.2 k (by have h_ := HVP.out.1; omega))
    ·exact H2.out.2.1.grown_ H3.out.2.2 (fun k e => .inr (by have h_ := own_ge HO.out k e; have h2_ := HVP.out.1; omega))
    ·exact grown_blk H3.out.2.2 H2.out.2.2.1 (fun e => by have h_ := own_ge HO.out _ e.symm; omega)
    ·exact Nat.lt_of_lt_of_le H2.out.2.2.2 H3.out.2.2.size
    ·have h_ := H3.out.1; rw [HL3.out] at h_; rw [ints_succ, HL3.out]; exact h_
   case measure => simp [intOf]; omega
  ·obtain rfl : j = 16 := by omega
   have y2 : w9.cell? ⟨vp, 2, none⟩ = some (.int .i64 3) := (blk_cell HI.out.2.2.1 2).trans rfl
   have y3 : w9.cell? ⟨vp, 3, none⟩ = some (.int .i64 16) := (blk_cell HI.out.2.2.1 3).trans rfl
   have y4 : w9.cell? ⟨vp, 4, none⟩ = some (.int .i64 6) := (blk_cell HI.out.2.2.1 4).trans rfl
   have y5 : w9.cell? ⟨vp, 5, none⟩ = some (.int .i64 256) := (blk_cell HI.out.2.2.1 5).trans rfl
   go_wp2_with fail
   clear y2 y3 y4 y5
   refine (virt_any w9).mono ?_
   rintro e w10 ⟨rfl, hb10⟩
   have ho10 := own_mods (S := fun _ => False) HI.out.2.2.2.2 (Mods.of_below hb10) (fun _ _ h => h)
   rw [show (ints 16).length = 16 from rfl] at ho10
   have HI2 := Lib.hid (show Arr w10 ar (fun _ => False) (blankS 16) ∧ Mods ar.M w w10 ∧ w10.heap[vp]? = _ ∧ vp < w10.heap.size ∧ w10.ownsRow (vp + 1) 3 1 (.slice A 16 c) 16 (nums .i64 (ints 16)) from ⟨HI.out.1.below hb10, HI.out.2.1.trans (Mods.of_below hb10), blk_below HI.out.2.2.1 hb10, Nat.lt_of_lt_of_le HI.out.2.2.2.1 hb10.size, ho10⟩)
   clear hb10
   rcases ho10.2 with ⟨-, h0_⟩ | ⟨G, cG, cur, he_, hG, hh, hcap, hcm, -⟩
   ·omega
   simp only [Value.slice.injEq] at he_
   obtain ⟨rfl, -, rfl⟩ := he_
   have HR := Lib.hid (own_reads' HI2.out.2.2.2.2)
   have HC := Lib.hid (show w10.cell? ⟨G, 0, none⟩ = some (.int .i64 0) ∧ w10.cell? ⟨G, 1, none⟩ = some (.int .i64 1) from by
    have hc_ := ho10.cells (g := G) rfl
    exact ⟨hc_ 0 _ rfl, hc_ 1 _ rfl⟩)
   have HGT := Lib.hid (show vp + 1 ≤ G ∧ G < w10.heap.size ∧ 16 ≤ c from ⟨hG, blk_lt hh, hcap⟩)
   have hcap2 : (13 : Int) ≤ (c : Int) := by omega
   have hcap3 : (16 : Int) ≤ (c : Int) := by omega
   clear ho10 hG hh hcm
   go_wp2_with fail
   refine start_ (n := 19) (S := fun w' => True) (ds := []) _ (by kernel_rfl) rfl rfl trivial (fun hHeld => ?_)
   refine with_tabW UcR.tab18 UcR.bits18 (fun HT_ HW_ => ?_)
   have HVz := Lib.hid (show w10.drew.heap[vp]? = _ from HI2.out.2.2.1)
   have HGz := Lib.hid (show w10.drew.cell? ⟨G, 0, none⟩ = _ ∧ w10.drew.cell? ⟨G, 1, none⟩ = _ from HC.out)
   have HWz := Lib.hid (Eq.refl w10.drew)
   have hcapz := hcap
   have hcap2z := hcap2
   have hcap3z := hcap3
   obtain ⟨wz, hwz⟩ : ∃ wz, w10.drew = wz := ⟨_, rfl⟩
   have HWZ := Lib.hid hwz
   rw [hwz] at HVz HGz ⊢
   try rw [hwz] at hHeld
   clear hwz
   have VB := Lib.hid (Lib.hid (Eq.refl wz))
   refine pur_ 0 (some 53) HT_.out rfl rfl (by kernel_rfl) (fun _ _ _ h => h) (by rfl) (fun w' => by go_simp; with_reducible rfl) (by simp only [Act.put, List.setIfInBounds_toArray, List.set_cons_zero, List.set_cons_succ, i64_w, i32_w]; rfl) ?_
   refine pur_ 1 (some 54) HT_.out rfl rfl (by kernel_rfl) (fun _ _ _ h => h) (by rfl) (fun w' => by go_simp; with_reducible rfl) (by simp only [Act.put, List.setIfInBounds_toArray, List.set_cons_zero, List.set_cons_succ, i64_w, i32_w]; rfl) ?_
   refine pur_ 2 (some 55) HT_.out rfl rfl (by kernel_rfl) (fun _ _ _ h => h) (by rfl) (fun w' => by go_simp; with_reducible rfl) (by simp only [Act.put, List.setIfInBounds_toArray, List.set_cons_zero, List.set_cons_succ, i64_w, i32_w]; rfl) ?_
   refine pur_ 3 (some 56) HT_.out rfl rfl (by kernel_rfl) (fun _ _ _ h => h) (by rfl) (fun w' => by go_simp; with_reducible rfl) (by simp only [Act.put, List.setIfInBounds_toArray, List.set_cons_zero, List.set_cons_succ, i64_w, i32_w]; rfl) ?_
   refine pur_ 5 (some 58) HT_.out rfl rfl (by kernel_rfl) (fun _ _ _ h => h) (by rfl) (fun w' => by go_simp; with_reducible rfl) (by simp only [Act.put, List.setIfInBounds_toArray, List.set_cons_zero, List.set_cons_succ, i64_w, i32_w]; rfl) ?_
   refine pur_ 6 (some 59) HT_.out rfl rfl (by kernel_rfl) (fun _ _ _ h => h) (by rfl) (fun w' => by go_simp; with_reducible rfl) (by simp only [Act.put, List.setIfInBounds_toArray, List.set_cons_zero, List.set_cons_succ, i64_w, i32_w]; rfl) ?_
   refine pur_ 8 (some 61) HT_.out rfl rfl (by kernel_rfl) (fun _ _ _ h => h) (by rfl) (fun w' => by go_simp; with_reducible rfl) (by simp only [Act.put, List.setIfInBounds_toArray, List.set_cons_zero, List.set_cons_succ, i64_w, i32_w]; rfl) ?_
   refine pur_ 11 (some 64) HT_.out rfl rfl (by kernel_rfl) (fun _ _ _ h => h) (by rfl) (fun w' => by go_simp; with_reducible rfl) (by simp only [Act.put, List.setIfInBounds_toArray, List.set_cons_zero, List.set_cons_succ, i64_w, i32_w]; rfl) ?_
   refine inv_at [4, 7, 9, 10, 12, 13, 14, 15, 16, 17, 18] (fun a0_ b a w' => a = putSel a0_ b [(4, 57, .slice (some ⟨G, 2, none⟩) 11 11), (7, 60, .slice (some ⟨G, 13, none⟩) 3 (c - 13)), (9, 62, .pointer (some ⟨G, 0, none⟩)), (10, 63, .int .i64 0), (12, 65, .pointer (some ⟨G, 1, none⟩)), (13, 66, .int .i64 1), (14, 67, .agg #[.int .i64 0, .int .i64 1]), (15, 68, .agg #[.int .u32 0, .slice (some ⟨G, 2, none⟩) 11 11, .slice (some ⟨G, 13, none⟩) 3 (c - 13), .int .i64 0, .int .i64 1]), (16, 69, .pointer (some ⟨vp, 0, none⟩)), (17, 70, .pointer (some ⟨vp, 6, none⟩))] ∧ (b 18 = false → Hid (w' = wz)) ∧ (b 18 = true → Hid (w' = ((((wz.setCell ⟨vp, 6, none⟩ (.int .u32 0)).setCell ⟨vp, 7, none⟩ (.slice (some ⟨G, 2, none⟩) 11 11)).setCell ⟨vp, 8, none⟩ (.slice (some ⟨G, 13, none⟩) 3 (c - 13))).setCell ⟨vp, 9, none⟩ (.int .i64 0)).setCell ⟨vp, 10, none⟩ (.int .i64 1)))) HT_.out HW_.out (by kernel_rfl) (by kernel_rfl) ?_ ?_ ?_
   ·exact ⟨by simp only [putSel, Bool.false_eq_true, if_false], fun _ => VB.out, fun h_ => absurd h_ (by decide)⟩
   ·skip
    clear VB
    refine steps_cons ?_ ?_
    ·rintro b a w' ⟨ha, Q_VB, Q_VS⟩ hb_ hon hoff
     refine ⟨_, rfl, fun K hK => ?_⟩
     have e54 : a.tmps[54]? = some (.slice (some ⟨G, 0, none⟩) 16 c) := by rw [ha]; exact (putSel_off rfl).trans rfl
     have e55 : a.tmps[55]? = some (.int .i64 13) := by rw [ha]; exact (putSel_off rfl).trans rfl
     have e56 : a.tmps[56]? = some (.int .i64 13) := by rw [ha]; exact (putSel_off rfl).trans rfl
     replace ha := Aside0.mk ha
     have VB := Aside0.mk (Q_VB (hoff 18 (by kernel_rfl)))
     have hcap_ := hcapz
     have hcap2_ := hcap2z
     refine value_ (w1 := w') (v := .slice (some ⟨G, 2, none⟩) 11 11) (by rfl) rfl ?_ ?_
     ·go_simp
      (try simp only [i64_w])
      try rfl
     refine hK.out _ _ ⟨(ptup_ ha.out 0 hb_ rfl rfl rfl), Q_VB, off_ (hoff 18 (by kernel_rfl))⟩
    refine steps_cons ?_ ?_
    ·rintro b a w' ⟨ha, Q_VB, Q_VS⟩ hb_ hon hoff
     refine ⟨_, rfl, fun K hK => ?_⟩
     have e58 : a.tmps[58]? = some (.slice (some ⟨G, 0, none⟩) 16 c) := by rw [ha]; exact (putSel_off rfl).trans rfl
     have e59 : a.tmps[59]? = some (.int .i64 13) := by rw [ha]; exact (putSel_off rfl).trans rfl
     replace ha := Aside0.mk ha
     have VB := Aside0.mk (Q_VB (hoff 18 (by kernel_rfl)))
     have hcap_ := hcapz
     have hcap2_ := hcap2z
     have hcap3_ := hcap3z
     have hcne_ : ¬ c = 13 := by omega
     refine value_ (w1 := w') (v := .slice (some ⟨G, 13, none⟩) 3 (c - 13)) (by rfl) rfl ?_ ?_
     ·go_simp
      (try simp only [i64_w])
      try rfl
     refine hK.out _ _ ⟨(ptup_ ha.out 1 hb_ rfl rfl rfl), Q_VB, off_ (hoff 18 (by kernel_rfl))⟩
    refine steps_cons ?_ ?_
    ·rintro b a w' ⟨ha, Q_VB, Q_VS⟩ hb_ hon hoff
     refine ⟨_, rfl, fun K hK => ?_⟩
     have e61 : a.tmps[61]? = some (.slice (some ⟨G, 0, none⟩) 16 c) := by rw [ha]; exact (putSel_off rfl).trans rfl
     replace ha := Aside0.mk ha
     have VB := Aside0.mk (Q_VB (hoff 18 (by kernel_rfl)))
     refine value_ (w1 := w') (v := .pointer (some ⟨G, 0, none⟩)) (by rfl) rfl ?_ ?_
     ·go_simp
      (try simp only [i64_w])
      try rfl
     refine hK.out _ _ ⟨(ptup_ ha.out 2 hb_ rfl rfl rfl), Q_VB, off_ (hoff 18 (by kernel_rfl))⟩
    refine steps_cons ?_ ?_
    ·rintro b a w' ⟨ha, Q_VB, Q_VS⟩ hb_ hon hoff
     refine ⟨_, rfl, fun K hK => ?_⟩
     have e62 : a.tmps[62]? = some (.pointer (some ⟨G, 0, none⟩)) := pton_ ha 2 rfl rfl (hon 9 (by kernel_rfl)) rfl
     replace ha := Aside0.mk ha
     have VB := Aside0.mk (Q_VB (hoff 18 (by kernel_rfl)))
     have hc_ : w'.cell? ⟨G, 0, none⟩ = some (.int .i64 0) := by rw [VB.out.out]; exact HGz.out.1
     refine value_ (w1 := w') (v := .int .i64 0) (by rfl) rfl ?_ ?_
     ·go_simp
      (try simp only [i64_w])
      try rfl
     refine hK.out _ _ ⟨(ptup_ ha.out 3 hb_ rfl rfl rfl), Q_VB, off_ (hoff 18 (by kernel_rfl))⟩
    refine steps_cons ?_ ?_
    ·rintro b a w' ⟨ha, Q_VB, Q_VS⟩ hb_ hon hoff
     refine ⟨_, rfl, fun K hK => ?_⟩
     have e64 : a.tmps[64]? = some (.slice (some ⟨G, 0, none⟩) 16 c) := by rw [ha]; exact (putSel_off rfl).trans rfl
     replace ha := Aside0.mk ha
     have VB := Aside0.mk (Q_VB (hoff 18 (by kernel_rfl)))
     refine value_ (w1 := w') (v := .pointer (some ⟨G, 1, none⟩)) (by rfl) rfl ?_ ?_
     ·go_simp
      (try simp only [i64_w])
      try rfl
     refine hK.out _ _ ⟨(ptup_ ha.out 4 hb_ rfl rfl rfl), Q_VB, off_ (hoff 18 (by kernel_rfl))⟩
    refine steps_cons ?_ ?_
    ·rintro b a w' ⟨ha, Q_VB, Q_VS⟩ hb_ hon hoff
     refine ⟨_, rfl, fun K hK => ?_⟩
     have e65 : a.tmps[65]? = some (.pointer (some ⟨G, 1, none⟩)) := pton_ ha 4 rfl rfl (hon 12 (by kernel_rfl)) rfl
     replace ha := Aside0.mk ha
     have VB := Aside0.mk (Q_VB (hoff 18 (by kernel_rfl)))
     have hc_ : w'.cell? ⟨G, 1, none⟩ = some (.int .i64 1) := by rw [VB.out.out]; exact HGz.out.2
     refine value_ (w1 := w') (v := .int .i64 1) (by rfl) rfl ?_ ?_
     ·go_simp
      (try simp only [i64_w])
      try rfl
     refine hK.out _ _ ⟨(ptup_ ha.out 5 hb_ rfl rfl rfl), Q_VB, off_ (hoff 18 (by kernel_rfl))⟩
    refine steps_cons ?_ ?_
    ·rintro b a w' ⟨ha, Q_VB, Q_VS⟩ hb_ hon hoff
     refine ⟨_, rfl, fun K hK => ?_⟩
     have e63 : a.tmps[63]? = some (.int .i64 0) := pton_ ha 3 rfl rfl (hon 10 (by kernel_rfl)) rfl
     have e66 : a.tmps[66]? = some (.int .i64 1) := pton_ ha 5 rfl rfl (hon 13 (by kernel_rfl)) rfl
     replace ha := Aside0.mk ha
     have VB := Aside0.mk (Q_VB (hoff 18 (by kernel_rfl)))
     refine value_ (w1 := w') (v := .agg #[.int .i64 0, .int .i64 1]) (by rfl) rfl ?_ ?_
     ·go_simp
      (try simp only [i64_w])
      try rfl
     refine hK.out _ _ ⟨(ptup_ ha.out 6 hb_ rfl rfl rfl), Q_VB, off_ (hoff 18 (by kernel_rfl))⟩
    refine steps_cons ?_ ?_
    ·rintro b a w' ⟨ha, Q_VB, Q_VS⟩ hb_ hon hoff
     refine ⟨_, rfl, fun K hK => ?_⟩
     have e57 : a.tmps[57]? = some (.slice (some ⟨G, 2, none⟩) 11 11) := pton_ ha 0 rfl rfl (hon 4 (by kernel_rfl)) rfl
     have e60 : a.tmps[60]? = some (.slice (some ⟨G, 13, none⟩) 3 (c - 13)) := pton_ ha 1 rfl rfl (hon 7 (by kernel_rfl)) rfl
     have e67 : a.tmps[67]? = some (.agg #[.int .i64 0, .int .i64 1]) := pton_ ha 6 rfl rfl (hon 14 (by kernel_rfl)) rfl
     replace ha := Aside0.mk ha
     have VB := Aside0.mk (Q_VB (hoff 18 (by kernel_rfl)))
     refine value_ (w1 := w') (v := .agg #[.int .u32 0, .slice (some ⟨G, 2, none⟩) 11 11, .slice (some ⟨G, 13, none⟩) 3 (c - 13), .int .i64 0, .int .i64 1]) (by rfl) rfl ?_ ?_
     ·go_simp
      (try simp only [i64_w])
      try rfl
     refine hK.out _ _ ⟨(ptup_ ha.out 7 hb_ rfl rfl rfl), Q_VB, off_ (hoff 18 (by kernel_rfl))⟩
    refine steps_cons ?_ ?_
    ·rintro b a w' ⟨ha, Q_VB, Q_VS⟩ hb_ hon hoff
     refine ⟨_, rfl, fun K hK => ?_⟩
     have e53 : a.tmps[53]? = some (.pointer (some ⟨vp, 0, none⟩)) := by rw [ha]; exact (putSel_off rfl).trans rfl
     replace ha := Aside0.mk ha
     have VB := Aside0.mk (Q_VB (hoff 18 (by kernel_rfl)))
     refine value_ (w1 := w') (v := .pointer (some ⟨vp, 0, none⟩)) (by rfl) rfl ?_ ?_
     ·go_simp
      (try simp only [i64_w])
      try rfl
     refine hK.out _ _ ⟨(ptup_ ha.out 8 hb_ rfl rfl rfl), Q_VB, off_ (hoff 18 (by kernel_rfl))⟩
    refine steps_cons ?_ ?_
    ·rintro b a w' ⟨ha, Q_VB, Q_VS⟩ hb_ hon hoff
     refine ⟨_, rfl, fun K hK => ?_⟩
     have e69 : a.tmps[69]? = some (.pointer (some ⟨vp, 0, none⟩)) := pton_ ha 8 rfl rfl (hon 16 (by kernel_rfl)) rfl
     replace ha := Aside0.mk ha
     have VB := Aside0.mk (Q_VB (hoff 18 (by kernel_rfl)))
     refine value_ (w1 := w') (v := .pointer (some ⟨vp, 6, none⟩)) (by rfl) rfl ?_ ?_
     ·go_simp
      (try simp only [i64_w])
      try rfl
     refine hK.out _ _ ⟨(ptup_ ha.out 9 hb_ rfl rfl rfl), Q_VB, off_ (hoff 18 (by kernel_rfl))⟩
    refine steps_cons ?_ ?_
    ·rintro b a w' ⟨ha, Q_VB, Q_VS⟩ hb_ hon hoff
     refine ⟨_, rfl, fun K hK => ?_⟩
     have e70 : a.tmps[70]? = some (.pointer (some ⟨vp, 6, none⟩)) := pton_ ha 9 rfl rfl (hon 17 (by kernel_rfl)) rfl
     have e68 : a.tmps[68]? = some (.agg #[.int .u32 0, .slice (some ⟨G, 2, none⟩) 11 11, .slice (some ⟨G, 13, none⟩) 3 (c - 13), .int .i64 0, .int .i64 1]) := pton_ ha 7 rfl rfl (hon 15 (by kernel_rfl)) rfl
     replace ha := Aside0.mk ha
     have VB := Aside0.mk (Q_VB hb_)
     have HVw := HVz.out
     rw [← VB.out.out] at HVw
     have zc6_ : w'.cell? ⟨vp, 6, none⟩ = some (.int .u32 0) := (blk_cell HVw 6).trans rfl
     have zc7_ : w'.cell? ⟨vp, 7, none⟩ = some (.slice none 0 0) := (blk_cell HVw 7).trans rfl
     have zc8_ : w'.cell? ⟨vp, 8, none⟩ = some (.slice none 0 0) := (blk_cell HVw 8).trans rfl
     have zc9_ : w'.cell? ⟨vp, 9, none⟩ = some (.int .i64 0) := (blk_cell HVw 9).trans rfl
     have zc10_ : w'.cell? ⟨vp, 10, none⟩ = some (.int .i64 0) := (blk_cell HVw 10).trans rfl
     have zf6_ := blk_frozen HVw 6
     have zf7_ := blk_frozen HVw 7
     have zf8_ := blk_frozen HVw 8
     have zf9_ := blk_frozen HVw 9
     have zf10_ := blk_frozen HVw 10
     refine skip_ (w1 := ((((w'.setCell ⟨vp, 6, none⟩ (.int .u32 0)).setCell ⟨vp, 7, none⟩ (.slice (some ⟨G, 2, none⟩) 11 11)).setCell ⟨vp, 8, none⟩ (.slice (some ⟨G, 13, none⟩) 3 (c - 13))).setCell ⟨vp, 9, none⟩ (.int .i64 0)).setCell ⟨vp, 10, none⟩ (.int .i64 1)) (by rfl) rfl ?_ ?_
     ·go_simp
      try simp only [zc6_, zf6_, zc7_, zf7_, zc8_, zf8_, zc9_, zf9_, zc10_, zf10_]
      try rfl
     refine hK.out _ _ ⟨(by rw [ha.out]; exact putSel_none (v := undef) rfl), fun h0_ => absurd ((up_self b 18).symm.trans h0_) (by decide), fun _ => Lib.hid (by rw [VB.out.out])⟩
    exact steps_nil
   ·rintro b a w' hall ⟨ha, Q_VB, Q_VS⟩
    clear VB
    have hb4_ := hall 4 (by kernel_rfl)
    have hb7_ := hall 7 (by kernel_rfl)
    have hb9_ := hall 9 (by kernel_rfl)
    have hb10_ := hall 10 (by kernel_rfl)
    have hb12_ := hall 12 (by kernel_rfl)
    have hb13_ := hall 13 (by kernel_rfl)
    have hb14_ := hall 14 (by kernel_rfl)
    have hb15_ := hall 15 (by kernel_rfl)
    have hb16_ := hall 16 (by kernel_rfl)
    have hb17_ := hall 17 (by kernel_rfl)
    have hb18_ := hall 18 (by kernel_rfl)
    subst ha
    simp only [putSel, hb4_, hb7_, hb9_, hb10_, hb12_, hb13_, hb14_, hb15_, hb16_, hb17_, hb18_, if_true, Act.put, List.setIfInBounds_toArray, List.set_cons_zero, List.set_cons_succ]
    clear Q_VB
    have VS := Aside0.mk (Q_VS hb18_)
    clear Q_VS
    clear hall hb4_ hb7_ hb9_ hb10_ hb12_ hb13_ hb14_ hb15_ hb16_ hb17_ hb18_
    have hw_ := VS.out.out
    rw [← HWZ.out] at hw_
    have hM9 : Mods ar.M w w10.drew := HI2.out.2.1.trans ((Mods.refl _ w10).drewN 1)
    have hv9 : w10.drew.heap[vp]? = _ := HI2.out.2.2.1
    have hz9 := volput hv9 (.int .u32 0) (.slice (some ⟨G, 2, none⟩) 11 11) (.slice (some ⟨G, 13, none⟩) 3 (c - 13)) (.int .i64 0) (.int .i64 1)
    have hm9 := volmods (w := w10.drew) (w' := w10.drew) (S := fun k => k = vp) (Mods.refl _ _) (.inl rfl) (.int .u32 0) (.slice (some ⟨G, 2, none⟩) 11 11) (.slice (some ⟨G, 13, none⟩) 3 (c - 13)) (.int .i64 0) (.int .i64 1)
    have hM9' := volmods (w := w) (w' := w10.drew) (S := ar.M) (g := vp) hM9 (.inr HVP.out.1) (.int .u32 0) (.slice (some ⟨G, 2, none⟩) 11 11) (.slice (some ⟨G, 13, none⟩) 3 (c - 13)) (.int .i64 0) (.int .i64 1)
    have hA9 := (HI2.out.1.below (bl_drew (Below.refl _ _))).mods hm9 (fun k hk => HM.out.2 k (by have h_ := HVP.out.1; omega))
    have hR9 := hm9.reads (A := some ⟨G, 0, none⟩) (HR.out.below (bl_drew (Below.refl _ _))) (fun x hx hS => by obtain rfl := Option.some.inj hx; have h_ := HGT.out.1; have h2_ : G = vp := hS; omega)
    have hs9 : w10.heap.size ≤ _ := hm9.size
    rw [← hw_] at hz9 hM9' hA9 hR9 hs9
    have H9 := Lib.hid (And.intro hz9 (And.intro hM9' (And.intro hA9 (And.intro hR9 hs9))))
    clear hw_ hM9 hv9 hz9 hm9 hM9' hA9 hR9 hs9 VS HWZ HVz HGz HI2
    generalize w' = w11 at H9 ⊢
    go_wp2_with fail
    have hsz : w.heap.size ≤ w11.heap.size := H9.out.2.1.size
    have HO9 := Lib.hid (HM.out.2 vp HVP.out.1)
    refine (save_any ar (fun k => w.heap.size ≤ k ∧ k ≠ vp) (fun k => w.heap.size ≤ k ∧ k ≠ vp) (blankS 16) vp T0 w11 ⟨HF.out.1, fun k hk hM => by have h_ := HM.out.1 k hM; omega, fun k hk => ⟨by omega, by have h_ := H9.out.2.2.2.2; have h2_ := HGT.out.1; have h3_ := HGT.out.2.1; omega⟩, fun k hk hM => by have h_ := HM.out.1 k hM; omega, fun k hk => hk.2, fun k hk => ⟨by omega, by have h_ := H9.out.2.2.2.2; have h2_ := HGT.out.1; have h3_ := HGT.out.2.1; omega⟩, ⟨HO9.out.1, HO9.out.2.1, HO9.out.2.2.1, HO9.out.2.2.2.1, HO9.out.2.2.2.2.1, fun e => e.2 rfl⟩, fun x hx => Nat.lt_of_lt_of_le (HF.out.2.2.2.1 x hx) hsz, fun x hx hp => Nat.lt_of_lt_of_le (HF.out.2.2.2.2.1 x hx hp) hsz⟩ H9.out.2.2.1.anyok
     ⟨_, _, _, _, H9.out.1, ⟨_, _, _, _, rfl, Nat.le_refl _, by have h_ := HGT.out.2.2; show 3 ≤ c - 13; omega, by decide, row_piece H9.out.2.2.2.1 2 (by decide) (by decide) (by decide), row_piece H9.out.2.2.2.1 13 (by decide) (by decide) (by decide), by have h_ := HGT.out.1; have h2_ := HVP.out.1; show w.heap.size ≤ G ∧ G ≠ vp; omega, fun x hx _ => by obtain rfl := Option.some.inj hx; have h_ := HGT.out.1; have h2_ := HVP.out.1; show w.heap.size ≤ G ∧ G ≠ vp; omega⟩⟩ T0_ok (by decide) (by decide)).mono ?_
    rintro e w12 ⟨rfl, hA12, hV12, hM12⟩
    rw [fmt_save HKD.out] at hA12 hV12 ⊢
    have H12 := Lib.hid (And.intro hA12 hM12)
    clear hA12 hV12 hM12
    go_wp2_with fail
    go_ret2
    exact ⟨vp, rfl, H12.out.1.okmono (fun k hk => HF.out.2.2.1 k hk.1), mods_old H9.out.2.1 H12.out.2 (fun k hk hlt => hk.resolve_right (fun e => by have h_ := HVP.out.1; omega))⟩
end Go.Proofs.Ytffalemndjampaa
end
section
set_option linter.unusedVariables false
set_option linter.unusedSimpArgs false
namespace Go.Proofs.Ytffalemndjampaa
open Go.RowKit Go.Proofs.YtffalemndjampaaW.PrintWords Go.Proofs.YtffalemndjampaaW.PrintLast
theorem byt_at {xs : List Int} (hb : Byt xs) {j : Nat} (h : j < xs.length) : 0 ≤ xs.getD j 0 ∧ xs.getD j 0 < 256 :=
 hb _ (by rw [List.getD_eq_getElem?_getD, List.getElem?_eq_getElem h]; simp)
set_option maxHeartbeats 4000000 in
set_option maxRecDepth 100000 in
theorem of2_any (A : Option Addr) (c n : Nat) (xs : List Int) (w : World) (hr : ReadsInt w .u8 A n xs) (hb : Byt xs) (hn : n ≤ 1000000) :
  Calls Try.prog 52 #[.slice A n c] w fun e w' => e = .returned (.int .u32 (crcOf xs)) ∧ w' = w := by
 have hlen := hr.1
 have HR := Lib.hid hr
 have HB := Lib.hid hb
 clear hr hb
 go_enter Try.func52, Try.ntmps52
 go_wp2
 go_loopw [3, 4] (fun a i wr => ∃ (k : Nat) (S : BitVec 32), k ≤ n ∧ i = .int .i64 (k : Int) ∧ a = .int .u32 (S.toNat : Int) ∧ Hid (S = crcS (~~~ 0#32) (xs.take k)) ∧ Hid (wr = w)) (fun _ i _ => n - (intOf i).toNat)
 case atStart => exact ⟨0, ~~~ 0#32, Nat.zero_le _, rfl, by rfl, Lib.hid rfl, Lib.hid rfl⟩
 case round =>
  obtain ⟨k, S, hk, rfl, rfl, HS, HW⟩ := hrel
  by_cases hlt : k < n
  ·have hki : (k : Int) < (n : Int) := by omega
   obtain ⟨ad2, he2, hc2⟩ := HR.out.at_ (k : Int) (by omega) (by omega)
   rw [← HW.out, Int.toNat_natCast, rd_getD] at hc2
   have hbx := byt_at HB.out (j := k) (by omega)
   have hnx := crcS_cons (~~~ 0#32) xs k (by omega)
   rw [← HS.out] at hnx
   obtain ⟨x, hx⟩ : ∃ x, xs.getD k 0 = x := ⟨_, rfl⟩
   rw [hx] at hc2 hbx hnx
   have hin := crc_in S x hbx
   obtain ⟨U, hU⟩ : ∃ U, S ^^^ crcV x = U := ⟨_, rfl⟩
   rw [hU] at hin hnx
   have HNX := Lib.hid hnx
   obtain ⟨hbx1, hbx2⟩ := hbx
   clear hx hU hnx
   go_wp2
   go_loopw [3, 5] (fun a i wr3 => ∃ (t : Nat) (V : BitVec 32), t ≤ 8 ∧ i = .int .i64 (t : Int) ∧ a = .int .u32 (V.toNat : Int) ∧ Hid (V = crcN t U) ∧ Hid (wr3 = w)) (fun _ i _ => 8 - (intOf i).toNat)
   case atStart => exact ⟨0, U, Nat.zero_le _, rfl, rfl, Lib.hid rfl, HW⟩
   case round =>
    obtain ⟨t, V, ht, rfl, rfl, HV, HW3⟩ := hrel
    by_cases hlt3 : t < 8
    ·have hV := V.isLt
     have hti : (t : Int) < 8 := by omega
     have hb0 : V.getLsbD 0 = decide (V.toNat % 2 = 1) := by rw [BitVec.getLsbD, Nat.testBit_zero]
     have e1 : Int.tdiv (V.toNat : Int) 2 = (V.toNat : Int) / 2 := Int.tdiv_eq_ediv_of_nonneg (by omega)
     have e3 : (V.toNat : Int) / 2 % 4294967296 = (V.toNat : Int) / 2 := by omega
     by_cases h2 : V.toNat % 2 = 1
     ·have e2 : Int.tmod (V.toNat : Int) 2 = 1 := by rw [Int.tmod_eq_emod_of_nonneg (by omega)]; omega
      have hs := crc_odd (x := V) (by rw [hb0]; simp [h2])
      clear hb0 h2
      go_wp2
      go_roundw
      case rel => exact ⟨t + 1, crcT V, by omega, by go_num, by first | rfl | (simp only [hs]; done) | (rw [← hs]; rfl), Lib.hid (by rw [HV.out, ← crcN_T]; rfl), HW3⟩
      case measure => simp [intOf]; omega
     ·have e2 : Int.tmod (V.toNat : Int) 2 = 0 := by rw [Int.tmod_eq_emod_of_nonneg (by omega)]; omega
      have hs := crc_even (x := V) (by rw [hb0]; simp [h2])
      clear hb0 h2
      go_wp2
      go_roundw
      case rel => exact ⟨t + 1, crcT V, by omega, by go_num, by first | rfl | (simp only [hs]; done) | (rw [← hs]; rfl), Lib.hid (by rw [HV.out, ← crcN_T]; rfl), HW3⟩
      case measure => simp [intOf]; omega
    ·obtain rfl : t = 8 := by omega
     go_wp2
     go_roundw
     case rel => exact ⟨k + 1, V, by omega, by go_num, rfl, Lib.hid (by rw [HNX.out]; exact HV.out), HW3⟩
     case measure => simp [intOf]; omega
  ·obtain rfl : k = n := by omega
   have hS := S.isLt
   have hnot : (4294967295 : Int) - (S.toNat : Int) = ((4294967295 - S.toNat : Nat) : Int) := by omega
   go_wp2
   go_ret
   refine ⟨?_, HW.out⟩
   have h1 : S = crcS (~~~ 0#32) xs := by have h_ := HS.out; rwa [← hlen, List.take_length] at h_
   rw [crcOf, ← h1, BitVec.toNat_not]
   rfl
theorem take_drop_snoc (o : List Int) (a k : Nat) (h : a + k < o.length) : (o.drop a).take (k + 1) = (o.drop a).take k ++ [o.getD (a + k) 0] := by
 rw [List.take_succ_eq_append_getElem (by rw [List.length_drop]; omega), List.getElem_drop, List.getD_eq_getElem?_getD, List.getElem?_eq_getElem h]; rfl
set_option maxHeartbeats 4000000 in
set_option maxRecDepth 100000 in
theorem num4_any (g c : Nat) (o : List Int) (w : World) (hr : ReadsInt w .u8 (some ⟨g, 256, none⟩) 64 o) (hb : Byt o) :
  Calls Try.prog 51 #[.slice (some ⟨g, 256, none⟩) 64 c, .int .i64 24, .int .i64 4] w fun e w' => e = .returned (.int .u64 (at_ o 24 4)) ∧ w' = w := by
 have hlen := hr.1
 have HR := Lib.hid hr
 have HB := Lib.hid hb
 clear hr hb
 go_enter Try.func51, Try.ntmps51
 go_wp2
 go_loopw [7, 8, 9] (fun v q i wr => ∃ k : Nat, k ≤ 4 ∧ i = .int .i64 (k : Int) ∧ v = .int .u64 (num ((o.drop 24).take k)) ∧ q = .int .u64 (256 ^ k) ∧ Hid (wr = w)) (fun _ _ i _ => 4 - (intOf i).toNat)
 case atStart => exact ⟨0, Nat.zero_le _, rfl, rfl, rfl, Lib.hid rfl⟩
 case round =>
  obtain ⟨k, hk, rfl, rfl, rfl, HW⟩ := hrel
  by_cases hlt : k < 4
  ·have hki : (k : Int) < 4 := by omega
   have hc2 : wr.cell? ⟨g, 280 + k, none⟩ = some (.int .u8 (o.getD (24 + k) 0)) := by
    obtain ⟨ad, e, hc⟩ := HR.out.2.2 (by decide)
    obtain rfl := Option.some.inj e
    rw [HW.out, show 280 + k = 256 + (24 + k) by omega, ← hc (24 + k) (by omega)]
    congr 1
    unfold Addr.add
    rw [if_neg (by omega)]
   have hbx := byt_at HB.out (j := 24 + k) (by omega)
   have hnx := num_snoc ((o.drop 24).take k) (o.getD (24 + k) 0)
   rw [← take_drop_snoc o 24 k (by omega)] at hnx
   have hl2 : ((o.drop 24).take k).length = k := by rw [List.length_take, List.length_drop]; omega
   rw [hl2] at hnx
   have hvb := num_bound ((o.drop 24).take k) (fun x hx => HB.out x (List.drop_subset _ _ (List.take_subset _ _ hx)))
   rw [hl2] at hvb
   obtain ⟨v, hv⟩ : ∃ v, num ((o.drop 24).take k) = v := ⟨_, rfl⟩
   obtain ⟨x, hx⟩ : ∃ x, o.getD (24 + k) 0 = x := ⟨_, rfl⟩
   rw [hv] at hnx hvb ⊢
   rw [hx] at hc2 hbx hnx
   have HNX := Lib.hid hnx
   clear hv hx hnx hl2
   obtain ⟨hbx1, hbx2⟩ := hbx
   have hk4 : k = 0 ∨ k = 1 ∨ k = 2 ∨ k = 3 := by omega
   rcases hk4 with rfl | rfl | rfl | rfl
   ·simp only [Int.reducePow] at *
    go_wp2
    exact ⟨⟨1, by decide, rfl, by have h_ := HNX.out; simp only [Nat.reduceAdd, Int.reducePow, Int.mul_one] at h_; rw [h_], rfl, HW⟩, by simp [intOf]⟩
   ·simp only [Int.reducePow] at *
    go_wp2
    exact ⟨⟨2, by decide, rfl, by have h_ := HNX.out; simp only [Nat.reduceAdd, Int.reducePow, Int.mul_one] at h_; rw [h_], rfl, HW⟩, by simp [intOf]⟩
   ·simp only [Int.reducePow] at *
    go_wp2
    exact ⟨⟨3, by decide, rfl, by have h_ := HNX.out; simp only [Nat.reduceAdd, Int.reducePow, Int.mul_one] at h_; rw [h_], rfl, HW⟩, by simp [intOf]⟩
   ·simp only [Int.reducePow] at *
    go_wp2
    exact ⟨⟨4, by decide, rfl, by have h_ := HNX.out; simp only [Nat.reduceAdd, Int.reducePow, Int.mul_one] at h_; rw [h_], rfl, HW⟩, by simp [intOf]⟩
  ·obtain rfl : k = 4 := by omega
   go_wp2
   go_ret
   exact ⟨rfl, HW.out⟩
def CfS (w wr : World) (b0 g : Nat) (ec : Array Value) (lf : List Int) (j : Nat) : Prop :=
 wr.ownsRow w.heap.size 5 1 (.slice (some ⟨g, 0, none⟩) 320 320) 320 (nums .u8 (leftAt lf j)) ∧ wr.heap[b0]? = some (.cells ec 104 (0, 0)) ∧ Below w.heap.size w wr
theorem leftAt_nil (j : Nat) (h : j ≤ 320) : leftAt [] 0 = leftAt [] j := by
 apply List.ext_getElem
 ·simp [leftAt_length, h]
 ·intro i h1 h2
  simp only [leftAt, List.range_zero, List.map_nil, List.nil_append, Nat.sub_zero, List.getElem_replicate]
  rw [List.getElem_append]
  split
  ·simp [cyc]
  ·simp
theorem zeros_any (W : World) : Calls Try.prog 50 #[.int .i64 320] W fun e w' => e = .returned (.slice (some ⟨W.heap.size, 0, none⟩) 320 320) ∧ w' = W.alloc (.cells (madeCells #[.int .u8 0] 320) 5) := by
 have hmk := print_make (P := Try.prog) 27 5 .u8 1 Try.underlying27 info5' (by decide) 320 (by omega)
 rw [show ((320 : Nat) : Int) = 320 from rfl] at hmk
 go_enter Try.func50, Try.ntmps50
 go_wp2_with fail
 go_ret
 exact ⟨rfl, rfl⟩
set_option maxHeartbeats 8000000 in
set_option maxRecDepth 100000 in
theorem cleft_any (cg : Nat) (v0 v1 v2 v4 v5 v6 v7 v8 : Value) (LA : Option Addr) (ln lc : Nat) (lf : List Int) (w : World) (h : w.heap[cg]? = some (.cells #[v0, v1, v2, .int .i64 256, v4, v5, v6, v7, v8] 102 (0, 0))) (hl : ReadsInt w .u8 LA ln lf) (hn : ln ≤ 1000) :
  Calls Try.prog 33 #[.pointer (some ⟨cg, 0, none⟩), .agg #[.int .i64 0, .int .i64 0, .int .i64 0, .slice LA ln lc]] w fun e w' => ∃ g, e = .returned (.slice (some ⟨g, 0, none⟩) 320 320) ∧ w.heap.size ≤ g ∧ Below w.heap.size w w' ∧ ReadsInt w' .u8 (some ⟨g, 0, none⟩) 320 (leftAt lf 320) := by
 have y3 : ∀ o1, (w.alloc o1).cell? ⟨cg, 3, none⟩ = some (.int .i64 256) := fun o1 => (blk_cell (blk_below h (bl_alloc (Below.refl _ _) o1)) 3).trans rfl
 have HL := Lib.hid hl
 have hlen := hl.1
 clear h hl
 go_enter Try.func33, Try.ntmps33
 go_wp2_with fail
 clear y3
 refine (zeros_any _).mono ?_
 rintro e W3 ⟨rfl, hW3⟩
 have ha := al2_ w #[.int .i64 0, .int .i64 0, .int .i64 0, .slice LA ln lc] (madeCells #[.int .u8 0] 320) 104 5
 have ho3 := own_made (w.alloc (.cells #[.int .i64 0, .int .i64 0, .int .i64 0, .slice LA ln lc] 104)) w.heap.size 5 .u8 320 (by simp) (by decide)
 simp only [World.size_alloc] at ho3 ⊢
 rw [← hW3] at ha ho3
 have H0 := Lib.hid (show CfS w W3 w.heap.size (w.heap.size + 1) #[.int .i64 0, .int .i64 0, .int .i64 0, .slice LA ln lc] lf 0 from ⟨ho3, ha.1, ha.2.2⟩)
 clear hW3 ha ho3
 obtain ⟨b0, hb0⟩ : ∃ b0, w.heap.size = b0 := ⟨_, rfl⟩
 have HB0 := Lib.hid hb0
 obtain ⟨g, hg⟩ : ∃ g, w.heap.size + 1 = g := ⟨_, rfl⟩
 rw [hg, hb0] at H0
 try rw [hg]
 try rw [hb0]
 have HG := Lib.hid (show w.heap.size ≤ g ∧ b0 ≠ g by omega)
 clear hb0 hg
 go_wp2_with fail
 go_loopw [6] (fun i wr => ∃ j : Nat, j ≤ 320 ∧ i = .int .i64 (j : Int) ∧ Hid (CfS w wr b0 g #[.int .i64 0, .int .i64 0, .int .i64 0, .slice LA ln lc] lf j)) (fun i _ => 320 - (intOf i).toNat)
 case atStart => exact ⟨0, Nat.zero_le _, rfl, H0⟩
 case round =>
  obtain ⟨j, hj, rfl, HS⟩ := hrel
  have e3 : wr.cell? ⟨b0, 3, none⟩ = some (.slice LA ln lc) := (blk_cell HS.out.2.1 3).trans rfl
  by_cases hl0 : ln = 0
  ·subst hl0
   have hnil : lf = [] := List.eq_nil_of_length_eq_zero hlen
   subst hnil
   have HN := Lib.hid ((leftAt_nil j hj).symm.trans (leftAt_nil 320 (Nat.le_refl _)))
   by_cases hlt : j < 320
   ·have hji : (j : Int) < 320 := by omega
    go_wp2_with fail
    go_ret
    exact ⟨g, rfl, HG.out.1, HS.out.2.2, own_reads' (HN.out ▸ HS.out.1)⟩
   ·obtain rfl : j = 320 := by omega
    go_wp2_with fail
    go_ret
    exact ⟨g, rfl, HG.out.1, HS.out.2.2, own_reads' HS.out.1⟩
  ·by_cases hlt : j < 320
   ·have hji : (j : Int) < 320 := by omega
    have f1 : decide ((0 : Int) < (ln : Int)) = true := decide_eq_true (by omega)
    have f2 : decide (0 < ln) = true := decide_eq_true (by omega)
    have f3 : (0 : Int) < (ln : Int) := by omega
    have hml : j % ln < ln := Nat.mod_lt _ (by omega)
    obtain ⟨ad, hA, hc⟩ := (HL.out.below HS.out.2.2).at_ ((j % ln : Nat) : Int) (by omega) (by omega)
    rw [Int.toNat_natCast, rd_getD] at hc
    have hcy : lf.getD (j % ln) 0 = cyc lf j := by rw [cyc, if_neg (by omega), hlen]
    rw [hcy] at hc
    have hst := (own_store HS.out.1 (j : Int) (cyc lf j)).1
    rw [Int.toNat_natCast, leftAt_set lf j hlt] at hst
    obtain ⟨hg1, hg2⟩ := own_at HS.out.1 (j : Int) (by omega) (by omega)
    rw [Int.toNat_natCast] at hg1 hg2
    subst hA
    have hnx := Lib.hid (show CfS w (wr.setCell ⟨g, j, none⟩ (.int .u8 (cyc lf j))) b0 g #[.int .i64 0, .int .i64 0, .int .i64 0, .slice (some ad) ln lc] lf (j + 1) from ⟨hst, blk_far HS.out.2.1 (p := ⟨g, j, none⟩) HG.out.2 _, bl_set HS.out.2.2 (p := ⟨g, j, none⟩) HG.out.1 _⟩)
    clear hst
    go_wp2_with fail
    go_region
    go_wp2_with fail
    go_roundw
    case rel => exact ⟨j + 1, by omega, by go_num, Lib.hid (show CfS w (World.drew _) b0 g #[.int .i64 0, .int .i64 0, .int .i64 0, .slice (some ad) ln lc] lf (j + 1) from ⟨hnx.out.1, hnx.out.2.1, bl_drew hnx.out.2.2⟩)⟩
    case measure => simp [intOf]; omega
   ·obtain rfl : j = 320 := by omega
    go_wp2_with fail
    go_ret
    exact ⟨g, rfl, HG.out.1, HS.out.2.2, own_reads' HS.out.1⟩
theorem reads_cut {w : World} {k : IntKind} {g o n m : Nat} {xs : List Int} (h : ReadsInt w k (some ⟨g, o, none⟩) n xs) (i : Nat) (hi : i + m ≤ n) (h0 : 0 < m) : ReadsInt w k (some ⟨g, o + i, none⟩) m ((xs.drop i).take m) := by
 refine ⟨by rw [List.length_take, List.length_drop, h.1]; omega, by have := h.2.1; omega, fun _ => ⟨_, rfl, fun j hj => ?_⟩⟩
 obtain ⟨ad, e, hc⟩ := h.2.2 (by omega)
 obtain rfl := Option.some.inj e
 have h_ := hc (i + j) (by omega)
 have e1 : ∀ a b, (⟨g, a, none⟩ : Addr).add b = ⟨g, a + b, none⟩ := fun a b => by
  unfold Addr.add
  by_cases hz : b = 0
  ·subst hz; simp
  ·simp [hz]
 rw [e1] at h_
 rw [e1, Nat.add_assoc, h_]
 simp only [List.getD_eq_getElem?_getD, List.getElem?_take, List.getElem?_drop, if_pos hj]
set_option maxHeartbeats 4000000 in
set_option maxRecDepth 100000 in
theorem sealed_any (g : Nat) (d o : List Int) (w : World) (hd : ReadsInt w .u8 (some ⟨g, 0, none⟩) 256 d) (ho : ReadsInt w .u8 (some ⟨g, 256, none⟩) 64 o) (bd : Byt d) (bo : Byt o) :
  Calls Try.prog 34 #[.slice (some ⟨g, 0, none⟩) 256 320, .slice (some ⟨g, 256, none⟩) 64 64] w fun e w' => e = .returned (.bool (decide (at_ o 24 4 = crcOf (o.take 24 ++ d ++ o.drop 32)))) ∧ Below w.heap.size w w' := by
 have h1 := reads_cut (m := 24) ho 0 (by decide) (by decide)
 have h3 := reads_cut (m := 32) ho 32 (by decide) (by decide)
 rw [List.drop_zero] at h1
 rw [List.take_of_length_le (by rw [List.length_drop, ho.1]; decide)] at h3
 have HR := Lib.hid (And.intro h1 (And.intro hd (And.intro h3 (And.intro ho (And.intro bd bo)))))
 obtain ⟨x1, hx1⟩ : ∃ x, o.take 24 = x := ⟨_, rfl⟩
 obtain ⟨x3, hx3⟩ : ∃ x, o.drop 32 = x := ⟨_, rfl⟩
 rw [hx1, hx3] at HR ⊢
 have l1 : x1.length = 24 := by rw [← hx1, List.length_take, ho.1]; decide
 have l3 : x3.length = 32 := by rw [← hx3, List.length_drop, ho.1]
 have L1 := Lib.hid (show ([] ++ x1).length = 24 ∧ ([] ++ x1 ++ d).length = 280 ∧ ([] ++ x1 ++ d ++ x3).length = 312 by simp only [List.length_append, List.length_nil, l1, hd.1, l3]; decide)
 have B1 := Lib.hid (show Byt ([] ++ x1 ++ d ++ x3) from byt_append (byt_append (by rw [List.nil_append, ← hx1]; exact fun x hx => bo x (List.take_subset _ _ hx)) bd) (by rw [← hx3]; exact fun x hx => bo x (List.drop_subset _ _ hx)))
 have HGW := Lib.hid (reads_lt hd (by decide) _ rfl)
 obtain ⟨q, hq⟩ : ∃ q, at_ o 24 4 = q := ⟨_, rfl⟩
 have HQ := Lib.hid hq
 rw [hq]
 clear h1 h3 hd ho bd bo hx1 hx3 l1 l3 hq
 go_enter Try.func34, Try.ntmps34
 have hbd := Lib.hid (crcOf_bound ([] ++ x1 ++ d ++ x3))
 go_wp2_with (at_builtin; first
  | (refine print_append_row (w0 := w) w.heap.size rfl (.tmp 6) (.tmp 8) 27 5 .u8 1 rfl Try.underlying27 info5' (by decide) (.slice none 0 0) [] x1 (some ⟨g, 256, none⟩) 24 64 rfl rfl (own_nil _ _ _ _) HR.out.1 (Below.refl _ _) (Nat.le_refl _) (by decide) ?_; intro v1 w1 ho1 hb1 hg1 hat1; rw [L1.out.1] at ho1; obtain ⟨A1, c1, rfl⟩ := own_sln ho1; have H1 := Lib.hid (And.intro ho1 hb1); clear ho1 hb1 hg1 hat1)
  | (refine print_append_row (w0 := w) w.heap.size rfl (.tmp 10) (.tmp 11) 27 5 .u8 1 rfl Try.underlying27 info5' (by decide) (.slice A1 24 c1) ([] ++ x1) d (some ⟨g, 0, none⟩) 256 320 rfl rfl (by rw [L1.out.1]; exact H1.out.1) (HR.out.2.1.below H1.out.2) H1.out.2 H1.out.2.size (by rw [L1.out.1]; decide) ?_; intro v1 w2 ho1 hb1 hg1 hat1; rw [L1.out.2.1] at ho1; obtain ⟨A2, c2, rfl⟩ := own_sln ho1; have H2 := Lib.hid (And.intro ho1 hb1); clear ho1 hb1 hg1 hat1)
  | (refine print_append_row (w0 := w) w.heap.size rfl (.tmp 13) (.tmp 15) 27 5 .u8 1 rfl Try.underlying27 info5' (by decide) (.slice A2 280 c2) ([] ++ x1 ++ d) x3 (some ⟨g, 288, none⟩) 32 32 rfl rfl (by rw [L1.out.2.1]; exact H2.out.1) (HR.out.2.2.1.below H2.out.2) H2.out.2 H2.out.2.size (by rw [L1.out.2.1]; decide) ?_; intro v1 w3 ho1 hb1 hg1 hat1; rw [L1.out.2.2] at ho1; obtain ⟨A3, c3, rfl⟩ := own_sln ho1; have H3 := Lib.hid (And.intro ho1 hb1); clear ho1 hb1 hg1 hat1))
 refine (num4_any g 64 o _ (HR.out.2.2.2.1.below H3.out.2) HR.out.2.2.2.2.2).mono ?_
 rintro e w4 ⟨rfl, rfl⟩
 rw [HQ.out]
 go_wp2_with fail
 refine (of2_any A3 c3 312 ([] ++ x1 ++ d ++ x3) _ (own_reads' H3.out.1) B1.out (by decide)).mono ?_
 rintro e w5 ⟨rfl, rfl⟩
 obtain ⟨s, hs⟩ : ∃ s, crcOf ([] ++ x1 ++ d ++ x3) = s := ⟨_, rfl⟩
 rw [hs] at hbd ⊢
 have hs1 := hbd.out.1
 have hs2 := hbd.out.2
 rw [List.nil_append] at hs
 by_cases hqs : q = s
 ·have hdq : (q == s) = true := by rw [hqs]; simp
  have hdq2 : decide (q = s) = true := decide_eq_true hqs
  go_wp2_with fail
  go_ret
  exact ⟨by rw [hs, hdq2]; rfl, H3.out.2⟩
 ·have hdq : (q == s) = false := by simpa using hqs
  have hdq2 : decide (q = s) = false := decide_eq_false hqs
  go_wp2_with fail
  go_ret
  exact ⟨by rw [hs, hdq2]; rfl, H3.out.2⟩
end Go.Proofs.Ytffalemndjampaa
end
