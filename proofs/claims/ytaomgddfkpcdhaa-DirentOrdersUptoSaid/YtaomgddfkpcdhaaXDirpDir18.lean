import Derived.Test.YtaomgddfkpcdhaaXDirpRef3
/-! The plain laws of the entries' names. -/
set_option linter.unusedVariables false
set_option linter.unusedSimpArgs false
namespace Go.Proofs.Ytaomgddfkpcdhaa.XDir
open Go.RowKit Go.Proofs.YtaomgddfkpcdhaaW.PrintWords Go.Proofs.YtaomgddfkpcdhaaW.PrintLast Go.Proofs.YtaomgddfkpcdhaaW.PrintMore
abbrev En := S28
theorem rdE (l : List En) (i : Nat) (h : i < l.length) : rd_T28 l (i : Int) = l[i] := by simp [rd_T28, List.getD_eq_getElem?_getD, h]
theorem rdB (l : List ByteArray) (i : Nat) (h : i < l.length) : rdOf ByteArray.empty l (i : Int) = l[i] := by simp [rdOf, List.getD_eq_getElem?_getD, h]
theorem tl_iff (x y : ByteArray) : x.toList = y.toList ↔ x = y := by
  rw [ByteArray.toList_eq, ByteArray.toList_eq]
  constructor
  · intro h
    cases x; cases y
    simp only [ByteArray.mk.injEq]
    exact Array.toList_inj.1 h
  · intro h; rw [h]
theorem ord_true : gabionlaw18_ordered.f = some true := by kernel_rfl
/-- How often a name stands there. -/
def cntE (x : ByteArray) (l : List En) : Nat := l.countP fun e => decide (e.f0 ≠ 0) && decide (e.f1 = x)
def nzE (l : List En) : Nat := l.countP fun e => decide (e.f0 ≠ 0)
theorem namesL_cnt (x : ByteArray) (l : List En) : (namesL l).countP (fun y => decide (y = x)) = cntE x l := by
  have h : ∀ (l : List En) out, (l.foldl (fun out e => if e.f0 = 0 then out else insS e.f1 out) out).countP (fun y => decide (y = x)) = out.countP (fun y => decide (y = x)) + cntE x l := by
    intro l
    induction l with
    | nil => intro out; simp [cntE]
    | cons e l ih =>
      intro out
      rw [List.foldl_cons, ih]
      unfold cntE
      rw [List.countP_cons]
      by_cases h0 : e.f0 = 0
      · simp [h0]
      · rw [if_neg h0, insS_count]
        simp [h0]
        omega
  have h_ := h l []
  simpa [namesL] using h_
theorem namesL_nz (l : List En) : (namesL l).length = nzE l := by
  have h : ∀ (l : List En) out, (l.foldl (fun out e => if e.f0 = 0 then out else insS e.f1 out) out).length = out.length + nzE l := by
    intro l
    induction l with
    | nil => intro out; simp [nzE]
    | cons e l ih =>
      intro out
      rw [List.foldl_cons, ih]
      unfold nzE
      rw [List.countP_cons]
      by_cases h0 : e.f0 = 0
      · simp [h0]
      · rw [if_neg h0, insS_length]
        simp [h0]
        omega
  have h_ := h l []
  simpa [namesL] using h_
theorem o_l1 (l : List En) (xs : List ByteArray) (n : Int) (i : Nat) (hi : i < l.length) (b : Int) (r : Bool) (hL : l.length ≤ 1000) : ∀ (m q a : Nat), q + m = l.length → a ≤ q →
    Ev (fun k => gabionlaw18_DirentOrders.l2 k l xs n (i : Int) ((a + cntE l[i].f1 (l.drop q) : Nat) : Int) b 0) r → Ev (fun k => gabionlaw18_DirentOrders.l1 k l xs n (i : Int) (a : Int) b (q : Int)) r := by
  intro m
  induction m with
  | zero =>
    intro q a h1 h2 h
    refine Ev.step (fun k => ?_) h
    simp only [gabionlaw18_DirentOrders.l1]
    rw [if_neg (by omega), List.drop_of_length_le (by omega)]
    simp [cntE]
  | succ m ih =>
    intro q a h1 h2 h
    have hq : q < l.length := by omega
    have hd : l.drop q = l[q] :: l.drop (q + 1) := List.drop_eq_getElem_cons hq
    rw [hd, cntE, List.countP_cons] at h
    by_cases h0 : l[q].f0 = 0
    · refine Ev.step (f := fun k => gabionlaw18_DirentOrders.l1 k l xs n (i : Int) (a : Int) b ((q + 1 : Nat) : Int)) (fun k => ?_) (ih (q + 1) a (by omega) (by omega) (by simpa [h0, cntE] using h))
      simp only [gabionlaw18_DirentOrders.l1]
      rw [if_pos (by omega), if_pos (by omega), rdE l q hq, if_pos h0, w64_succ q (by omega)]
    · by_cases he : l[q].f1 = l[i].f1
      · refine Ev.step (f := fun k => gabionlaw18_DirentOrders.l1 k l xs n (i : Int) ((a + 1 : Nat) : Int) b ((q + 1 : Nat) : Int)) (fun k => ?_) (ih (q + 1) (a + 1) (by omega) (by omega) (by simpa [h0, he, cntE, Nat.add_assoc, Nat.add_comm 1] using h))
        simp only [gabionlaw18_DirentOrders.l1]
        rw [if_pos (by omega), if_pos (by omega), rdE l q hq, if_neg h0, if_pos (by omega), if_pos (by omega), rdE l i hi, if_pos ((tl_iff _ _).2 he), w64_succ q (by omega), w64_succ a (by omega)]
      · refine Ev.step (f := fun k => gabionlaw18_DirentOrders.l1 k l xs n (i : Int) (a : Int) b ((q + 1 : Nat) : Int)) (fun k => ?_) (ih (q + 1) a (by omega) (by omega) (by simpa [h0, he, cntE] using h))
        simp only [gabionlaw18_DirentOrders.l1]
        rw [if_pos (by omega), if_pos (by omega), rdE l q hq, if_neg h0, if_pos (by omega), if_pos (by omega), rdE l i hi, if_neg (fun e => he ((tl_iff _ _).1 e)), w64_succ q (by omega)]
theorem o_l2 (l : List En) (xs : List ByteArray) (n : Int) (i : Nat) (hi : i < l.length) (a : Int) (r : Bool) (hL : l.length ≤ 1000) (hX : xs.length ≤ 1000) : ∀ (m q b : Nat), q + m = xs.length → b ≤ q →
    Ev (fun k => if a = ((b + (xs.drop q).countP (fun y => decide (y = l[i].f1)) : Nat) : Int) then gabionlaw18_DirentOrders.l0 k l xs n ((i + 1 : Nat) : Int) else some false) r → Ev (fun k => gabionlaw18_DirentOrders.l2 k l xs n (i : Int) a (b : Int) (q : Int)) r := by
  intro m
  induction m with
  | zero =>
    intro q b h1 h2 h
    refine Ev.step (fun k => ?_) h
    simp only [gabionlaw18_DirentOrders.l2]
    rw [if_neg (by omega), List.drop_of_length_le (by omega), w64_succ i (by omega)]
    simp only [List.countP_nil, Nat.add_zero]
    try rfl
  | succ m ih =>
    intro q b h1 h2 h
    have hq : q < xs.length := by omega
    have hd : xs.drop q = xs[q] :: xs.drop (q + 1) := List.drop_eq_getElem_cons hq
    rw [hd, List.countP_cons] at h
    by_cases he : xs[q] = l[i].f1
    · refine Ev.step (f := fun k => gabionlaw18_DirentOrders.l2 k l xs n (i : Int) a ((b + 1 : Nat) : Int) ((q + 1 : Nat) : Int)) (fun k => ?_) (ih (q + 1) (b + 1) (by omega) (by omega) (by simpa [he, Nat.add_assoc, Nat.add_comm 1] using h))
      simp only [gabionlaw18_DirentOrders.l2]
      rw [if_pos (by omega), if_pos (by omega), if_pos (by omega), if_pos (by omega), rdB xs q hq, rdE l i hi, if_pos ((tl_iff _ _).2 he), w64_succ q (by omega), w64_succ b (by omega)]
    · refine Ev.step (f := fun k => gabionlaw18_DirentOrders.l2 k l xs n (i : Int) a (b : Int) ((q + 1 : Nat) : Int)) (fun k => ?_) (ih (q + 1) b (by omega) (by omega) (by simpa [he] using h))
      simp only [gabionlaw18_DirentOrders.l2]
      rw [if_pos (by omega), if_pos (by omega), if_pos (by omega), if_pos (by omega), rdB xs q hq, rdE l i hi, if_neg (fun e => he ((tl_iff _ _).1 e)), w64_succ q (by omega)]
theorem o_l3 (xs : List ByteArray) (hs : SortedS xs) (hz : ∀ x ∈ xs, x.size ≤ 1000) (hX : xs.length ≤ 1000) : ∀ (m q : Nat), 1 ≤ q → xs.length ≤ q + m → q ≤ xs.length + 1 →
    Ev (fun k => gabionlaw18_DirentOrders.l3 k xs (xs.length : Int) (q : Int)) true := by
  intro m
  induction m with
  | zero =>
    intro q h1 h2 h3
    refine Ev.step (f := fun _ => some true) (fun k => ?_) (Ev.now true)
    simp only [gabionlaw18_DirentOrders.l3]
    rw [if_neg (by omega)]
    simp
  | succ m ih =>
    intro q h1 h2 h3
    by_cases hq : q < xs.length
    · have hp : q - 1 < xs.length := by omega
      have e1 : wrap64 ((q : Int) - 1) = ((q - 1 : Nat) : Int) := w64_sub q 1 1 rfl (by omega) (by omega)
      by_cases he : xs[q] = xs[q - 1]
      · refine Ev.step (f := fun k => gabionlaw18_DirentOrders.l3 k xs (xs.length : Int) ((q + 1 : Nat) : Int)) (fun k => ?_) (ih (q + 1) (by omega) (by omega) (by omega))
        simp only [gabionlaw18_DirentOrders.l3, e1]
        clear e1
        rw [if_pos (by omega), if_pos (by omega), if_pos (by omega), if_pos (by omega), rdB xs q hq, rdB xs (q - 1) hp, if_pos ((tl_iff _ _).2 he), w64_succ q (by omega)]
      · have hlt : lessS xs[q - 1] xs[q] = true := by
          have h_ := (List.pairwise_iff_getElem.1 hs) (q - 1) q hp hq (by omega)
          rcases lessS_total xs[q - 1] xs[q] (fun e => he e.symm) with h2_ | h2_
          · exact h2_
          · rw [h_] at h2_; cases h2_
        have s1 := hz _ (List.getElem_mem hp)
        have s2 := hz _ (List.getElem_mem hq)
        have hL : Ev (fun k => gabionref03_Less.f k xs[q - 1] xs[q]) true := ⟨4000, fun k hk => by show gabionref03_Less.f k _ _ = _; rw [less_eq _ _ (by omega) (by omega) k (by omega), hlt]⟩
        refine Ev.step (f := fun k => (gabionref03_Less.f k xs[q - 1] xs[q]).bind fun t => if t = true then gabionlaw18_DirentOrders.l3 k xs (xs.length : Int) ((q + 1 : Nat) : Int) else some false) (fun k => ?_) (Ev.bind hL ?_)
        · simp only [gabionlaw18_DirentOrders.l3, e1]
          clear e1
          rw [if_pos (by omega), if_pos (by omega), if_pos (by omega), if_pos (by omega), rdB xs q hq, rdB xs (q - 1) hp, if_neg (fun e => he ((tl_iff _ _).1 e)), w64_succ q (by omega)]
        · exact Ev.congr (fun k => by rw [if_pos rfl]) (ih (q + 1) (by omega) (by omega) (by omega))
    · refine Ev.step (f := fun _ => some true) (fun k => ?_) (Ev.now true)
      simp only [gabionlaw18_DirentOrders.l3]
      rw [if_neg (by omega)]
      simp
theorem o_l0 (l : List En) (hL : l.length ≤ 1000) : ∀ (m i : Nat), i + m = l.length → (∀ j (h : j < l.length), j < i → l[j].f1.size ≤ 100) →
    Ev (fun k => gabionlaw18_DirentOrders.l0 k l (namesL l) ((nzE (l.take i) : Nat) : Int) (i : Int)) true := by
  have hX : (namesL l).length ≤ 1000 := Nat.le_trans (namesL_length l) hL
  intro m
  induction m with
  | zero =>
    intro i h1 h2
    have ht : l.take i = l := List.take_of_length_le (by omega)
    have hz : ∀ x ∈ namesL l, x.size ≤ 1000 := namesL_mem (Q := fun x => x.size ≤ 1000) l (fun e he => by
      obtain ⟨j, hj, rfl⟩ := List.getElem_of_mem he
      exact Nat.le_trans (h2 j hj (by omega)) (by omega))
    rw [ht, ← namesL_nz l]
    refine Ev.step (f := fun k => gabionlaw18_DirentOrders.l3 k (namesL l) ((namesL l).length : Int) ((1 : Nat) : Int)) (fun k => ?_) (o_l3 (namesL l) (namesL_sorted l) hz hX (namesL l).length 1 (Nat.le_refl _) (by omega) (by omega))
    simp only [gabionlaw18_DirentOrders.l0]
    rw [if_neg (by omega)]
    rfl
  | succ m ih =>
    intro i h1 h2
    have hi : i < l.length := by omega
    have hnz : nzE (l.take (i + 1)) = nzE (l.take i) + (if l[i].f0 = 0 then 0 else 1) := by
      rw [List.take_succ_eq_append_getElem hi, nzE, List.countP_append, nzE]
      by_cases h0 : l[i].f0 = 0 <;> simp [h0]
    by_cases hs : 100 < l[i].f1.size
    · refine Ev.step (f := fun _ => some true) (fun k => ?_) (Ev.now true)
      simp only [gabionlaw18_DirentOrders.l0]
      rw [if_pos (by omega), if_pos (by omega), rdE l i hi, if_pos (by omega)]
    · have h3 : ∀ j (h : j < l.length), j < i + 1 → l[j].f1.size ≤ 100 := fun j h hj => by
        by_cases e : j = i
        · subst e; omega
        · exact h2 j h (by omega)
      have ih1 := ih (i + 1) (by omega) h3
      rw [hnz] at ih1
      by_cases h0 : l[i].f0 = 0
      · rw [if_pos h0, Nat.add_zero] at ih1
        refine Ev.step (f := fun k => gabionlaw18_DirentOrders.l0 k l (namesL l) ((nzE (l.take i) : Nat) : Int) ((i + 1 : Nat) : Int)) (fun k => ?_) ih1
        simp only [gabionlaw18_DirentOrders.l0]
        rw [if_pos (by omega), if_pos (by omega), rdE l i hi, if_neg (by omega), if_pos h0, w64_succ i (by omega)]
      · rw [if_neg h0] at ih1
        have hle : nzE (l.take i) ≤ 1000 := Nat.le_trans List.countP_le_length (by rw [List.length_take]; omega)
        refine Ev.step (f := fun k => gabionlaw18_DirentOrders.l1 k l (namesL l) ((nzE (l.take i) + 1 : Nat) : Int) (i : Int) ((0 : Nat) : Int) ((0 : Nat) : Int) ((0 : Nat) : Int)) (fun k => ?_) (o_l1 l (namesL l) _ i hi _ true hL l.length 0 0 (by omega) (Nat.le_refl _) (o_l2 l (namesL l) _ i hi _ true hL hX (namesL l).length 0 0 (by omega) (Nat.le_refl _) ?_))
        · simp only [gabionlaw18_DirentOrders.l0]
          rw [if_pos (by omega), if_pos (by omega), rdE l i hi, if_neg (by omega), if_neg h0, w64_succ _ (by omega)]
          rfl
        · refine Ev.congr (fun k => ?_) ih1
          rw [List.drop_zero, List.drop_zero, namesL_cnt, if_pos (by omega)]
/-- The law DirentOrders, plain. -/
theorem orders_pure (l : List En) (hz : ∀ e ∈ l, e.f1.size ≤ 70368744177664) : ∃ k, gabionlaw18_DirentOrders.f k l = some true := by
  apply Ev.rounds
  by_cases h5 : 50 < l.length
  · refine ⟨1, fun k hk => ?_⟩
    obtain ⟨q, rfl⟩ : ∃ q, k = q + 1 := ⟨k - 1, by omega⟩
    have e : decide ((l.length : Int) > 50) = true := by simp; omega
    simp only [gabionlaw18_DirentOrders.f, ord_true, Option.bind_some, if_true, gabionlaw18_DirentOrders.j0, e]
  · have e : decide ((l.length : Int) > 50) = false := by simp; omega
    have ha : l.all (fun x => decide (x.f1.size ≤ 70368744177664)) = true := List.all_eq_true.2 (fun x hx => by simpa using hz x hx)
    have hn : dirent_Names.f l = some (namesL l) := by rw [dirent_Names.f, if_pos (by omega), if_pos ha]
    have h0 := o_l0 l (by omega) l.length 0 (by omega) (fun j h hj => by omega)
    rw [List.take_zero] at h0
    refine Ev.congr (f := fun k => gabionlaw18_DirentOrders.j0 k l false) (fun k => ?_) (Ev.step (fun k => ?_) h0)
    · simp only [gabionlaw18_DirentOrders.f, ord_true, Option.bind_some, if_true, e]
    · simp only [gabionlaw18_DirentOrders.j0, Bool.false_eq_true, if_false, hn, Option.bind_some]
      rfl
/-- Where a name stands first; which place is free first. -/
def fndF (name : ByteArray) : List En → Nat → Int
  | [], _ => -1
  | e :: r, o => if e.f0 ≠ 0 ∧ e.f1 = name then (o : Int) else fndF name r (o + 1)
def rmF : List En → Nat → Int
  | [], o => (o : Int)
  | e :: r, o => if e.f0 = 0 then (o : Int) else rmF r (o + 1)
theorem fndF_at (name : ByteArray) (l : List En) (i : Nat) (h : i < l.length) : fndF name (l.drop i) i = if l[i].f0 ≠ 0 ∧ l[i].f1 = name then (i : Int) else fndF name (l.drop (i + 1)) (i + 1) := by
  rw [List.drop_eq_getElem_cons h, fndF]
theorem rmF_at (l : List En) (i : Nat) (h : i < l.length) : rmF (l.drop i) i = if l[i].f0 = 0 then (i : Int) else rmF (l.drop (i + 1)) (i + 1) := by
  rw [List.drop_eq_getElem_cons h, rmF]
theorem find_eq (l : List En) (name : ByteArray) (hL : l.length ≤ 1000) : Ev (fun k => dirent_Find.f k l name) (fndF name l 0) := by
  have h : ∀ (m i : Nat), i + m = l.length → Ev (fun k => dirent_Find.l0 k name l (l.length : Int) (i : Int)) (fndF name (l.drop i) i) := by
    intro m
    induction m with
    | zero =>
      intro i h1
      refine Ev.step (f := fun _ => some (-1)) (fun k => ?_) ?_
      · simp only [dirent_Find.l0]
        rw [if_neg (by omega)]
      · rw [List.drop_of_length_le (by omega), fndF]; exact Ev.now _
    | succ m ih =>
      intro i h1
      have hi : i < l.length := by omega
      rw [fndF_at name l i hi]
      by_cases h0 : l[i].f0 = 0
      · rw [if_neg (by simp [h0])]
        refine Ev.step (f := fun k => dirent_Find.l0 k name l (l.length : Int) ((i + 1 : Nat) : Int)) (fun k => ?_) (ih (i + 1) (by omega))
        simp only [dirent_Find.l0]
        rw [if_pos (by omega), if_pos (by omega), if_pos (by omega), rdE l i hi, if_pos h0, w64_succ i (by omega)]
      · by_cases he : l[i].f1 = name
        · rw [if_pos ⟨h0, he⟩]
          refine Ev.step (f := fun _ => some (i : Int)) (fun k => ?_) (Ev.now _)
          simp only [dirent_Find.l0]
          rw [if_pos (by omega), if_pos (by omega), if_pos (by omega), rdE l i hi, if_neg h0, if_pos ((tl_iff _ _).2 he)]
        · rw [if_neg (by simp [he])]
          refine Ev.step (f := fun k => dirent_Find.l0 k name l (l.length : Int) ((i + 1 : Nat) : Int)) (fun k => ?_) (ih (i + 1) (by omega))
          simp only [dirent_Find.l0]
          rw [if_pos (by omega), if_pos (by omega), if_pos (by omega), rdE l i hi, if_neg h0, if_neg (fun e => he ((tl_iff _ _).1 e)), w64_succ i (by omega)]
  have h_ := h l.length 0 (by omega)
  rw [List.drop_zero] at h_
  exact Ev.congr (fun k => rfl) h_
theorem room_eq (l : List En) (hL : l.length ≤ 1000) : Ev (fun k => dirent_Room.f k l) (rmF l 0) := by
  have h : ∀ (m i : Nat), i + m = l.length → Ev (fun k => dirent_Room.l0 k l l (l.length : Int) (i : Int)) (rmF (l.drop i) i) := by
    intro m
    induction m with
    | zero =>
      intro i h1
      refine Ev.step (f := fun _ => some (l.length : Int)) (fun k => ?_) ?_
      · simp only [dirent_Room.l0]
        rw [if_neg (by omega)]
      · rw [List.drop_of_length_le (by omega), rmF, show (i : Int) = (l.length : Int) by omega]; exact Ev.now _
    | succ m ih =>
      intro i h1
      have hi : i < l.length := by omega
      rw [rmF_at l i hi]
      by_cases h0 : l[i].f0 = 0
      · rw [if_pos h0]
        refine Ev.step (f := fun _ => some (i : Int)) (fun k => ?_) (Ev.now _)
        simp only [dirent_Room.l0]
        rw [if_pos (by omega), if_pos (by omega), if_pos (by omega), rdE l i hi, if_pos h0]
      · rw [if_neg h0]
        refine Ev.step (f := fun k => dirent_Room.l0 k l l (l.length : Int) ((i + 1 : Nat) : Int)) (fun k => ?_) (ih (i + 1) (by omega))
        simp only [dirent_Room.l0]
        rw [if_pos (by omega), if_pos (by omega), if_pos (by omega), rdE l i hi, if_neg h0, w64_succ i (by omega)]
  have h_ := h l.length 0 (by omega)
  rw [List.drop_zero] at h_
  exact Ev.congr (fun k => rfl) h_
abbrev E17 := S41
theorem rd17 (l : List E17) (i : Nat) (h : i < l.length) : rd_T41 l (i : Int) = l[i] := by simp [rd_T41, List.getD_eq_getElem?_getD, h]
def to17 (l : List En) : List E17 := l.map fun e => ⟨e.f0, e.f1⟩
theorem of_eq (l : List En) (hL : l.length ≤ 1000) (hw : ∀ e ∈ l, 0 ≤ e.f0 ∧ e.f0 < 4294967296) : Ev (fun k => gabionlaw18_of.f k l) (to17 l) := by
  have h : ∀ (m i : Nat), i + m = l.length → Ev (fun k => gabionlaw18_of.l0 k l (to17 (l.take i)) (i : Int)) (to17 l) := by
    intro m
    induction m with
    | zero =>
      intro i h1
      refine Ev.step (f := fun _ => some (to17 l)) (fun k => ?_) (Ev.now _)
      simp only [gabionlaw18_of.l0]
      rw [if_neg (by omega), List.take_of_length_le (by omega)]
    | succ m ih =>
      intro i h1
      have hi : i < l.length := by omega
      have hr := hw _ (List.getElem_mem hi)
      have hwr : wrap64 l[i].f0 = l[i].f0 := by unfold wrap64; omega
      have hl : (to17 (l.take i)).length ≤ 1000 := by simp [to17]; omega
      have ht : to17 (l.take (i + 1)) = to17 (l.take i) ++ [⟨l[i].f0, l[i].f1⟩] := by unfold to17; rw [List.take_succ_eq_append_getElem hi, List.map_append]; rfl
      refine Ev.step (f := fun k => gabionlaw18_of.l0 k l (to17 (l.take (i + 1))) ((i + 1 : Nat) : Int)) (fun k => ?_) (ih (i + 1) (by omega))
      simp only [gabionlaw18_of.l0]
      rw [rdE l i hi, hwr, ht]
      clear hwr
      rw [if_pos (by omega), if_pos (by omega), if_pos (by omega), w64_succ i (by omega)]
  have h_ := h l.length 0 (by omega)
  exact Ev.congr (fun k => rfl) h_
/-- The names of the document's entries. -/
def names17 (l : List E17) : List ByteArray := l.foldl (fun out x => if x.f0 = 0 then out else insS x.f1 out) []
theorem names17_eq (l : List En) : names17 (to17 l) = namesL l := by
  unfold names17 to17 namesL
  rw [List.foldl_map]
theorem insS_front (x : ByteArray) : ∀ (xs : List ByteArray) (q : Nat), q ≤ xs.length → (∀ j (h : j < xs.length), j < q → lessS x xs[j] = false) → (∀ h : q < xs.length, lessS x xs[q] = true) → ([] ++ xs.take q) ++ [x] ++ xs.drop q = insS x xs
  | [], q, hq, _, _ => by
    obtain rfl : q = 0 := by simpa using hq
    rfl
  | y :: r, 0, _, _, h2 => by
    have h0 := h2 (by simp)
    rw [List.getElem_cons_zero] at h0
    unfold insS
    rw [if_pos h0]
    rfl
  | y :: r, q + 1, hq, h1, h2 => by
    have h0 := h1 0 (by simp) (by omega)
    rw [List.getElem_cons_zero] at h0
    have ih := insS_front x r q (by simpa using hq) (fun j h hj => by have h_ := h1 (j + 1) (by simpa using h) (by omega); rwa [List.getElem_cons_succ] at h_) (fun h => by have h_ := h2 (by simpa using h); rwa [List.getElem_cons_succ] at h_)
    unfold insS
    rw [if_neg (by simp [h0]), ← ih]
    simp
theorem n17_l1 (l : List E17) (xs : List ByteArray) (i : Nat) (hi : i < l.length) (hL : l.length ≤ 1000) (hX : xs.length ≤ 1000) (hx : l[i].f1.size ≤ 1000) (hz : ∀ x ∈ xs, x.size ≤ 1000) (r : List ByteArray)
    (hr : Ev (fun k => gabionref17_Names.l0 k l (insS l[i].f1 xs) ((i + 1 : Nat) : Int)) r) : ∀ (m q : Nat), q + m = xs.length → (∀ j (h : j < xs.length), j < q → lessS l[i].f1 xs[j] = false) → Ev (fun k => gabionref17_Names.l1 k l xs (i : Int) (q : Int)) r := by
  intro m
  induction m with
  | zero =>
    intro q h1 h2
    have hI := insS_front l[i].f1 xs q (by omega) h2 (fun h => by omega)
    refine Ev.step (fun k => ?_) hr
    simp only [gabionref17_Names.l1, Option.bind_some]
    have hl1 : (xs.take (q : Int).toNat).length ≤ 1000 := by rw [List.length_take]; omega
    have hl2 : (xs.drop (q : Int).toNat).length ≤ 1000 := by rw [List.length_drop]; omega
    rw [if_neg (by omega), if_pos (by omega), if_pos (by omega), if_pos (by simp only [List.length_nil]; omega), if_pos (by omega), if_pos (by omega), if_pos (by simp only [List.length_append, List.length_nil]; omega), if_pos (by simp only [List.length_append, List.length_nil, List.length_cons]; omega), rd17 l i hi, Int.toNat_natCast, hI, w64_succ i (by omega)]
  | succ m ih =>
    intro q h1 h2
    have hq : q < xs.length := by omega
    have s2 := hz _ (List.getElem_mem hq)
    have hLs : Ev (fun k => gabionref03_Less.f k l[i].f1 xs[q]) (lessS l[i].f1 xs[q]) := ⟨4000, fun k hk => by show gabionref03_Less.f k _ _ = _; rw [less_eq _ _ (by omega) (by omega) k (by omega)]⟩
    cases hb : lessS l[i].f1 xs[q] with
    | true =>
      rw [hb] at hLs
      have hI := insS_front l[i].f1 xs q (by omega) h2 (fun h => hb)
      obtain ⟨K1, hK1⟩ := hLs
      obtain ⟨K2, hK2⟩ := hr
      refine ⟨max K1 K2 + 1, fun n hn => ?_⟩
      obtain ⟨k, rfl⟩ : ∃ k, n = k + 1 := ⟨n - 1, by omega⟩
      have e1 : gabionref03_Less.f k l[i].f1 xs[q] = some true := hK1 k (by omega)
      have e2 : gabionref17_Names.l0 k l (insS l[i].f1 xs) ((i + 1 : Nat) : Int) = some r := hK2 k (by omega)
      have hl1 : (xs.take (q : Int).toNat).length ≤ 1000 := by rw [List.length_take]; omega
      have hl2 : (xs.drop (q : Int).toNat).length ≤ 1000 := by rw [List.length_drop]; omega
      show gabionref17_Names.l1 (k + 1) l xs (i : Int) (q : Int) = some r
      simp only [gabionref17_Names.l1, Option.bind_some]
      rw [if_pos (by omega), if_pos (by omega), if_pos (by omega), if_pos (by omega), rd17 l i hi, rdB xs q hq, e1]
      simp only [Option.bind_some, if_true]
      rw [if_pos (by omega), if_pos (by simp only [List.length_nil]; omega), if_pos (by simp only [List.length_append, List.length_nil]; omega), if_pos (by simp only [List.length_append, List.length_nil, List.length_cons]; omega), Int.toNat_natCast, hI, w64_succ i (by omega)]
      exact e2
    | false =>
      rw [hb] at hLs
      obtain ⟨K1, hK1⟩ := hLs
      obtain ⟨K2, hK2⟩ := ih (q + 1) (by omega) (fun j h hj => by
        by_cases e : j = q
        · subst e; exact hb
        · exact h2 j h (by omega))
      refine ⟨max K1 K2 + 1, fun n hn => ?_⟩
      obtain ⟨k, rfl⟩ : ∃ k, n = k + 1 := ⟨n - 1, by omega⟩
      have e1 : gabionref03_Less.f k l[i].f1 xs[q] = some false := hK1 k (by omega)
      have e2 : gabionref17_Names.l1 k l xs (i : Int) ((q + 1 : Nat) : Int) = some r := hK2 k (by omega)
      show gabionref17_Names.l1 (k + 1) l xs (i : Int) (q : Int) = some r
      simp only [gabionref17_Names.l1, Option.bind_some]
      rw [if_pos (by omega), if_pos (by omega), if_pos (by omega), if_pos (by omega), rd17 l i hi, rdB xs q hq, e1]
      simp only [Option.bind_some, Bool.false_eq_true, if_false]
      rw [w64_succ q (by omega)]
      exact e2
theorem n17_l0 (l : List E17) (hL : l.length ≤ 1000) (hz : ∀ e ∈ l, e.f1.size ≤ 1000) : ∀ (m i : Nat), i + m = l.length → Ev (fun k => gabionref17_Names.l0 k l (names17 (l.take i)) (i : Int)) (names17 l) := by
  have hlen : ∀ l : List E17, (names17 l).length ≤ l.length := by
    intro l
    have h : ∀ (l : List E17) out, (l.foldl (fun out x => if x.f0 = 0 then out else insS x.f1 out) out).length ≤ l.length + out.length := by
      intro l
      induction l with
      | nil => intro out; simp
      | cons x l ih =>
        intro out
        rw [List.foldl_cons, List.length_cons]
        split
        · have h_ := ih out; omega
        · have h_ := ih (insS x.f1 out); rw [insS_length] at h_; omega
    have h_ := h l []
    simpa [names17] using h_
  have hmem : ∀ l : List E17, (∀ e ∈ l, e.f1.size ≤ 1000) → ∀ y ∈ names17 l, y.size ≤ 1000 := by
    have h2 : ∀ (l : List E17) out, (∀ x ∈ l, x.f1.size ≤ 1000) → (∀ y ∈ out, y.size ≤ 1000) → ∀ y ∈ l.foldl (fun out x => if x.f0 = 0 then out else insS x.f1 out) out, y.size ≤ 1000 := by
      intro l
      induction l with
      | nil => intro out _ h; exact h
      | cons x l ih =>
        intro out hl h
        rw [List.foldl_cons]
        apply ih _ (fun z hz => hl z (List.mem_cons_of_mem _ hz))
        split
        · exact h
        · intro y hy
          rcases (insS_mem x.f1 y out).1 hy with rfl | hy
          · exact hl x List.mem_cons_self
          · exact h y hy
    intro l h
    exact h2 l [] h (fun y hy => by cases hy)
  intro m
  induction m with
  | zero =>
    intro i h1
    refine Ev.step (f := fun _ => some (names17 l)) (fun k => ?_) (Ev.now _)
    simp only [gabionref17_Names.l0]
    rw [if_neg (by omega), List.take_of_length_le (by omega)]
  | succ m ih =>
    intro i h1
    have hi : i < l.length := by omega
    have ht : names17 (l.take (i + 1)) = if l[i].f0 = 0 then names17 (l.take i) else insS l[i].f1 (names17 (l.take i)) := by
      rw [List.take_succ_eq_append_getElem hi, names17, List.foldl_append]
      rfl
    have ih1 := ih (i + 1) (by omega)
    rw [ht] at ih1
    by_cases h0 : l[i].f0 = 0
    · rw [if_pos h0] at ih1
      refine Ev.step (f := fun k => gabionref17_Names.l0 k l (names17 (l.take i)) ((i + 1 : Nat) : Int)) (fun k => ?_) ih1
      simp only [gabionref17_Names.l0]
      rw [if_pos (by omega), if_pos (by omega), rd17 l i hi, if_pos h0, w64_succ i (by omega)]
    · rw [if_neg h0] at ih1
      refine Ev.step (f := fun k => gabionref17_Names.l1 k l (names17 (l.take i)) (i : Int) ((0 : Nat) : Int)) (fun k => ?_) (n17_l1 l (names17 (l.take i)) i hi hL (by have h_ := hlen (l.take i); rw [List.length_take] at h_; omega) (hz _ (List.getElem_mem hi)) (hmem _ (fun e he => hz e (List.mem_of_mem_take he))) _ ih1 (names17 (l.take i)).length 0 (by omega) (fun j h hj => by omega))
      simp only [gabionref17_Names.l0]
      rw [if_pos (by omega), if_pos (by omega), rd17 l i hi, if_neg h0]
      rfl
theorem f_l1 (xs : List ByteArray) (hX : xs.length ≤ 1000) : ∀ (m q : Nat), q + m = xs.length → Ev (fun k => gabionlaw18_DirentFinds.l1 k xs xs (q : Int)) true := by
  intro m
  induction m with
  | zero =>
    intro q h1
    refine Ev.step (f := fun _ => some true) (fun k => ?_) (Ev.now true)
    simp only [gabionlaw18_DirentFinds.l1]
    rw [if_neg (by omega)]
  | succ m ih =>
    intro q h1
    refine Ev.step (f := fun k => gabionlaw18_DirentFinds.l1 k xs xs ((q + 1 : Nat) : Int)) (fun k => ?_) (ih (q + 1) (by omega))
    simp only [gabionlaw18_DirentFinds.l1]
    rw [if_pos (by omega), if_pos (by omega), if_pos (by omega), if_pos trivial, w64_succ q (by omega)]
theorem f_l0 (l : List En) (name : ByteArray) (hL : l.length ≤ 60) (hw : ∀ e ∈ l, 0 ≤ e.f0 ∧ e.f0 < 4294967296) : ∀ (j : Nat), j ≤ l.length → (∀ q (h : q < l.length), j ≤ q → l[q].f1.size ≤ 100) →
    Ev (fun k => gabionlaw18_DirentFinds.l0 k l name (fndF name (l.drop j) j) (rmF (l.drop j) j) ((j : Int) - 1)) true := by
  intro j
  induction j with
  | zero =>
    intro h1 h2
    have hz : ∀ e ∈ l, e.f1.size ≤ 100 := fun e he => by
      obtain ⟨q, hq, rfl⟩ := List.getElem_of_mem he
      exact h2 q hq (Nat.zero_le _)
    have ha : l.all (fun x => decide (x.f1.size ≤ 70368744177664)) = true := List.all_eq_true.2 (fun x hx => by have h_ := hz x hx; simp; omega)
    have hn : dirent_Names.f l = some (namesL l) := by rw [dirent_Names.f, if_pos (by omega), if_pos ha]
    have hl := namesL_length l
    obtain ⟨K1, hK1⟩ := of_eq l (by omega) hw
    obtain ⟨K2, hK2⟩ := n17_l0 (to17 l) (by simp [to17]; omega) (fun e he => by
      obtain ⟨x, hx, rfl⟩ := List.mem_map.1 he
      have h_ := hz x hx
      show x.f1.size ≤ 1000
      omega) (to17 l).length 0 (by omega)
    rw [names17_eq] at hK2
    obtain ⟨K3, hK3⟩ := find_eq l name (by omega)
    obtain ⟨K4, hK4⟩ := room_eq l (by omega)
    obtain ⟨K5, hK5⟩ := f_l1 (namesL l) (by omega) (namesL l).length 0 (by omega)
    rw [List.drop_zero]
    refine ⟨K1 + K2 + K3 + K4 + K5 + 3, fun n hn2 => ?_⟩
    obtain ⟨k, rfl⟩ : ∃ k, n = k + 2 := ⟨n - 2, by omega⟩
    have e1 : gabionlaw18_of.f (k + 1) l = some (to17 l) := hK1 _ (by omega)
    have e2 : gabionref17_Names.f (k + 1) (to17 l) = some (namesL l) := hK2 _ (by omega)
    have e3 : dirent_Find.f (k + 1) l name = some (fndF name l 0) := hK3 _ (by omega)
    have e4 : dirent_Room.f (k + 1) l = some (rmF l 0) := hK4 _ (by omega)
    have e5 : gabionlaw18_DirentFinds.l1 k (namesL l) (namesL l) ((0 : Nat) : Int) = some true := hK5 _ (by omega)
    show gabionlaw18_DirentFinds.l0 (k + 1 + 1) l name _ _ _ = some true
    simp only [gabionlaw18_DirentFinds.l0]
    rw [if_neg (by omega), hn, e1]
    simp only [Option.bind_some]
    rw [e2]
    simp only [Option.bind_some, ord_true, if_true, e3, e4]
    have eb : (((namesL l).length : Int) != ((namesL l).length : Int)) = false := by simp
    rw [eb]
    simp only [gabionlaw18_DirentFinds.j1, Bool.false_eq_true, if_false]
    exact e5
  | succ j ih =>
    intro h1 h2
    have hj : j < l.length := by omega
    have e0 : (((j + 1 : Nat) : Int) - 1) = (j : Int) := by omega
    rw [e0]
    have e1 : wrap64 ((j : Int) - 1) = (j : Int) - 1 := by unfold wrap64; omega
    by_cases hs : 100 < l[j].f1.size
    · refine Ev.step (f := fun _ => some true) (fun k => ?_) (Ev.now true)
      simp only [gabionlaw18_DirentFinds.l0, ord_true, Option.bind_some]
      clear e1
      rw [if_pos (by omega), if_pos (by omega), if_pos (by omega), rdE l j hj, if_pos (by omega)]
    · have ih1 := ih (by omega) (fun q h hq => by
        by_cases e : q = j
        · subst e; omega
        · exact h2 q h (by omega))
      rw [fndF_at name l j hj, rmF_at l j hj] at ih1
      by_cases h0 : l[j].f0 = 0
      · rw [if_neg (by simp [h0]), if_pos h0] at ih1
        refine Ev.step (fun k => ?_) ih1
        simp only [gabionlaw18_DirentFinds.l0, e1]
        clear e1
        rw [if_pos (by omega), if_pos (by omega), if_pos (by omega), rdE l j hj, if_neg (by omega), if_pos h0]
      · rw [if_neg h0] at ih1
        by_cases he : l[j].f1 = name
        · rw [if_pos ⟨h0, he⟩] at ih1
          refine Ev.step (fun k => ?_) ih1
          simp only [gabionlaw18_DirentFinds.l0, e1]
          clear e1
          rw [if_pos (by omega), if_pos (by omega), if_pos (by omega), rdE l j hj, if_neg (by omega), if_neg h0, if_pos ((tl_iff _ _).2 he)]
        · rw [if_neg (by simp [he])] at ih1
          refine Ev.step (fun k => ?_) ih1
          simp only [gabionlaw18_DirentFinds.l0, e1]
          clear e1
          rw [if_pos (by omega), if_pos (by omega), if_pos (by omega), rdE l j hj, if_neg (by omega), if_neg h0, if_neg (fun e => he ((tl_iff _ _).1 e))]
/-- The law DirentFinds, plain. -/
theorem finds_pure (l : List En) (name : ByteArray) (hw : ∀ e ∈ l, 0 ≤ e.f0 ∧ e.f0 < 4294967296) (hL : l.length ≤ 9223372036854775807) : ∃ k, gabionlaw18_DirentFinds.f k l name = some true := by
  by_cases h6 : 60 < l.length
  · refine ⟨0, ?_⟩
    simp only [gabionlaw18_DirentFinds.f, ord_true, Option.bind_some]
    rw [if_pos (by omega)]
  · apply Ev.rounds
    have h0 := f_l0 l name (by omega) hw l.length (Nat.le_refl _) (fun q h hq => by omega)
    rw [List.drop_length] at h0
    refine Ev.congr (fun k => ?_) h0
    have e1 : wrap64 ((l.length : Int) - 1) = (l.length : Int) - 1 := by unfold wrap64; omega
    simp only [gabionlaw18_DirentFinds.f, e1]
    clear e1
    rw [if_neg (by omega)]
    rfl
end Go.Proofs.Ytaomgddfkpcdhaa.XDir
