import Derived.Test.YtjjhdddiabdfhaaDoorXNampNam2
import Derived.Test.YtjjhdddiabdfhaaDoorGt
/-! The plain laws of names: a path's names. -/
set_option linter.unusedVariables false
set_option linter.unusedSimpArgs false
namespace Go.Proofs.YtjjhdddiabdfhaaDoor.XNam
open Go.RowKit Go.Proofs.YtjjhdddiabdfhaaDoorW.PrintWords Go.Proofs.YtjjhdddiabdfhaaDoorW.PrintLast Go.Proofs.YtjjhdddiabdfhaaDoorW.PrintMore
/-- A text's parts between strokes. -/
def segL : List UInt8 → List (List UInt8)
  | [] => [[]]
  | b :: l => if b = 47 then [] :: segL l else match segL l with
    | [] => [[b]]
    | h :: t => (b :: h) :: t
theorem segL_ne : ∀ l, segL l ≠ []
  | [] => by simp [segL]
  | b :: l => by
    unfold segL
    split
    · simp
    · split <;> simp
theorem index_cons (b : UInt8) (l : List UInt8) : Lib.index (b :: l) [47] = if b = 47 then 0 else if Lib.index l [47] = -1 then -1 else Lib.index l [47] + 1 := by
  have hd : Lib.index (b :: l) [47] = if ([47] : List UInt8).isPrefixOf (b :: l) = true then 0 else if (Lib.index l [47] == -1) = true then -1 else Lib.index l [47] + 1 := rfl
  rw [hd]
  by_cases h : b = 47
  · subst h; simp
  · have h2 : ¬ (47 : UInt8) = b := fun e => h e.symm
    simp [h, h2]
theorem split_seg : ∀ l : List UInt8, Lib.splitK [47] 0 (l.count 47) l = segL l
  | [] => rfl
  | b :: l => by
    have ih := split_seg l
    unfold segL
    by_cases h : b = 47
    · subst h
      rw [if_pos rfl, List.count_cons_self, Lib.splitK, index_cons, if_pos rfl]
      simp [ih]
    · rw [if_neg h, List.count_cons_of_ne h]
      rw [← ih]
      cases hc : l.count 47 with
      | zero => simp [Lib.splitK]
      | succ k =>
        rw [Lib.splitK, Lib.splitK, index_cons, if_neg h]
        have hge := Lib.index_ge l [47]
        by_cases hm : Lib.index l [47] = -1
        · simp [hm]
        · obtain ⟨i, hi⟩ : ∃ i : Nat, Lib.index l [47] = (i : Int) := ⟨(Lib.index l [47]).toNat, by omega⟩
          have e1 : ¬ ((i : Int) = -1) := by omega
          have e2 : ¬ ((i : Int) + 1 = -1) := by omega
          have e3 : ((i : Int) + 1).toNat = i + 1 := by omega
          rw [if_neg hm, hi]
          simp [e1, e2, e3]
def mkB (l : List UInt8) : ByteArray := ⟨l.toArray⟩
theorem mkB_data (s : ByteArray) : mkB s.data.toList = s := by cases s; simp [mkB]
theorem pieces_seg (s : ByteArray) : pieces s = (segL s.data.toList).map mkB := by
  have h := Lib.splitB_data ⟨#[47]⟩ 0 (Lib.countB s ⟨#[47]⟩) s
  have hc : Lib.countB s ⟨#[47]⟩ = s.data.toList.count 47 := Lib.count_one 47 s.data.toList
  have e : (⟨#[47]⟩ : ByteArray).data.toList = [47] := rfl
  rw [e] at h
  conv at h => rhs; rw [hc, split_seg]
  have h2 := congrArg (List.map mkB) h
  rw [List.map_map] at h2
  have h3 : (mkB ∘ fun x : ByteArray => x.data.toList) = id := by funext x; exact mkB_data x
  rw [h3, List.map_id] at h2
  exact h2
/-- A part between strokes, done with: then the rest. -/
theorem proc (s out_ : ByteArray) (out : List ByteArray) (fr i : Nat) (hfi : fr ≤ i) (hi : i ≤ s.size) (hs : s.size ≤ 200) (ho : out.length ≤ i) (R : List ByteArray)
    (hR : ∀ out' : List ByteArray, out'.length ≤ i + 1 → Ev (fun k => gabionref03_Split.l0 k s out' ((i + 1 : Nat) : Int) ((i + 1 : Nat) : Int)) (walkS R out')) :
    Ev (fun k => gabionref03_Split.j2 k s out (fr : Int) (i : Int) false) (walkS (s.extract fr i :: R) out) := by
  obtain ⟨X, hX⟩ : ∃ X, s.extract fr i = X := ⟨_, rfl⟩
  have hXs : X.size ≤ 200 := by rw [← hX]; simp; omega
  have e1 : (0 : Int) ≤ (fr : Int) := by omega
  have e2 : (fr : Int) ≤ (i : Int) := by omega
  have e3 : (i : Int) ≤ (s.size : Int) := by omega
  have e4 : wrap64 ((i : Int) + 1) = ((i + 1 : Nat) : Int) := by unfold wrap64; omega
  have hj2 : ∀ k, gabionref03_Split.j2 (k + 1) s out (fr : Int) (i : Int) false = if X.toList = ([] : List UInt8) then (gabionref03_Split.j3 k s out ((i + 1 : Nat) : Int) (i : Int) X true) else (gabionref03_Split.j3 k s out ((i + 1 : Nat) : Int) (i : Int) X (X.toList == ([46] : List UInt8))) := fun k => by
    simp only [gabionref03_Split.j2, Bool.false_eq_true, if_false, e1, e2, e3, e4, if_true, Int.toNat_natCast, hX]
  have hj3 : ∀ k, gabionref03_Split.j3 (k + 1) s out ((i + 1 : Nat) : Int) (i : Int) X true = gabionref03_Split.l0 k s out ((i + 1 : Nat) : Int) ((i + 1 : Nat) : Int) := fun k => by
    simp only [gabionref03_Split.j3, if_true, e4]
  rw [hX, walkS]
  by_cases c1 : X.toList = []
  · rw [if_pos (.inl c1)]
    refine Ev.step (f := fun k => gabionref03_Split.j3 k s out ((i + 1 : Nat) : Int) (i : Int) X true) (fun k => by rw [hj2, if_pos c1]) (Ev.step (fun k => hj3 k) (hR out (by omega)))
  by_cases c2 : X.toList = [46]
  · rw [if_pos (.inr c2)]
    have b2 : (X.toList == ([46] : List UInt8)) = true := by simp [c2]
    refine Ev.step (f := fun k => gabionref03_Split.j3 k s out ((i + 1 : Nat) : Int) (i : Int) X true) (fun k => by rw [hj2, if_neg c1, b2]) (Ev.step (fun k => hj3 k) (hR out (by omega)))
  rw [if_neg (by rintro (h | h); exact c1 h; exact c2 h)]
  have b2 : (X.toList == ([46] : List UInt8)) = false := by simp [c2]
  refine Ev.step (f := fun k => gabionref03_Split.j3 k s out ((i + 1 : Nat) : Int) (i : Int) X false) (fun k => by rw [hj2, if_neg c1, b2]) ?_
  by_cases c3 : X.toList = [46, 46]
  · rw [if_pos c3]
    by_cases c4 : 0 < out.length
    · have f1 : (out.length : Int) > 0 := by omega
      have f2 : wrap64 ((out.length : Int) - 1) = ((out.length - 1 : Nat) : Int) := by unfold wrap64; omega
      have f3 : (0 : Int) ≤ ((out.length - 1 : Nat) : Int) := by omega
      have f4 : ((out.length - 1 : Nat) : Int) ≤ (out.length : Int) := by omega
      refine Ev.step (f := fun k => gabionref03_Split.l0 k s (out.take (out.length - 1)) ((i + 1 : Nat) : Int) ((i + 1 : Nat) : Int)) (fun k => ?_) (hR _ (by rw [List.length_take]; omega))
      simp only [gabionref03_Split.j3, Bool.false_eq_true, if_false, c3, if_true, f1, f2, f3, f4, e4, Int.toNat_natCast]
    · have f1 : ¬ (out.length : Int) > 0 := by omega
      have h0 : out = [] := List.eq_nil_of_length_eq_zero (by omega)
      subst h0
      refine Ev.step (f := fun k => gabionref03_Split.l0 k s [] ((i + 1 : Nat) : Int) ((i + 1 : Nat) : Int)) (fun k => ?_) (hR _ (by simp))
      simp only [gabionref03_Split.j3, Bool.false_eq_true, if_false, c3, if_true, f1, e4]
  rw [if_neg c3]
  have g1 : ([] : List ByteArray).length + out.length < 8796093022208 := by simp; omega
  have g2 : out.length < 8796093022208 := by omega
  refine Ev.step (f := fun k => (gabionref03_Check.f k X).bind fun t144 => if t144 = 0 then gabionref03_Split.l0 k s (out ++ [X]) ((i + 1 : Nat) : Int) ((i + 1 : Nat) : Int) else some (([] : List ByteArray), t144)) (fun k => ?_) ?_
  · simp only [gabionref03_Split.j3, Bool.false_eq_true, if_false, c3, g1, if_true, Option.bind_some, List.nil_append, g2, e4]
  · refine Ev.bind (check_eq X (by omega)) ?_
    by_cases c5 : chkS X = 0
    · rw [if_neg (by simp [c5])]
      refine Ev.congr (f := fun k => gabionref03_Split.l0 k s (out ++ [X]) ((i + 1 : Nat) : Int) ((i + 1 : Nat) : Int)) (fun k => by rw [if_pos c5]) (hR _ (by simp; omega))
    · rw [if_pos c5]
      exact Ev.congr (f := fun _ => some (([] : List ByteArray), chkS X)) (fun k => by rw [if_neg c5]) (Ev.now _)
theorem split_end (s : ByteArray) (fr i : Nat) (hi : s.size < i) (out : List ByteArray) : Ev (fun k => gabionref03_Split.l0 k s out (fr : Int) (i : Int)) (walkS [] out) := by
  have e : ¬ (i : Int) ≤ (s.size : Int) := by omega
  refine Ev.step (f := fun _ => some (walkS [] out)) (fun k => ?_) (Ev.now _)
  simp only [gabionref03_Split.l0, e, if_false, walkS]
  by_cases c : 12 < out.length
  · have c' : (out.length : Int) > 12 := by omega
    rw [if_pos c, if_pos c']
  · have c' : ¬ (out.length : Int) > 12 := by omega
    rw [if_neg c, if_neg c']
def addH (p : List UInt8) : List (List UInt8) → List (List UInt8)
  | [] => [p]
  | h :: t => (p ++ h) :: t
theorem addH_nil (L : List (List UInt8)) (h : L ≠ []) : addH [] L = L := by cases L with | nil => exact absurd rfl h | cons a l => rfl
theorem ext_mk (s : ByteArray) (fr i : Nat) : s.extract fr i = mkB ((s.data.toList.take i).drop fr) := by
  rw [← mkB_data (s.extract fr i)]
  congr 1
  rw [ByteArray.data_extract, Array.toList_extract]
  simp [List.extract_eq_take_drop, List.drop_take]
theorem scan (s : ByteArray) (hs : s.size ≤ 200) : ∀ (m i fr : Nat) (out : List ByteArray), i + m = s.size → fr ≤ i → out.length ≤ i →
    Ev (fun k => gabionref03_Split.l0 k s out (fr : Int) (i : Int)) (walkS ((addH ((s.data.toList.take i).drop fr) (segL (s.data.toList.drop i))).map mkB) out)
  | 0, i, fr, out, hi, hf, ho => by
    have hl : s.data.toList.length = s.size := data_length s
    have e0 : (i : Int) ≤ (s.size : Int) := by omega
    have e1 : ¬ (i : Int) < (s.size : Int) := by omega
    have hd : s.data.toList.drop i = [] := List.drop_eq_nil_of_le (by omega)
    rw [hd]
    have hp := proc s s out fr i hf (by omega) hs ho [] (fun out' _ => split_end s (i + 1) (i + 1) (by omega) out')
    rw [ext_mk] at hp
    refine Ev.step (f := fun k => gabionref03_Split.j2 k s out (fr : Int) (i : Int) false) (fun k => by simp only [gabionref03_Split.l0, e0, if_true, e1, if_false]) ?_
    simpa [segL, addH] using hp
  | m + 1, i, fr, out, hi, hf, ho => by
    have hl : s.data.toList.length = s.size := data_length s
    have hlt : i < s.data.toList.length := by omega
    have e0 : (i : Int) ≤ (s.size : Int) := by omega
    have e1 : (i : Int) < (s.size : Int) := by omega
    have e2 : (0 : Int) ≤ (i : Int) := by omega
    have e4 : wrap64 ((i : Int) + 1) = ((i + 1 : Nat) : Int) := by unfold wrap64; omega
    have hd : s.data.toList.drop i = s.data.toList[i] :: s.data.toList.drop (i + 1) := List.drop_eq_getElem_cons hlt
    obtain ⟨b, hb⟩ : ∃ b, s.data.toList[i] = b := ⟨_, rfl⟩
    have hbt : bt s (i : Int) = (b.toNat : Int) := by
      have h1 : i < s.size := by omega
      rw [← hb]
      simp [bt, h1]
      rfl
    rw [hb] at hd
    rw [hd]
    by_cases c : b = 47
    · have c' : (bt s (i : Int) != 47) = false := by rw [hbt, c]; rfl
      have hseg : segL (b :: s.data.toList.drop (i + 1)) = [] :: segL (s.data.toList.drop (i + 1)) := by rw [segL, if_pos c]
      have hp := proc s s out fr i hf (by omega) hs ho ((segL (s.data.toList.drop (i + 1))).map mkB) (fun out' ho' => by
        have h_ := scan s hs m (i + 1) (i + 1) out' (by omega) (Nat.le_refl _) ho'
        rw [List.drop_eq_nil_of_le (by rw [List.length_take]; omega), addH_nil _ (segL_ne _)] at h_
        exact h_)
      rw [ext_mk] at hp
      rw [hseg]
      refine Ev.step (f := fun k => gabionref03_Split.j2 k s out (fr : Int) (i : Int) false) (fun k => by simp only [gabionref03_Split.l0, e0, if_true, e1, e2, c']) ?_
      simpa [addH] using hp
    · have c' : (bt s (i : Int) != 47) = true := by
        rw [hbt]
        have h2 : ¬ b.toNat = 47 := fun h => c (UInt8.toNat_inj.1 h)
        simp; omega
      have h_ := scan s hs m (i + 1) fr out (by omega) (by omega) (by omega)
      have htk : (s.data.toList.take (i + 1)).drop fr = (s.data.toList.take i).drop fr ++ [b] := by
        rw [List.take_succ_eq_append_getElem hlt, hb, List.drop_append_of_le_length (by rw [List.length_take]; omega)]
      have hseg : addH ((s.data.toList.take i).drop fr) (segL (b :: s.data.toList.drop (i + 1))) = addH ((s.data.toList.take (i + 1)).drop fr) (segL (s.data.toList.drop (i + 1))) := by
        rw [htk]
        conv => lhs; rw [segL]
        rw [if_neg c]
        cases hL : segL (s.data.toList.drop (i + 1)) with
        | nil => exact absurd hL (segL_ne _)
        | cons h t => simp [addH]
      rw [hseg]
      refine Ev.step (f := fun k => gabionref03_Split.j2 k s out (fr : Int) (i : Int) true) (fun k => by simp only [gabionref03_Split.l0, e0, if_true, e1, e2, c']) (Ev.step (f := fun k => gabionref03_Split.l0 k s out (fr : Int) ((i + 1 : Nat) : Int)) (fun k => by simp only [gabionref03_Split.j2, if_true, e4]) h_)
theorem split_eq (s : ByteArray) : Ev (fun k => gabionref03_Split.f k s) (splitS s) := by
  by_cases c0 : s.toList = []
  · rw [splitS, if_pos c0]
    refine Ev.congr (f := fun k => gabionref03_Split.j0 k s true) (fun k => by rw [gabionref03_Split.f, if_pos c0]) (Ev.step (f := fun _ => some ([], 22)) (fun k => by simp only [gabionref03_Split.j0, if_true]) (Ev.now _))
  rw [splitS, if_neg c0]
  have hl : s.data.toList.length = s.size := data_length s
  have hp : 0 < s.size := by
    rcases Nat.eq_zero_or_pos s.size with h | h
    · exfalso; apply c0; rw [ByteArray.toList_eq]; exact List.eq_nil_of_length_eq_zero (by omega)
    · exact h
  have e0 : (0 : Int) < (s.size : Int) := by omega
  by_cases c1 : bt s 0 ≠ 47
  · rw [if_pos c1]
    have b1 : (bt s 0 != 47) = true := by simpa using c1
    refine Ev.congr (f := fun k => gabionref03_Split.j0 k s true) (fun k => by rw [gabionref03_Split.f, if_neg c0, if_pos e0, b1]) (Ev.step (f := fun _ => some ([], 22)) (fun k => by simp only [gabionref03_Split.j0, if_true]) (Ev.now _))
  rw [if_neg c1]
  have c1' : bt s 0 = 47 := Classical.not_not.1 c1
  have b1 : (bt s 0 != 47) = false := by rw [c1']; rfl
  refine Ev.congr (f := fun k => gabionref03_Split.j0 k s false) (fun k => by rw [gabionref03_Split.f, if_neg c0, if_pos e0, b1]) ?_
  by_cases c2 : 200 < s.size
  · rw [if_pos c2]
    have e2 : (s.size : Int) > 200 := by omega
    exact Ev.step (f := fun _ => some ([], 36)) (fun k => by simp only [gabionref03_Split.j0, Bool.false_eq_true, if_false, e2, if_true]) (Ev.now _)
  rw [if_neg c2]
  have e2 : ¬ (s.size : Int) > 200 := by omega
  refine Ev.step (f := fun k => gabionref03_Split.l0 k s [] 1 1) (fun k => by simp only [gabionref03_Split.j0, Bool.false_eq_true, if_false, e2]) ?_
  have hlt : 0 < s.data.toList.length := by omega
  have hd : s.data.toList = s.data.toList[0] :: s.data.toList.drop 1 := by
    have h_ := List.drop_eq_getElem_cons hlt
    rwa [List.drop_zero] at h_
  have hb : s.data.toList[0] = 47 := by
    have h1 : bt s 0 = ((s.data.toList[0]).toNat : Int) := by simp [bt, hp]; rfl
    rw [h1] at c1'
    exact UInt8.toNat_inj.1 (by show _ = 47; omega)
  have h_ := scan s (by omega) (s.size - 1) 1 1 [] (by omega) (Nat.le_refl _) (by simp)
  rw [List.drop_eq_nil_of_le (by rw [List.length_take]; omega), addH_nil _ (segL_ne _)] at h_
  have hw : walkS (pieces s) [] = walkS ((segL (s.data.toList.drop 1)).map mkB) [] := by
    rw [pieces_seg]
    conv => lhs; rw [hd, hb]
    rw [segL, if_pos rfl, List.map_cons, walkS, if_pos (.inl (by rw [ByteArray.toList_eq]; rfl))]
  rw [hw]
  exact h_
theorem splitS_len (s : ByteArray) : ∀ (ps out : List ByteArray), (walkS ps out).1.length ≤ 12
  | [], out => by
    rw [walkS]
    split
    · simp
    · simp only; omega
  | p :: ps, out => by
    rw [walkS]
    split
    · exact splitS_len s ps out
    · split
      · exact splitS_len s ps _
      · split
        · simp
        · exact splitS_len s ps _
theorem splitS_le (s : ByteArray) : (splitS s).1.length ≤ 12 := by
  unfold splitS
  split
  · simp
  · split
    · simp
    · split
      · simp
      · exact splitS_len s _ _
theorem splits_pure (s : ByteArray) : ∃ k, gabionlaw03_NamesSplits.f k s = some true := by
  apply Ev.rounds
  by_cases h : 400 < s.size
  · have e : (s.size : Int) > 400 := by omega
    exact Ev.congr (f := fun _ => some true) (fun k => by simp only [gabionlaw03_NamesSplits.f, e, if_true, split_true, Option.bind_some]) (Ev.now _)
  have e : ¬ (s.size : Int) > 400 := by omega
  refine Ev.congr (f := fun k => (gabionref03_Split.f k s).bind fun bt158 => if (splitS s).2 = bt158.2 then ((gabionlaw03_same.f k (splitS s).1 bt158.1).bind fun t163 => some t163) else some false) (fun k => ?_) ?_
  · simp only [gabionlaw03_NamesSplits.f, e, if_false, names_Split.f, Option.bind_some, split_true, if_true]
  · refine Ev.bind (split_eq s) ?_
    refine Ev.congr (f := fun k => (gabionlaw03_same.f k (splitS s).1 (splitS s).1).bind fun t163 => some t163) (fun k => by rw [if_pos rfl]) ?_
    refine Ev.bind (same_eq _ _ (by have h_ := splitS_le s; omega)) ?_
    exact Ev.congr (f := fun _ => some true) (fun k => by simp) (Ev.now _)
end Go.Proofs.YtjjhdddiabdfhaaDoor.XNam
