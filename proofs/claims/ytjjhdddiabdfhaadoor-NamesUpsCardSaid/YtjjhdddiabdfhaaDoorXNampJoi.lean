import Derived.Test.YtjjhdddiabdfhaaDoorXNampNam4
import Derived.Test.YtjjhdddiabdfhaaDoorXNampUtf
/-! Names joined by strokes, and split again: plain facts. -/
set_option linter.unusedVariables false
set_option linter.unusedSimpArgs false
namespace Go.Proofs.YtjjhdddiabdfhaaDoor.XNam
open Go.RowKit Go.Proofs.YtjjhdddiabdfhaaDoorW.PrintWords Go.Proofs.YtjjhdddiabdfhaaDoorW.PrintLast Go.Proofs.YtjjhdddiabdfhaaDoorW.PrintMore Go.Lib
theorem segL_app (a b : List UInt8) : segL (a ++ 47 :: b) = segL a ++ segL b := by
  induction a with
  | nil => simp [segL]
  | cons x a ih =>
    rw [List.cons_append, segL, segL]
    by_cases h : x = 47
    · rw [if_pos h, if_pos h, ih]; rfl
    · rw [if_neg h, if_neg h, ih]
      cases hL : segL a with
      | nil => exact absurd hL (segL_ne a)
      | cons p t => rfl
theorem segL_no : ∀ a : List UInt8, 47 ∉ a → segL a = [a]
  | [], _ => rfl
  | x :: a, h => by
    rw [segL, if_neg (by rintro rfl; exact h List.mem_cons_self), segL_no a (fun h2 => h (List.mem_cons_of_mem _ h2))]
theorem segL_join : ∀ (x : List UInt8) (r : List (List UInt8)), (∀ y ∈ x :: r, 47 ∉ y) → segL (join (x :: r) [47]) = x :: r
  | x, [], h => by rw [join_one, segL_no x (h x List.mem_cons_self)]
  | x, y :: r, h => by
    have e : join (x :: y :: r) [47] = x ++ 47 :: join (y :: r) [47] := by
      rw [join_cons, join_cons]
      simp [joinTail]
    rw [e, segL_app, segL_no x (h x List.mem_cons_self), segL_join y r (fun z hz => h z (List.mem_cons_of_mem _ hz))]
    rfl
/-- The names of parts, none refused. -/
def wgo : List ByteArray → List ByteArray → Option (List ByteArray)
  | [], out => some out
  | p :: ps, out =>
    if p.toList = [] ∨ p.toList = [46] then wgo ps out
    else if p.toList = [46, 46] then wgo ps (out.take (out.length - 1))
    else if chkS p ≠ 0 then none
    else wgo ps (out ++ [p])
theorem walk_go : ∀ (ps qs out : List ByteArray) (o : List ByteArray), wgo ps out = some o → walkS (ps ++ qs) out = walkS qs o
  | [], qs, out, o, h => by obtain rfl : out = o := Option.some.inj h; rfl
  | p :: ps, qs, out, o, h => by
    rw [wgo] at h
    rw [List.cons_append, walkS]
    split at h
    · next c => rw [if_pos c]; exact walk_go ps qs out o h
    · next c =>
      rw [if_neg c]
      split at h
      · next c2 => rw [if_pos c2]; exact walk_go ps qs _ o h
      · next c2 =>
        rw [if_neg c2]
        split at h
        · exact absurd h (by simp)
        · next c3 => rw [if_neg c3]; exact walk_go ps qs _ o h
theorem go_walk : ∀ (ps out : List ByteArray), (walkS ps out).2 = 0 → wgo ps out = some (walkS ps out).1 ∧ (walkS ps out).1.length ≤ 12
  | [], out, h => by
    rw [walkS] at h ⊢
    rw [wgo]
    split at h
    · exact absurd h (by decide)
    · next c => rw [if_neg c]; exact ⟨rfl, by simp only; omega⟩
  | p :: ps, out, h => by
    rw [walkS] at h ⊢
    rw [wgo]
    split at h
    · next c => rw [if_pos c, if_pos c]; exact go_walk ps out h
    · next c =>
      rw [if_neg c, if_neg c]
      split at h
      · next c2 => rw [if_pos c2, if_pos c2]; exact go_walk ps _ h
      · next c2 =>
        rw [if_neg c2, if_neg c2]
        split at h
        · next c3 => exact absurd h c3
        · next c3 => rw [if_neg c3, if_neg c3]; exact go_walk ps _ h
/-- How long names are, each with its stroke. -/
def totS (l : List ByteArray) : Nat := (l.map fun x => x.size + 1).sum
theorem totS_app (a b : List ByteArray) : totS (a ++ b) = totS a + totS b := by simp [totS]
theorem totS_cons (x : ByteArray) (b : List ByteArray) : totS (x :: b) = x.size + 1 + totS b := by simp [totS]
theorem totS_take (l : List ByteArray) (n : Nat) : totS (l.take n) ≤ totS l := by
  have h := totS_app (l.take n) (l.drop n)
  rw [List.take_append_drop] at h
  omega
theorem go_tot : ∀ (ps out o : List ByteArray), wgo ps out = some o → totS o ≤ totS ps + totS out
  | [], out, o, h => by obtain rfl : out = o := Option.some.inj h; simp [totS]
  | p :: ps, out, o, h => by
    rw [wgo] at h
    rw [totS_cons]
    split at h
    · have := go_tot ps out o h; omega
    · split at h
      · have := go_tot ps _ o h
        have := totS_take out (out.length - 1)
        omega
      · split at h
        · exact absurd h (by simp)
        · have h1 := go_tot ps _ o h
          rw [totS_app, totS_cons] at h1
          have : totS [] = 0 := rfl
          omega
theorem go_ok : ∀ (ps out o : List ByteArray), wgo ps out = some o → (∀ x ∈ out, chkS x = 0) → ∀ x ∈ o, chkS x = 0
  | [], out, o, h, hh => by obtain rfl : out = o := Option.some.inj h; exact hh
  | p :: ps, out, o, h, hh => by
    rw [wgo] at h
    split at h
    · exact go_ok ps out o h hh
    · split at h
      · exact go_ok ps _ o h (fun x hx => hh x (List.mem_of_mem_take hx))
      · split at h
        · exact absurd h (by simp)
        · next c => exact go_ok ps _ o h (fun x hx => by
            rcases List.mem_append.1 hx with hx | hx
            · exact hh x hx
            · obtain rfl := List.mem_singleton.1 hx; exact Classical.not_not.1 c)
theorem segL_tot : ∀ a : List UInt8, ((segL a).map fun x => x.length + 1).sum = a.length + 1
  | [] => rfl
  | x :: a => by
    have ih := segL_tot a
    rw [segL]
    by_cases h : x = 47
    · rw [if_pos h]; simp [ih]; omega
    · rw [if_neg h]
      cases hL : segL a with
      | nil => exact absurd hL (segL_ne a)
      | cons p t => rw [hL] at ih; simp at ih ⊢; omega
theorem mkB_size (l : List UInt8) : (mkB l).size = l.length := by simp [mkB, ByteArray.size]
theorem mkB_list (l : List UInt8) : (mkB l).toList = l := by rw [ByteArray.toList_eq]; simp [mkB]
theorem pieces_tot (s : ByteArray) : totS (pieces s) = s.size + 1 := by
  rw [pieces_seg, totS, List.map_map]
  have h := segL_tot s.data.toList
  have h2 : s.data.toList.length = s.size := data_length s
  rw [h2] at h
  rw [← h]
  congr 1
/-- A path: it begins with a stroke. -/
theorem split_path (s : ByteArray) (h : (splitS s).2 = 0) : ∃ r, s.data.toList = 47 :: r ∧ s.size ≤ 200 ∧ pieces s = mkB [] :: (segL r).map mkB ∧ wgo (pieces s) [] = some (splitS s).1 ∧ (splitS s).1.length ≤ 12 ∧ totS (splitS s).1 ≤ s.size ∧ (∀ x ∈ (splitS s).1, chkS x = 0) := by
  rw [splitS] at h ⊢
  split at h
  · exact absurd h (by decide)
  next c1 =>
  rw [if_neg c1]
  split at h
  · exact absurd h (by decide)
  next c2 =>
  rw [if_neg c2]
  split at h
  · exact absurd h (by decide)
  next c3 =>
  rw [if_neg c3]
  have hl : s.data.toList.length = s.size := data_length s
  have hp : 0 < s.size := by
    rcases Nat.eq_zero_or_pos s.size with h | h
    · exfalso; apply c1; rw [ByteArray.toList_eq]; exact List.eq_nil_of_length_eq_zero (by omega)
    · exact h
  have hlt : 0 < s.data.toList.length := by omega
  have hd : s.data.toList = s.data.toList[0] :: s.data.toList.drop 1 := by
    have h_ := List.drop_eq_getElem_cons hlt
    rwa [List.drop_zero] at h_
  have c2' : bt s 0 = 47 := Classical.not_not.1 c2
  have hb : s.data.toList[0] = 47 := by
    have h1 : bt s 0 = ((s.data.toList[0]).toNat : Int) := by simp [bt, hp]; rfl
    rw [h1] at c2'
    exact UInt8.toNat_inj.1 (by show _ = 47; omega)
  rw [hb] at hd
  obtain ⟨r, hr⟩ : ∃ r, s.data.toList.drop 1 = r := ⟨_, rfl⟩
  rw [hr] at hd
  have hpc : pieces s = mkB [] :: (segL r).map mkB := by rw [pieces_seg, hd, segL, if_pos rfl, List.map_cons]
  obtain ⟨g1, g2⟩ := go_walk _ _ h
  obtain ⟨o, ho⟩ : ∃ o, (walkS (pieces s) []).1 = o := ⟨_, rfl⟩
  rw [ho] at g1 g2 ⊢
  refine ⟨r, hd, by omega, hpc, g1, g2, ?_, go_ok _ _ _ g1 (fun x hx => absurd hx (by simp))⟩
  rw [hpc] at g1
  rw [wgo, if_pos (.inl (mkB_list []))] at g1
  have h1 := go_tot _ _ _ g1
  have h2 := pieces_tot s
  rw [hpc, totS_cons] at h2
  have h3 : (mkB []).size = 0 := rfl
  have h4 : totS [] = 0 := rfl
  omega
theorem split_of (s : ByteArray) (r : List UInt8) (h : s.data.toList = 47 :: r) (hs : s.size ≤ 200) : splitS s = walkS ((segL r).map mkB) [] := by
  have hl : s.data.toList.length = s.size := data_length s
  have hp : 0 < s.size := by rw [← hl, h]; simp
  have hb : bt s 0 = 47 := by
    have h0 : s.data.toList[0]? = some 47 := by rw [h]; rfl
    have h1 : s.data.toList[0]'(by omega) = 47 := by rw [List.getElem?_eq_getElem (by omega)] at h0; exact Option.some.inj h0
    have h2 : bt s 0 = ((s.data.toList[0]'(by omega)).toNat : Int) := by simp [bt, hp]; rfl
    rw [h2, h1]; rfl
  rw [splitS, if_neg (by rw [ByteArray.toList_eq, h]; simp), if_neg (by rw [hb]; simp), if_neg (by omega), pieces_seg, h, segL, if_pos rfl, List.map_cons, walkS, if_pos (.inl (mkB_list []))]
theorem up_walk (a b : ByteArray) (h : (splitS a).2 = 0) (qs : List ByteArray) (t : List UInt8) (hb : b.data.toList = a.data.toList ++ 47 :: t) (hs : b.size ≤ 200) (hq : (segL t).map mkB = qs) : splitS b = walkS qs (splitS a).1 := by
  obtain ⟨r, h1, h2, h3, h4, h5, h6, h7⟩ := split_path a h
  rw [h1, List.cons_append] at hb
  rw [split_of b _ hb hs, segL_app, List.map_append, hq]
  rw [h3, wgo, if_pos (.inl (mkB_list []))] at h4
  exact walk_go _ _ _ _ h4
/-- Two points behind a path. -/
theorem split_up (s : ByteArray) (h : (splitS s).2 = 0) (hs : s.size ≤ 190) : splitS (s ++ (⟨#[47, 46, 46]⟩ : ByteArray)) = ((splitS s).1.take ((splitS s).1.length - 1), 0) := by
  obtain ⟨r, h1, h2, h3, h4, h5, h6, h7⟩ := split_path s h
  have hsz : (s ++ (⟨#[47, 46, 46]⟩ : ByteArray)).size = s.size + 3 := ByteArray.size_append
  rw [up_walk s _ h [mkB [46, 46]] [46, 46] (by rw [ByteArray.data_append, Array.toList_append]) (by omega) (by rfl)]
  rw [walkS, if_neg (by rw [mkB_list]; simp), if_pos (mkB_list _), walkS, if_neg (by rw [List.length_take]; omega)]
/-- A point and a stroke behind a path. -/
theorem split_here (s : ByteArray) (h : (splitS s).2 = 0) (hs : s.size ≤ 190) : splitS (s ++ (⟨#[47, 46, 47]⟩ : ByteArray)) = ((splitS s).1, 0) := by
  obtain ⟨r, h1, h2, h3, h4, h5, h6, h7⟩ := split_path s h
  have hsz : (s ++ (⟨#[47, 46, 47]⟩ : ByteArray)).size = s.size + 3 := ByteArray.size_append
  rw [up_walk s _ h [mkB [46], mkB []] [46, 47] (by rw [ByteArray.data_append, Array.toList_append]) (by omega) (by rfl)]
  rw [walkS, if_pos (.inr (mkB_list _)), walkS, if_pos (.inl (mkB_list _)), walkS, if_neg (by omega)]
theorem dec47 (n a b c d : Nat) (hv : ¬ ((decodeN n a b c d).1 = 65533 ∧ (decodeN n a b c d).2 = 1)) :
    (a = 47 → (decodeN n a b c d).1 = 47) ∧ (1 < (decodeN n a b c d).2 → b ≠ 47) ∧ (2 < (decodeN n a b c d).2 → c ≠ 47) ∧ (3 < (decodeN n a b c d).2 → d ≠ 47) ∧ (decodeN n a b c d).2 ≤ 4 := by
  revert hv
  unfold decodeN
  repeat' split
  all_goals simp only
  all_goals intro hv
  all_goals first | omega | exact absurd ⟨rfl, rfl⟩ hv
theorem no47 (s : ByteArray) : ∀ (k i : Nat), s.size ≤ i + k → allF s k i = true → (runesF s k i).any badR = false → ∀ j, i ≤ j → j < s.size → (s.get! j).toNat ≠ 47
  | 0, i, h, _, _, j, h1, h2 => by omega
  | k + 1, i, h, ha, hr, j, h1, h2 => by
    have hlt : i < s.size := by omega
    unfold allF at ha
    rw [if_pos hlt, Bool.and_eq_true] at ha
    have hv : ¬ ((Utf8.decode s i).1 = 65533 ∧ (Utf8.decode s i).2 = 1) := by have h_ := ha.1; rw [Bool.not_eq_true', decide_eq_false_iff_not] at h_; exact h_
    rw [runesF_succ, if_pos hlt, List.any_cons, Bool.or_eq_false_iff] at hr
    have hw := wd_le s i hlt
    by_cases hj : i + (Utf8.decode s i).2 ≤ j
    · exact no47 s k _ (by omega) ha.2 hr.2 j hj h2
    have hd := decode_at s i
    rw [hd] at hv hj
    have h0 := hr.1
    rw [hd] at h0
    obtain ⟨d0, d1, d2, d3, d4⟩ := dec47 _ _ _ _ _ hv
    obtain ⟨q, rfl⟩ : ∃ q, j = i + q := ⟨j - i, by omega⟩
    rcases q with _ | _ | _ | _ | q
    · intro he
      have := d0 he
      rw [this] at h0
      exact absurd h0 (by decide)
    · exact d1 (by omega)
    · exact d2 (by omega)
    · exact d3 (by omega)
    · omega
theorem name_ok (s : ByteArray) (h : chkS s = 0) : 47 ∉ s.data.toList ∧ ¬ (s.toList = [] ∨ s.toList = [46]) ∧ s.toList ≠ [46, 46] ∧ s.size ≤ 24 ∧ 0 < s.size ∧ allF s s.size 0 = true := by
  rw [chkS] at h
  split at h
  · exact absurd h (by decide)
  next c1 =>
  split at h
  · exact absurd h (by decide)
  next c2 =>
  split at h
  · exact absurd h (by decide)
  next c3 =>
  split at h
  · exact absurd h (by decide)
  next c4 =>
  have c3' : allF s s.size 0 = true := by cases hc : allF s s.size 0 <;> simp_all
  have c4' : (runes s).any badR = false := by cases hc : (runes s).any badR <;> simp_all
  have hl : s.data.toList.length = s.size := data_length s
  have hp : 0 < s.size := by
    rcases Nat.eq_zero_or_pos s.size with h | h
    · exfalso; apply c1; left; rw [ByteArray.toList_eq]; exact List.eq_nil_of_length_eq_zero (by omega)
    · exact h
  refine ⟨fun hm => ?_, fun h2 => c1 (by rcases h2 with h2 | h2; exact .inl h2; exact .inr (.inl h2)), fun h2 => c1 (.inr (.inr h2)), by omega, hp, c3'⟩
  obtain ⟨j, hj, hj2⟩ := List.getElem_of_mem hm
  refine no47 s s.size 0 (by omega) c3' c4' j (by omega) (by omega) ?_
  have h3 := get_list s j
  rw [List.getD_eq_getElem?_getD, List.getElem?_eq_getElem hj, hj2] at h3
  rw [h3]; rfl
theorem walk_names : ∀ (l out : List ByteArray), (∀ x ∈ l, chkS x = 0) → out.length + l.length ≤ 12 → walkS l out = (out ++ l, 0)
  | [], out, _, h => by rw [walkS, if_neg (by simp at h; omega), List.append_nil]
  | x :: l, out, hh, h => by
    have hx := hh x List.mem_cons_self
    obtain ⟨_, n1, n2, _⟩ := name_ok x hx
    rw [walkS, if_neg n1, if_neg n2, if_neg (by simp [hx]), walk_names l (out ++ [x]) (fun y hy => hh y (List.mem_cons_of_mem _ hy)) (by simp at h ⊢; omega)]
    simp
/-- The path of names. -/
def pathS (l : List ByteArray) : ByteArray := (⟨#[47]⟩ : ByteArray) ++ joinS l
theorem joinS_list (l : List ByteArray) : (joinS l).data.toList = join (l.map (·.data.toList)) [47] := by simp [joinS]
theorem pathS_list (l : List ByteArray) : (pathS l).data.toList = 47 :: join (l.map (·.data.toList)) [47] := by
  rw [pathS, ByteArray.data_append, Array.toList_append, joinS_list]
  rfl
theorem join_tot : ∀ (l : List ByteArray), (join (l.map (·.data.toList)) [47]).length ≤ totS l ∧ (l ≠ [] → (join (l.map (·.data.toList)) [47]).length + 1 = totS l)
  | [] => ⟨by simp [join_nil, totS], fun h => absurd rfl h⟩
  | [x] => by
    have hl : x.data.toList.length = x.size := data_length x
    rw [List.map_cons, List.map_nil, join_one, hl]
    simp [totS]
  | x :: y :: l => by
    have hl : x.data.toList.length = x.size := data_length x
    have ih := (join_tot (y :: l)).2 (by simp)
    have e : join ((x :: y :: l).map (·.data.toList)) [47] = x.data.toList ++ 47 :: join ((y :: l).map (·.data.toList)) [47] := by
      rw [List.map_cons, List.map_cons, join_cons, join_cons]
      simp [joinTail]
    rw [e, List.length_append, List.length_cons, hl, totS_cons]
    refine ⟨by omega, fun _ => by omega⟩
theorem pathS_size (l : List ByteArray) : (pathS l).size ≤ max 1 (totS l) := by
  have hl : (pathS l).data.toList.length = (pathS l).size := data_length _
  rw [← hl, pathS_list, List.length_cons]
  by_cases h : l = []
  · subst h; rw [List.map_nil, join_nil]; exact Nat.le_max_left _ _
  · have := (join_tot l).2 h; omega
theorem joinS_size (l : List ByteArray) : (joinS l).size ≤ totS l := by
  have hl : (joinS l).data.toList.length = (joinS l).size := data_length _
  rw [← hl, joinS_list]
  exact (join_tot l).1
/-- Names joined are split as they were. -/
theorem split_path_of (l : List ByteArray) (h : ∀ x ∈ l, chkS x = 0) (hl : l.length ≤ 12) (hs : totS l ≤ 200) : splitS (pathS l) = (l, 0) := by
  have h1 := pathS_size l
  rw [split_of (pathS l) _ (pathS_list l) (by omega)]
  by_cases hn : l = []
  · subst hn
    rw [List.map_nil, join_nil, segL, List.map_cons, List.map_nil, walkS, if_pos (.inl (mkB_list [])), walkS]
    rfl
  · obtain ⟨x, r, rfl⟩ : ∃ x r, l = x :: r := by cases l with | nil => exact absurd rfl hn | cons x r => exact ⟨x, r, rfl⟩
    rw [List.map_cons, segL_join _ _ (fun y hy => by
      have hy2 : y ∈ (x :: r).map (·.data.toList) := hy
      obtain ⟨z, hz, rfl⟩ := List.mem_map.1 hy2
      exact (name_ok z (h z hz)).1), show (x.data.toList :: r.map (fun x => x.data.toList)) = (x :: r).map (fun x => x.data.toList) from rfl, List.map_map]
    have h3 : (mkB ∘ fun x : ByteArray => x.data.toList) = id := by funext x; exact mkB_data x
    rw [h3, List.map_id, walk_names _ [] h (by simpa using hl)]
    rfl
theorem split_again (s : ByteArray) (h : (splitS s).2 = 0) : splitS (pathS (splitS s).1) = ((splitS s).1, 0) := by
  obtain ⟨r, h1, h2, h3, h4, h5, h6, h7⟩ := split_path s h
  exact split_path_of _ h7 h5 (by omega)
theorem ba_ext {s t : ByteArray} (h : s.data.toList = t.data.toList) : s = t := by rw [← mkB_data s, ← mkB_data t, h]
theorem join_snoc (y : List UInt8) (r : List (List UInt8)) (x : List UInt8) : join ((y :: r) ++ [x]) [47] = join (y :: r) [47] ++ 47 :: x := by
  rw [List.cons_append, join_cons, join_cons]
  simp [joinTail]
theorem path_one (x : ByteArray) : pathS [x] = pathS [] ++ x := by
  apply ba_ext
  rw [ByteArray.data_append, Array.toList_append, pathS_list, pathS_list, List.map_cons, List.map_nil, join_one, join_nil]
  rfl
theorem path_snoc (a : List ByteArray) (x : ByteArray) (h : a ≠ []) : pathS (a ++ [x]) = (pathS a ++ (⟨#[47]⟩ : ByteArray)) ++ x := by
  obtain ⟨y, r, rfl⟩ : ∃ y r, a = y :: r := by cases a with | nil => exact absurd rfl h | cons y r => exact ⟨y, r, rfl⟩
  apply ba_ext
  rw [ByteArray.data_append, Array.toList_append, ByteArray.data_append, Array.toList_append, pathS_list, pathS_list, List.map_append, List.map_cons, List.map_cons, List.map_nil, join_snoc]
  simp
theorem tot_mem (l : List ByteArray) (j : Nat) (h : j < l.length) : totS (l.take j) + (l[j].size + 1) ≤ totS l := by
  have h1 := totS_app (l.take (j + 1)) (l.drop (j + 1))
  rw [List.take_append_drop, List.take_succ_eq_append_getElem h, totS_app, totS_cons] at h1
  have : totS [] = 0 := rfl
  omega
theorem ref_join_l0 (l : List ByteArray) (hl : l.length ≤ 1000) (ht : totS l ≤ 100000) : ∀ (m j : Nat) (x : ByteArray), j + m = l.length → x = pathS (l.take j) → Ev (fun k => gabionref03_Join.l0 k l x (j : Int)) (pathS l)
  | 0, j, x, hj, hx => by
    have e0 : ¬ (j : Int) < (l.length : Int) := by omega
    have hx2 : x = pathS l := by rw [hx, List.take_of_length_le (by omega)]
    refine Ev.step (f := fun _ => some x) (fun k => by simp only [gabionref03_Join.l0, e0, if_false]) ?_
    rw [hx2]
    exact Ev.now _
  | m + 1, j, x, hj, hx => by
    have hlt : j < l.length := by omega
    have e0 : (j : Int) < (l.length : Int) := by omega
    have e1 : (0 : Int) ≤ (j : Int) := by omega
    have e2 : wrap64 ((j : Int) + 1) = ((j + 1 : Nat) : Int) := w64_succ j (by omega)
    have hs := pathS_size (l.take j)
    have h2 := tot_mem l j hlt
    rw [← hx] at hs
    have hrd := rdB l j hlt
    have ih := fun y hy => ref_join_l0 l hl ht m (j + 1) y (by omega) hy
    have htk := List.take_succ_eq_append_getElem hlt
    obtain ⟨y, hy⟩ : ∃ y, l[j] = y := ⟨_, rfl⟩
    rw [hy] at h2 hrd htk
    have hss : (⟨#[47]⟩ : ByteArray).size = 1 := rfl
    have has : (x ++ (⟨#[47]⟩ : ByteArray)).size = x.size + 1 := ByteArray.size_append
    by_cases c : 0 < j
    · have c0 : (j : Int) > 0 := by omega
      have g1 : x.size + 1 ≤ 9223372036854775807 := by omega
      have g2 : (x ++ (⟨#[47]⟩ : ByteArray)).size + y.size ≤ 9223372036854775807 := by omega
      refine Ev.step (f := fun k => gabionref03_Join.l0 k l ((x ++ (⟨#[47]⟩ : ByteArray)) ++ y) ((j + 1 : Nat) : Int)) (fun k => ?_) (ih _ ?_)
      · simp only [gabionref03_Join.l0, e0, c0, if_true, g1, e1, hrd, g2, e2]
      · rw [htk, path_snoc _ _ (by intro h0; rw [List.take_eq_nil_iff] at h0; rcases h0 with h0 | h0; omega; rw [h0] at hlt; simp at hlt), hx]
    · obtain rfl : j = 0 := by omega
      have c0 : ¬ ((0 : Nat) : Int) > 0 := by omega
      have g2 : x.size + y.size ≤ 9223372036854775807 := by omega
      refine Ev.step (f := fun k => gabionref03_Join.l0 k l (x ++ y) ((0 + 1 : Nat) : Int)) (fun k => ?_) (ih _ ?_)
      · simp only [gabionref03_Join.l0, e0, c0, if_true, if_false, e1, hrd, g2, e2]
      · rw [htk, hx]; exact (path_one y).symm
theorem ref_join_eq (l : List ByteArray) (hl : l.length ≤ 1000) (ht : totS l ≤ 100000) : Ev (fun k => gabionref03_Join.f k l) (pathS l) :=
  Ev.congr (f := fun k => gabionref03_Join.l0 k l (⟨#[47]⟩ : ByteArray) ((0 : Nat) : Int)) (fun k => rfl) (ref_join_l0 l hl ht l.length 0 _ (by omega) (by rfl))
theorem same_refl (l : List ByteArray) (hl : l.length ≤ 1000) : ∃ k, gabionlaw03_same.f k l l = some true := by
  obtain ⟨k, hk⟩ := same_eq l l hl
  exact ⟨k, by have h_ := hk k (Nat.le_refl _); simpa using h_⟩
theorem within_refl (l : List ByteArray) (hl : l.length ≤ 1000) : ∃ k, names_Within.f k l l = some true := by
  obtain ⟨k, hk⟩ := within_eq l l hl
  exact ⟨k, by have h_ := hk k (Nat.le_refl _); simpa using h_⟩
end Go.Proofs.YtjjhdddiabdfhaaDoor.XNam
