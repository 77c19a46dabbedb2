import Derived.Test.YtjjhdddiabdfhaaDoorXNampJoi
/-! Walks: names.Join, names.Last, and the laws that call them. -/
set_option linter.unusedVariables false
set_option linter.unusedSimpArgs false
namespace Go.Proofs.YtjjhdddiabdfhaaDoor.XNam
open Go.RowKit Go.Proofs.YtjjhdddiabdfhaaDoorW.PrintWords Go.Proofs.YtjjhdddiabdfhaaDoorW.PrintLast Go.Proofs.YtjjhdddiabdfhaaDoorW.PrintMore Go.Lib
theorem R_spot {α : Type} {d : Kd α} {e : Nat} {w : World} {base : Nat} {ok : Nat → Prop} {A : Option Addr} {n c : Nat} {xs : List α} (h : d.R e w base ok (.slice A n c) xs) : ∀ a, A = some a → a.spot = none := by
  obtain ⟨inner, ho⟩ := Kd.R_own h
  intro a ha
  rcases ho.2 with ⟨h2, _⟩ | ⟨g, cap, cur, h2, _⟩
  · injection h2 with h3 h4 h5
    rw [ha] at h3
    exact absurd h3 (by simp)
  · injection h2 with h3 h4 h5
    rw [ha] at h3
    injection h3 with h3
    rw [h3]
set_option maxHeartbeats 4000000 in
set_option maxRecDepth 100000 in
theorem join_calls (w : World) (A : Option Addr) (c : Nat) (l : List ByteArray) (hr : Kd.C Kd.string w A l.length l) (hc : l.length ≤ c) (hsp : ∀ a, A = some a → a.spot = none) (hn : l.length ≤ 1000) (ht : totS l ≤ 100000) :
    Calls Tryd.prog 26 #[.slice A l.length c] w fun e w' => e = .returned (.string (pathS l)) ∧ Below w.heap.size w w' := by
  have h1 := joinS_size l
  have HC := Lib.hid (LJoin_any l A c w hr hc (by omega) (by omega) (fun a ha _ => hsp a ha))
  have g1 : 1 + (joinS l).size ≤ 9223372036854775807 := by omega
  clear hr hc hsp hn ht h1
  go_enter Tryd.func26, Tryd.ntmps26
  go_wp2_with fail
  refine HC.out.mono ?_
  rintro e w1 ⟨rfl, hb⟩
  have HB := Lib.hid hb
  clear hb
  have HP : Hid ((⟨#[47]⟩ : ByteArray) ++ joinS l = pathS l) := Lib.hid rfl
  obtain ⟨z, hz⟩ : ∃ z, joinS l = z := ⟨_, rfl⟩
  rw [hz] at g1 HP ⊢
  clear hz
  go_wp2_with fail
  go_ret
  exact ⟨by rw [← HP.out]; rfl, HB.out⟩
set_option maxHeartbeats 4000000 in
set_option maxRecDepth 100000 in
theorem last_none (w : World) (A : Option Addr) (c : Nat) :
    Calls Tryd.prog 20 #[.slice A 0 c] w fun e w' => e = .returned (.tuple #[.slice none 0 0, .string ⟨#[]⟩, .bool false]) ∧ Below w.heap.size w w' := by
  go_enter Tryd.func20, Tryd.ntmps20
  go_wp2_with fail
  go_ret3
  exact ⟨rfl, Below.refl _ _⟩
set_option maxHeartbeats 4000000 in
set_option maxRecDepth 100000 in
theorem last_some (w : World) (ad : Addr) (c n m : Nat) (x : ByteArray) (hm : m = n + 1) (hx : w.cell? (ad.add n) = some (.string x)) (hc : m ≤ c) (hn : n ≤ 1000) :
    Calls Tryd.prog 20 #[.slice (some ad) m c] w fun e w' => e = .returned (.tuple #[.slice (some ad) n n, .string x, .bool true]) ∧ Below w.heap.size w w' := by
  have e1 : wrap64 ((m : Int) - 1) = (n : Int) := by unfold wrap64; omega
  have e2 : (n : Int) ≤ (c : Int) := by omega
  have e3 : (n : Int) < (m : Int) := by omega
  have e4 : (0 : Int) ≤ (n : Int) := by omega
  have b1 : ((m : Int) == 0) = false := by simp; omega
  have b2 : (m == 0) = false := by simp; omega
  clear hm hc hn
  go_enter Tryd.func20, Tryd.ntmps20
  go_wp2_with fail
  go_quiet (fail)
  go_wp2_with fail
  go_ret3
  exact ⟨rfl, by repeat (first | exact Below.refl _ _ | apply pw_below_drewN)⟩

theorem C_take {α : Type} {d : Kd α} {w : World} {A : Option Addr} {n : Nat} {xs : List α} (h : Kd.C d w A n xs) (i : Nat) (hi : i ≤ n) : Kd.C d w A i (xs.take i) := by
  refine ⟨by rw [List.length_take, h.1]; omega, by have := h.2.1; omega, fun h0 => ?_⟩
  obtain ⟨ad, hA, hc⟩ := h.2.2 (by omega)
  refine ⟨ad, hA, fun j p hj => hc j p ?_⟩
  rw [List.getElem?_take] at hj
  split at hj
  · exact hj
  · cases hj
theorem C_cell {w : World} {A : Option Addr} {n : Nat} {xs : List ByteArray} (h : Kd.C Kd.string w A n xs) (j : Nat) (x : ByteArray) (hj : xs[j]? = some x) : ∃ ad, A = some ad ∧ w.cell? (ad.add j) = some (.string x) := by
  have hl := (List.getElem?_eq_some_iff.1 hj).1
  obtain ⟨ad, hA, hcell⟩ := h.2.2 (by have := h.1; omega)
  refine ⟨ad, hA, ?_⟩
  obtain ⟨cs, h1, h2, h3⟩ := hcell j x hj
  obtain rfl : cs = [.string x] := h2
  have h4 := h3 0 (.string x) rfl
  rw [show j * Kd.string.sz + 0 = j from (by show j * 1 + 0 = j; omega)] at h4
  exact h4
/-- names.Last, either way. -/
theorem last_calls (w : World) (A : Option Addr) (c : Nat) (l u : List ByteArray) (x : ByteArray) (hl : l = u ++ [x]) (hr : Kd.C Kd.string w A l.length l) (hc : l.length ≤ c) (hn : l.length ≤ 1000) :
    Calls Tryd.prog 20 #[.slice A l.length c] w fun e w' => e = .returned (.tuple #[.slice A u.length u.length, .string x, .bool true]) ∧ Below w.heap.size w w' := by
  have h1 : l.length = u.length + 1 := by rw [hl]; simp
  obtain ⟨ad, hA, hcell⟩ := C_cell hr u.length x (by rw [hl]; simp)
  rw [hA]
  exact last_some w ad c u.length l.length x h1 hcell hc (by omega)
set_option maxHeartbeats 4000000 in
set_option maxRecDepth 100000 in
theorem again_walk (s : ByteArray) (w : World) (hg : GT w) :
    Calls Tryd.prog 11 #[.string s] w fun e w' => e = .returned (.bool true) ∧ Below w.heap.size w w' := by
  have HG := Lib.hid hg
  clear hg
  have HS1 := Lib.hid (gabionlaw03_split.calls true w split_true HG.out)
  by_cases h : 400 < s.size
  · have e1 : (400 : Int) < (s.size : Int) := by omega
    clear h
    go_enter Tryd.func11, Tryd.ntmps11
    go_wp2_with fail
    refine HS1.out.mono ?_
    rintro e w1 ⟨rfl, hb⟩
    have HB1 := Lib.hid hb
    clear hb
    go_wp2_with fail
    refine (gabionlaw03_split.calls true w1 split_true (HG.out.below HB1.out)).mono ?_
    rintro e w2 ⟨rfl, hb⟩
    have HB2 := Lib.hid (bl_seq_ HB1.out hb)
    clear hb
    go_wp2_with fail
    go_ret
    exact ⟨rfl, HB2.out⟩
  have e1 : (s.size : Int) ≤ 400 := by omega
  clear h
  obtain ⟨l, e, hle⟩ : ∃ l e, splitS s = (l, e) := ⟨_, _, rfl⟩
  by_cases h2 : e = 0
  · subst h2
    have hs0 : (splitS s).2 = 0 := by rw [hle]
    have hag := split_again s hs0
    obtain ⟨r, -, q2, -, -, q5, q6, -⟩ := split_path s hs0
    rw [hle] at hag q5 q6
    have HAG : Hid (splitS (pathS l) = (l, 0)) := Lib.hid hag
    have H5 : Hid (l.length ≤ 12 ∧ totS l ≤ 200) := Lib.hid ⟨q5, Nat.le_trans q6 q2⟩
    have HLE := Lib.hid hle
    obtain ⟨ks, hks⟩ := same_refl l (by have := H5.out; omega)
    obtain ⟨kw, hkw⟩ := within_refl l (by have := H5.out; omega)
    have HKS := Lib.hid hks
    have HKW := Lib.hid hkw
    clear hag q2 q5 q6 hle hs0 hks hkw
    go_enter Tryd.func11, Tryd.ntmps11
    go_wp2_with fail
    refine HS1.out.mono ?_
    rintro e w1 ⟨rfl, hb⟩
    have HB1 := Lib.hid hb
    clear hb
    go_wp2_with fail
    refine (names_Split.calls s l 0 w1 (by rw [names_Split.f, HLE.out]) (HG.out.below HB1.out)).mono ?_
    rintro e w2 ⟨v, rfl, hr, hb⟩
    have HB2 := Lib.hid (bl_seq_ HB1.out hb)
    obtain ⟨A, c, rfl, hnc, hC⟩ := Kd.R_reads hr
    have HSP := Lib.hid (R_spot hr)
    have HC2 := Lib.hid hC
    have HN := Lib.hid hnc
    clear hb hr hC hnc
    go_wp2_with fail
    refine (join_calls w2 A c l HC2.out HN.out HSP.out (by have := H5.out; omega) (by have := H5.out; omega)).mono ?_
    rintro e w3 ⟨rfl, hb⟩
    have HB3 := Lib.hid (bl_seq_ HB2.out hb)
    have HC3 := Lib.hid (Kd.C_below HC2.out hb)
    clear hb
    obtain ⟨z, hz⟩ : ∃ z, pathS l = z := ⟨_, rfl⟩
    rw [hz] at HAG ⊢
    clear hz
    go_wp2_with fail
    refine (names_Split.calls z l 0 w3 (by rw [names_Split.f, HAG.out]) (HG.out.below HB3.out)).mono ?_
    rintro e w4 ⟨v, rfl, hr, hb⟩
    have HB4 := Lib.hid (bl_seq_ HB3.out hb)
    have HC4 := Lib.hid (Kd.C_below HC3.out hb)
    obtain ⟨A2, c2, rfl, hnc, hC⟩ := Kd.R_reads hr
    have HD4 := Lib.hid hC
    have HN2 := Lib.hid hnc
    clear hb hr hC hnc
    go_wp2_with fail
    refine (gabionlaw03_same.calls ks A c l A2 c2 l true w4 HC4.out HN.out HD4.out HN2.out HKS.out).mono ?_
    rintro e w5 ⟨rfl, hd⟩
    have HB5 := Lib.hid (bl_seq_ HB4.out hd.below)
    have HC5 := Lib.hid (Kd.C_below HC4.out hd.below)
    have HD5 := Lib.hid (Kd.C_below HD4.out hd.below)
    clear hd
    go_wp2_with fail
    refine (names_Within.calls kw A c l A2 c2 l true w5 HC5.out HN.out HD5.out HN2.out HKW.out).mono ?_
    rintro e w6 ⟨rfl, hd⟩
    have HB6 := Lib.hid (bl_seq_ HB5.out hd.below)
    have HC6 := Lib.hid (Kd.C_below HC5.out hd.below)
    have HD6 := Lib.hid (Kd.C_below HD5.out hd.below)
    clear hd
    go_wp2_with fail
    refine (names_Within.calls kw A2 c2 l A c l true w6 HD6.out HN2.out HC6.out HN.out HKW.out).mono ?_
    rintro e w7 ⟨rfl, hd⟩
    have HB7 := Lib.hid (bl_seq_ HB6.out hd.below)
    clear hd
    go_wp2_with fail
    go_ret
    exact ⟨rfl, HB7.out⟩
  · have b1 : (e != 0) = true := by simpa using h2
    have HLE := Lib.hid hle
    clear h2 hle
    go_enter Tryd.func11, Tryd.ntmps11
    go_wp2_with fail
    refine HS1.out.mono ?_
    rintro e w1 ⟨rfl, hb⟩
    have HB1 := Lib.hid hb
    clear hb
    go_wp2_with fail
    refine (names_Split.calls s l _ w1 (by rw [names_Split.f, HLE.out]) (HG.out.below HB1.out)).mono ?_
    rintro e w2 ⟨v, rfl, hr, hb⟩
    have HB2 := Lib.hid (bl_seq_ HB1.out hb)
    clear hb hr
    go_wp2_with fail
    go_ret
    exact ⟨rfl, HB2.out⟩
set_option maxHeartbeats 4000000 in
set_option maxRecDepth 100000 in
theorem ups_walk (s : ByteArray) (w : World) (hg : GT w) :
    Calls Tryd.prog 6 #[.string s] w fun e w' => e = .returned (.bool true) ∧ Below w.heap.size w w' := by
  have HG := Lib.hid hg
  clear hg
  have HS1 := Lib.hid (gabionlaw03_split.calls true w split_true HG.out)
  by_cases h : 190 < s.size
  · have e1 : (190 : Int) < (s.size : Int) := by omega
    clear h
    go_enter Tryd.func6, Tryd.ntmps6
    go_wp2_with fail
    refine HS1.out.mono ?_
    rintro e w1 ⟨rfl, hb⟩
    have HB1 := Lib.hid hb
    clear hb
    go_wp2_with fail
    refine (gabionlaw03_split.calls true w1 split_true (HG.out.below HB1.out)).mono ?_
    rintro e w2 ⟨rfl, hb⟩
    have HB2 := Lib.hid (bl_seq_ HB1.out hb)
    clear hb
    go_wp2_with fail
    go_ret
    exact ⟨rfl, HB2.out⟩
  have e1 : (s.size : Int) ≤ 190 := by omega
  obtain ⟨l, e, hle⟩ : ∃ l e, splitS s = (l, e) := ⟨_, _, rfl⟩
  by_cases h2 : e = 0
  · subst h2
    have hs0 : (splitS s).2 = 0 := by rw [hle]
    have hup := split_up s hs0 (by omega)
    have hhe := split_here s hs0 (by omega)
    obtain ⟨r, -, q2, -, -, q5, q6, -⟩ := split_path s hs0
    rw [hle] at hup hhe q5 q6
    obtain ⟨u, hu⟩ : ∃ u, l.take (l.length - 1) = u := ⟨_, rfl⟩
    have hul : u.length ≤ 12 := by rw [← hu, List.length_take]; simp only at q5; omega
    simp only [hu] at hup
    have HU := Lib.hid hu
    have g1 : s.size + 3 ≤ 9223372036854775807 := by omega
    clear h
    have HUP : Hid (splitS (s ++ (⟨#[47, 46, 46]⟩ : ByteArray)) = (u, 0)) := Lib.hid hup
    have HHE : Hid (splitS (s ++ (⟨#[47, 46, 47]⟩ : ByteArray)) = (l, 0)) := Lib.hid hhe
    have H5 : Hid (l.length ≤ 12 ∧ totS l ≤ 200) := Lib.hid ⟨q5, Nat.le_trans q6 q2⟩
    have HLE := Lib.hid hle
    obtain ⟨ks, hks⟩ := same_refl l (by have := H5.out; omega)
    obtain ⟨ku, hku⟩ := same_refl u (by omega)
    have HKS := Lib.hid hks
    have HKU := Lib.hid hku
    obtain ⟨z1, hz1⟩ : ∃ z, s ++ (⟨#[47, 46, 46]⟩ : ByteArray) = z := ⟨_, rfl⟩
    obtain ⟨z2, hz2⟩ : ∃ z, s ++ (⟨#[47, 46, 47]⟩ : ByteArray) = z := ⟨_, rfl⟩
    rw [hz1] at HUP
    rw [hz2] at HHE
    clear hu hul hup hhe q2 q5 q6 hle hs0 hks hku
    go_enter Tryd.func6, Tryd.ntmps6
    go_wp2_with fail
    refine HS1.out.mono ?_
    rintro e w1 ⟨rfl, hb⟩
    have HB1 := Lib.hid hb
    clear hb
    go_wp2_with fail
    refine (names_Split.calls s l 0 w1 (by rw [names_Split.f, HLE.out]) (HG.out.below HB1.out)).mono ?_
    rintro e w2 ⟨v, rfl, hr, hb⟩
    have HB2 := Lib.hid (bl_seq_ HB1.out hb)
    obtain ⟨A, c, rfl, hnc, hC⟩ := Kd.R_reads hr
    have HC2 := Lib.hid hC
    have HN := Lib.hid hnc
    clear hb hr hC hnc
    go_wp2_with fail
    refine (names_Split.calls z1 u 0 w2 (by rw [names_Split.f, HUP.out]) (HG.out.below HB2.out)).mono ?_
    rintro e w3 ⟨v, rfl, hr, hb⟩
    have HB3 := Lib.hid (bl_seq_ HB2.out hb)
    have HC3 := Lib.hid (Kd.C_below HC2.out hb)
    obtain ⟨A1, c1, rfl, hnc, hC⟩ := Kd.R_reads hr
    have HD3 := Lib.hid hC
    have HN1 := Lib.hid hnc
    clear hb hr hC hnc
    go_wp2_with fail
    refine (names_Split.calls z2 l 0 w3 (by rw [names_Split.f, HHE.out]) (HG.out.below HB3.out)).mono ?_
    rintro e w4 ⟨v, rfl, hr, hb⟩
    have HB4 := Lib.hid (bl_seq_ HB3.out hb)
    have HC4 := Lib.hid (Kd.C_below HC3.out hb)
    have HD4 := Lib.hid (Kd.C_below HD3.out hb)
    obtain ⟨A2, c2, rfl, hnc, hC⟩ := Kd.R_reads hr
    have HE4 := Lib.hid hC
    have HN2 := Lib.hid hnc
    clear hb hr hC hnc
    by_cases hl : l = []
    · subst hl
      have hu0 : u = [] := by rw [← HU.out]; rfl
      subst hu0
      go_wp2_with fail
      refine (last_none w4 A c).mono ?_
      rintro e w5 ⟨rfl, hb⟩
      have HB5 := Lib.hid (bl_seq_ HB4.out hb)
      have HC5 := Lib.hid (Kd.C_below HC4.out hb)
      have HE5 := Lib.hid (Kd.C_below HE4.out hb)
      clear hb
      go_wp2_with fail
      refine (gabionlaw03_same.calls ks A2 c2 [] A c [] true w5 HE5.out HN2.out HC5.out HN.out HKS.out).mono ?_
      rintro e w6 ⟨rfl, hd⟩
      have HB6 := Lib.hid (bl_seq_ HB5.out hd.below)
      clear hd
      go_wp2_with fail
      go_ret
      exact ⟨rfl, HB6.out⟩
    · obtain ⟨x, hux⟩ : ∃ x, l = u ++ [x] := ⟨l.getLast hl, by
        rw [← HU.out, ← List.dropLast_eq_take]
        exact (List.dropLast_concat_getLast hl).symm⟩
      have HUX := Lib.hid hux
      clear hux hl
      go_wp2_with fail
      refine (last_calls w4 A c l u x HUX.out HC4.out HN.out (by have := H5.out; omega)).mono ?_
      rintro e w5 ⟨rfl, hb⟩
      have HB5 := Lib.hid (bl_seq_ HB4.out hb)
      have HC5 := Lib.hid (Kd.C_below HC4.out hb)
      have HD5 := Lib.hid (Kd.C_below HD4.out hb)
      have HE5 := Lib.hid (Kd.C_below HE4.out hb)
      clear hb
      go_wp2_with fail
      refine (gabionlaw03_same.calls ks A2 c2 l A c l true w5 HE5.out HN2.out HC5.out HN.out HKS.out).mono ?_
      rintro e w6 ⟨rfl, hd⟩
      have HB6 := Lib.hid (bl_seq_ HB5.out hd.below)
      have HC6 := Lib.hid (Kd.C_below HC5.out hd.below)
      have HD6 := Lib.hid (Kd.C_below HD5.out hd.below)
      clear hd
      go_wp2_with fail
      refine (gabionlaw03_same.calls ku A1 c1 u A u.length u true w6 HD6.out HN1.out ?_ (Nat.le_refl _) HKU.out).mono ?_
      · have h_ := C_take HC6.out u.length (by rw [HUX.out]; simp)
        rw [show l.take u.length = u by rw [HUX.out]; simp] at h_
        exact h_
      rintro e w7 ⟨rfl, hd⟩
      have HB7 := Lib.hid (bl_seq_ HB6.out hd.below)
      clear hd
      go_wp2_with fail
      go_ret
      exact ⟨rfl, HB7.out⟩
  · have b1 : (e != 0) = true := by simpa using h2
    have HLE := Lib.hid hle
    clear h2 hle h
    go_enter Tryd.func6, Tryd.ntmps6
    go_wp2_with fail
    refine HS1.out.mono ?_
    rintro e w1 ⟨rfl, hb⟩
    have HB1 := Lib.hid hb
    clear hb
    go_wp2_with fail
    refine (names_Split.calls s l _ w1 (by rw [names_Split.f, HLE.out]) (HG.out.below HB1.out)).mono ?_
    rintro e w2 ⟨v, rfl, hr, hb⟩
    have HB2 := Lib.hid (bl_seq_ HB1.out hb)
    clear hb hr
    go_wp2_with fail
    go_ret
    exact ⟨rfl, HB2.out⟩
theorem tot_bound : ∀ l : List ByteArray, (∀ x ∈ l, x.size ≤ 200) → totS l ≤ 201 * l.length
  | [], _ => by simp [totS]
  | x :: l, h => by
    have h1 := h x List.mem_cons_self
    have h2 := tot_bound l (fun y hy => h y (List.mem_cons_of_mem _ hy))
    rw [totS_cons, List.length_cons]
    omega
/-- So far in the loop. -/
def JoS (w wr : World) (l : List ByteArray) (m0 : Bool) (j T : Nat) (mb : Bool) : Prop :=
  Below w.heap.size w wr ∧ (∀ x ∈ l.take j, x.size ≤ 200) ∧ mb = (m0 && (l.take j).all fun x => decide (chkS x = 0)) ∧ T = totS (l.take j)
set_option maxHeartbeats 4000000 in
set_option maxRecDepth 100000 in
theorem joins_walk (A : Option Addr) (c : Nat) (l : List ByteArray) (w : World) (hr : Kd.C Kd.string w A l.length l) (hc : l.length ≤ c) (hsp : ∀ a, A = some a → a.spot = none) (hg : GT w) :
    Calls Tryd.prog 10 #[.slice A l.length c] w fun e w' => e = .returned (.bool true) ∧ Below w.heap.size w w' := by
  have HG := Lib.hid hg
  have HC := Lib.hid hr
  have HN := Lib.hid hc
  have HSP := Lib.hid hsp
  clear hg hr hc hsp
  by_cases h : 20 < l.length
  · have e1 : (20 : Int) < (l.length : Int) := by omega
    go_enter Tryd.func10, Tryd.ntmps10
    go_wp2_with fail
    refine (gabionlaw03_split.calls true w split_true HG.out).mono ?_
    rintro e w1 ⟨rfl, hb⟩
    have HB1 := Lib.hid hb
    clear hb
    go_wp2_with fail
    go_ret
    exact ⟨rfl, HB1.out⟩
  have e1 : (l.length : Int) ≤ 20 := by omega
  have e1n : l.length ≤ 20 := by omega
  obtain ⟨n, hn⟩ : ∃ n, l.length = n := ⟨_, rfl⟩
  obtain ⟨m0, hm0⟩ : ∃ m0, decide (n ≤ 12) = m0 := ⟨_, rfl⟩
  have hm1 : decide ((n : Int) ≤ 12) = m0 := by rw [← hm0]; congr 1; apply propext; omega
  have HLN := Lib.hid hn
  rw [hn] at e1 e1n HC HN ⊢
  clear h hn
  go_enter Tryd.func10, Tryd.ntmps10
  go_wp2_with fail
  go_loopw [3, 4, 5] (fun a b i wr => ∃ (j T : Nat) (mb : Bool), j ≤ n ∧ T ≤ 201 * j ∧ a = .int .i64 (T : Int) ∧ b = .bool mb ∧ i = .int .i64 (j : Int) ∧ Hid (JoS w wr l m0 j T mb)) (fun _ _ i _ => n - (RowKit.intOf i).toNat)
  case atStart => exact ⟨0, 0, m0, Nat.zero_le _, Nat.le_refl _, rfl, by first | rfl | (simp [hm0, hm1]), rfl, Lib.hid ⟨Below.refl _ _, by simp, by simp, by simp [totS]⟩⟩
  case round =>
    obtain ⟨j, T, mb, hj, hT, rfl, rfl, rfl, HS⟩ := hrel
    have HB := Lib.hid HS.out.1
    have HCr := Lib.hid (Kd.C_below HC.out HB.out)
    have HGr := Lib.hid (HG.out.below HB.out)
    by_cases hlt : j < n
    · obtain ⟨x, hx⟩ : ∃ x, l[j]? = some x := ⟨_, List.getElem?_eq_getElem (by rw [HLN.out]; exact hlt)⟩
      obtain ⟨ad, hA, hcell⟩ := C_cell HCr.out j x hx
      have hltI : (j : Int) < (n : Int) := by omega
      have HX := Lib.hid hx
      have htk : l.take (j + 1) = l.take j ++ [x] := by rw [List.take_add_one, hx]; rfl
      have HTK := Lib.hid htk
      have HA := Lib.hid hA
      clear hx htk
      by_cases h200 : 200 < x.size
      · have f1 : (200 : Int) < (x.size : Int) := by omega
        rw [hA]
        clear h200
        go_wp2_with fail
        refine (gabionlaw03_split.calls true wr split_true HGr.out).mono ?_
        rintro e w1 ⟨rfl, hb⟩
        have HB1 := Lib.hid (bl_seq_ HB.out hb)
        clear hb
        go_wp2_with fail
        go_ret
        exact ⟨rfl, HB1.out⟩
      have f1 : (x.size : Int) ≤ 200 := by omega
      have f2 : wrap64 ((T : Int) + 1) = (T : Int) + 1 := by unfold wrap64; omega
      have f3 : wrap64 ((T : Int) + 1 + (x.size : Int)) = ((T + 1 + x.size : Nat) : Int) := by unfold wrap64; omega
      have f4 : wrap64 ((j : Int) + 1) = ((j + 1 : Nat) : Int) := by unfold wrap64; omega
      have HXS : Hid (∀ y ∈ l.take (j + 1), y.size ≤ 200) := Lib.hid (by
        intro y hy
        rw [HTK.out] at hy
        rcases List.mem_append.1 hy with hy | hy
        · exact HS.out.2.1 y hy
        · obtain rfl := List.mem_singleton.1 hy; omega)
      have HTT : Hid (T + 1 + x.size = totS (l.take (j + 1))) := Lib.hid (by
        rw [HTK.out, totS_app, totS_cons, ← HS.out.2.2.2]
        have : totS [] = 0 := rfl
        omega)
      have HAL : Hid ((l.take (j + 1)).all (fun x => decide (chkS x = 0)) = ((l.take j).all (fun x => decide (chkS x = 0)) && decide (chkS x = 0))) := Lib.hid (by rw [HTK.out, List.all_append]; simp)
      have hb1 : T + 1 + x.size ≤ 201 * (j + 1) := by omega
      have HBB := Lib.hid hb1
      have HMB := Lib.hid HS.out.2.2.1
      obtain ⟨k, hk⟩ := check_eq x (by omega)
      have HK := Lib.hid (hk k (Nat.le_refl _))
      clear hk hb1 h200 HS
      cases mb with
      | false =>
        rw [hA]
        go_wp2_with fail
        go_roundw
        case rel => exact ⟨j + 1, T + 1 + x.size, false, by omega, HBB.out, rfl, rfl, by go_num, Lib.hid ⟨HB.out, HXS.out, by rw [HAL.out, ← Bool.and_assoc, ← HMB.out]; rfl, HTT.out⟩⟩
        case measure => simp [RowKit.intOf]; omega
      | true =>
        obtain ⟨z, hz⟩ : ∃ z, chkS x = z := ⟨_, rfl⟩
        rw [hz] at HK HAL
        obtain ⟨bz, hbz⟩ : ∃ bz, (z == 0) = bz := ⟨_, rfl⟩
        have HBZ : Hid (decide (z = 0) = bz) := Lib.hid (by rw [← hbz]; rfl)
        rw [hA]
        go_wp2_with fail
        refine (gabionref03_Check.calls k x z wr HK.out).mono ?_
        rintro e w1 ⟨rfl, hb⟩
        have HB1 := Lib.hid (bl_seq_ HB.out (by first | exact hb | exact hb.below))
        clear hb
        go_wp2_with fail
        go_roundw
        case rel => exact ⟨j + 1, T + 1 + x.size, bz, by omega, HBB.out, rfl, by first | rfl | simp [hbz], by go_num, Lib.hid ⟨HB1.out, HXS.out, by rw [HAL.out, ← Bool.and_assoc, ← HMB.out, HBZ.out]; rfl, HTT.out⟩⟩
        case measure => simp [RowKit.intOf]; omega
    · obtain rfl : j = n := by omega
      have htl : l.take j = l := List.take_of_length_le (by rw [HLN.out]; exact Nat.le_refl _)
      have hs4 := HS.out
      rw [JoS, htl] at hs4
      obtain ⟨-, s2, s3, s4⟩ := hs4
      have ht := tot_bound l s2
      rw [HLN.out] at ht
      have HT := Lib.hid (show totS l ≤ 4020 by omega)
      have HTE := Lib.hid s4
      have HM := Lib.hid s3
      have HJC := Lib.hid (join_calls wr A c l (by rw [HLN.out]; exact HCr.out) (by rw [HLN.out]; exact HN.out) HSP.out (by rw [HLN.out]; omega) (by have := HT.out; omega))
      rw [HLN.out] at HJC
      obtain ⟨kj, hkj⟩ := ref_join_eq l (by rw [HLN.out]; omega) (by have := HT.out; omega)
      have HRJ := Lib.hid (hkj kj (Nat.le_refl _))
      have HPS : Hid (mb = true → totS l ≤ 200 → splitS (pathS l) = (l, 0)) := Lib.hid (fun hmb htt => by
        rw [hmb] at s3
        have s5 := (Bool.and_eq_true _ _).mp s3.symm
        refine split_path_of l (fun x hx => ?_) ?_ htt
        · have := List.all_eq_true.1 s5.2 x hx
          exact of_decide_eq_true this
        · rw [HLN.out]; rw [← hm0] at s5; exact of_decide_eq_true s5.1)
      clear s2 s3 s4 ht htl hkj HS hm0 hm1
      obtain ⟨z, hz⟩ : ∃ z, pathS l = z := ⟨_, rfl⟩
      rw [hz] at HJC HRJ HPS
      clear hz hlt
      go_wp2_with fail
      refine HJC.out.mono ?_
      rintro e w1 ⟨rfl, hb⟩
      have HB1 := Lib.hid (bl_seq_ HB.out hb)
      have HC1 := Lib.hid (Kd.C_below HCr.out hb)
      clear hb HJC
      go_wp2_with fail
      refine (gabionlaw03_split.calls true w1 split_true (HG.out.below HB1.out)).mono ?_
      rintro e w2 ⟨rfl, hb⟩
      have HB2 := Lib.hid (bl_seq_ HB1.out hb)
      have HC2 := Lib.hid (Kd.C_below HC1.out hb)
      clear hb
      have HRC := Lib.hid (gabionref03_Join.calls kj A c l z w2 (by rw [HLN.out]; exact HC2.out) (by rw [HLN.out]; exact HN.out) HRJ.out)
      rw [HLN.out] at HRC
      go_wp2_with fail
      refine HRC.out.mono ?_
      rintro e w3 ⟨rfl, hd⟩
      have HB3 := Lib.hid (bl_seq_ HB2.out hd.below)
      have HC3 := Lib.hid (Kd.C_below HC2.out hd.below)
      clear hd HRC
      cases mb with
      | false =>
        go_wp2_with fail
        go_ret
        exact ⟨rfl, HB3.out⟩
      | true =>
        by_cases h2 : 200 < T
        · have f1 : (200 : Int) < (T : Int) := by omega
          clear h2
          go_wp2_with fail
          go_ret
          exact ⟨rfl, HB3.out⟩
        have f1 : (T : Int) ≤ 200 := by omega
        have HSP2 : Hid (splitS z = (l, 0)) := Lib.hid (HPS.out rfl (by rw [← HTE.out]; omega))
        clear h2 HPS
        go_wp2_with fail
        refine (names_Split.calls z l 0 w3 (by rw [names_Split.f, HSP2.out]) (HG.out.below HB3.out)).mono ?_
        rintro e w4 ⟨v, rfl, hr, hb⟩
        have HB4 := Lib.hid (bl_seq_ HB3.out hb)
        have HC4 := Lib.hid (Kd.C_below HC3.out hb)
        obtain ⟨A2, c2, rfl, hnc, hC⟩ := Kd.R_reads hr
        rw [HLN.out] at hC hnc
        rw [HLN.out]
        have HE4 := Lib.hid hC
        have HN2 := Lib.hid hnc
        clear hb hr hC hnc
        obtain ⟨ks, hks⟩ := same_refl l (by rw [HLN.out]; omega)
        have HKS := Lib.hid hks
        clear hks
        by_cases hl : l = []
        · have hj0 : j = 0 := by rw [← HLN.out, hl]; rfl
          subst hj0
          go_wp2_with fail
          refine (last_none w4 A c).mono ?_
          rintro e w5 ⟨rfl, hb⟩
          have HB5 := Lib.hid (bl_seq_ HB4.out hb)
          have HC5 := Lib.hid (Kd.C_below HC4.out hb)
          have HE5 := Lib.hid (Kd.C_below HE4.out hb)
          clear hb
          have HSM := Lib.hid (gabionlaw03_same.calls ks A2 c2 l A c l true w5 (by rw [HLN.out]; exact HE5.out) (by rw [HLN.out]; exact HN2.out) (by rw [HLN.out]; exact HC5.out) (by rw [HLN.out]; exact HN.out) HKS.out)
          rw [HLN.out] at HSM
          go_wp2_with fail
          refine HSM.out.mono ?_
          rintro e w6 ⟨rfl, hd⟩
          have HB6 := Lib.hid (bl_seq_ HB5.out hd.below)
          clear hd
          go_wp2_with fail
          go_ret
          exact ⟨rfl, HB6.out⟩
        · obtain ⟨u, x, hux⟩ : ∃ u x, l = u ++ [x] := ⟨l.dropLast, l.getLast hl, (List.dropLast_concat_getLast hl).symm⟩
          have hju : j = u.length + 1 := by rw [← HLN.out, hux]; simp
          obtain ⟨q, hq⟩ : ∃ q, u.length = q := ⟨_, rfl⟩
          have HUL := Lib.hid hq
          rw [hq] at hju
          obtain ⟨ku, hku⟩ := same_refl u (by rw [hq]; omega)
          have HKU := Lib.hid hku
          have HUX := Lib.hid hux
          have HLC := Lib.hid (last_calls w4 A c l u x hux (by rw [HLN.out]; exact HC4.out) (by rw [HLN.out]; exact HN.out) (by rw [HLN.out]; omega))
          rw [HLN.out, hq] at HLC
          have k1 : wrap64 ((j : Int) - 1) = (q : Int) := by unfold wrap64; omega
          have k2 : (q : Int) < (j : Int) := by omega
          have k3 : (q : Int) ≤ (c : Int) := by have := HN.out; omega
          have k4 : decide ((0 : Int) < (j : Int)) = true := decide_eq_true (by omega)
          have k5 : decide (0 < j) = true := decide_eq_true (by omega)
          have k6 : 0 < j := by omega
          have k7 : j - 1 = q := by omega
          have HJU := Lib.hid hju
          clear hux hku hq hl hju
          go_wp2_with fail
          refine HLC.out.mono ?_
          rintro e w5 ⟨rfl, hb⟩
          have HB5 := Lib.hid (bl_seq_ HB4.out hb)
          have HC5 := Lib.hid (Kd.C_below HC4.out hb)
          have HE5 := Lib.hid (Kd.C_below HE4.out hb)
          clear hb
          have HSM := Lib.hid (gabionlaw03_same.calls ks A2 c2 l A c l true w5 (by rw [HLN.out]; exact HE5.out) (by rw [HLN.out]; exact HN2.out) (by rw [HLN.out]; exact HC5.out) (by rw [HLN.out]; exact HN.out) HKS.out)
          rw [HLN.out] at HSM
          go_wp2_with fail
          refine HSM.out.mono ?_
          rintro e w6 ⟨rfl, hd⟩
          have HB6 := Lib.hid (bl_seq_ HB5.out hd.below)
          have HC6 := Lib.hid (Kd.C_below HC5.out hd.below)
          clear hd
          obtain ⟨ad, hA, hcell⟩ := C_cell HC6.out q x (by rw [HUX.out, ← HUL.out]; simp)
          have HCU := Lib.hid (C_take HC6.out q (by omega))
          have htu : l.take q = u := by rw [HUX.out, ← HUL.out]; simp
          rw [htu] at HCU
          have HSU := Lib.hid (gabionlaw03_same.calls ku A q u A c u true w6 (by rw [HUL.out]; exact HCU.out) (by rw [HUL.out]; exact Nat.le_refl _) (by rw [HUL.out]; exact HCU.out) (by rw [HUL.out]; omega) HKU.out)
          rw [HUL.out] at HSU
          subst hA
          clear htu
          go_wp2_with fail
          refine HSU.out.mono ?_
          rintro e w7 ⟨rfl, hd⟩
          have HB7 := Lib.hid (bl_seq_ HB6.out hd.below)
          clear hd
          go_wp2_with fail
          go_ret
          exact ⟨rfl, HB7.out⟩
end Go.Proofs.YtjjhdddiabdfhaaDoor.XNam
