import Derived.Test.YtjjhdddiabdfhaaDoorXNampNam2
import Derived.Test.YtjjhdddiabdfhaaDoorXNampFit5
import Derived.Test.YtjjhdddiabdfhaaDoorXNampUtf
import Derived.Test.YtjjhdddiabdfhaaDoorPat
import Derived.Test.YtjjhdddiabdfhaaDoorXNampJoi
/-! The plain laws of names: a name fits itself. -/
set_option linter.unusedVariables false
set_option linter.unusedSimpArgs false
namespace Go.Proofs.YtjjhdddiabdfhaaDoor.XNam
open Go.RowKit Go.Proofs.YtjjhdddiabdfhaaDoorW.PrintWords Go.Proofs.YtjjhdddiabdfhaaDoorW.PrintLast Go.Proofs.YtjjhdddiabdfhaaDoorW.PrintMore
theorem ok_ones (l : List Nat) (h : l.length ≤ 1000) : okL (l.map oneP) = true ∧ okL (manyP :: l.map oneP) = true ∧ okL (l.map oneP ++ [manyP]) = true := by
  have h1 : ∀ x ∈ l.map oneP, x.2.2.2.length ≤ 1000000 := by
    intro x hx
    obtain ⟨y, _, rfl⟩ := List.mem_map.1 hx
    simp [oneP]
  refine ⟨?_, ?_, ?_⟩
  · simp only [okL, Bool.and_eq_true, decide_eq_true_eq, List.all_eq_true]
    exact ⟨by simp; omega, h1⟩
  · simp only [okL, Bool.and_eq_true, decide_eq_true_eq, List.all_eq_true]
    refine ⟨by simp; omega, fun x hx => ?_⟩
    rcases List.mem_cons.1 hx with rfl | hx
    · simp [manyP]
    · exact h1 x hx
  · simp only [okL, Bool.and_eq_true, decide_eq_true_eq, List.all_eq_true]
    refine ⟨by simp; omega, fun x hx => ?_⟩
    rcases List.mem_append.1 hx with hx | hx
    · exact h1 x hx
    · obtain rfl := List.mem_singleton.1 hx
      simp [manyP]
theorem match_of (p s : ByteArray) (L : List Part) (b : Bool) (hp : p.size ≤ 1000000) (hs : s.size ≤ 1000000) (h0 : 0 < s.size) (hv : allF p p.size 0 = true) (hL : partsF (runes p) 1000001 0 [] = some L) (hok : okL L = true) (hf : fitsF L (runes s) 1000000 0 0 none 0 = some b) : names_Match.f p s = some (b, 0) := by
  rw [names_Match.f, if_pos ⟨hp, hs, h0, hv⟩, hL]
  simp only [hok, if_true, hf]
theorem selves_end (s t P : ByteArray) (hs : s.size ≤ 60) (ht : t.size ≤ 60) (h0 : 0 < s.size) (h1 : 0 < t.size) (hvs : allF s s.size 0 = true) (hvt : allF t t.size 0 = true) (hP : P.size ≤ 1000) (hvP : allF P P.size 0 = true) (hrP : runes P = esc (runes s)) :
    names_Match.f P s = some (true, 0) ∧ names_Match.f ((⟨#[42]⟩ : ByteArray) ++ P) (t ++ s) = some (true, 0) ∧ names_Match.f (P ++ (⟨#[42]⟩ : ByteArray)) (s ++ t) = some (true, 0) ∧ names_Match.f P (s ++ t) = some (false, 0) := by
  have hl : (runes s).length ≤ 60 := Nat.le_trans (runes_length s) hs
  have hlt : (runes t).length ≤ 60 := Nat.le_trans (runes_length t) ht
  have hnt : runes t ≠ [] := fun e => by have h_ := runes_pos h1; rw [e] at h_; exact absurd h_ (by simp)
  have hss : (⟨#[42]⟩ : ByteArray).size = 1 := rfl
  have hvst : allF (⟨#[42]⟩ : ByteArray) (⟨#[42]⟩ : ByteArray).size 0 = true := by kernel_rfl
  have hrst : runes (⟨#[42]⟩ : ByteArray) = [42] := by kernel_rfl
  obtain ⟨k1, k2, k3⟩ := ok_ones (runes s) (by omega)
  have hts : (t ++ s).size = t.size + s.size := app_size t s
  have hst : (s ++ t).size = s.size + t.size := app_size s t
  obtain ⟨l, hl0⟩ : ∃ l, runes s = l := ⟨_, rfl⟩
  obtain ⟨u, hu0⟩ : ∃ u, runes t = u := ⟨_, rfl⟩
  have hr1 : runes (t ++ s) = u ++ l := by rw [runes_app t s hvt, hl0, hu0]
  have hr2 : runes (s ++ t) = l ++ u := by rw [runes_app s t hvs, hl0, hu0]
  rw [hl0] at hl hrP k1 k2 k3
  rw [hu0] at hlt hnt
  have ps : partsF (runes P) 1000001 0 [] = some (l.map oneP) := by
    have h_ := parts_self l (1000000 - l.length)
    rw [show 1000000 - l.length + 1 + l.length = 1000001 by omega] at h_
    rw [hrP]; exact h_
  refine ⟨?_, ?_, ?_, ?_⟩
  · refine match_of P s _ _ (by omega) (by omega) h0 hvP ps k1 ?_
    have h_ := fits_self l (999999 - l.length)
    rw [show 999999 - l.length + 1 + l.length = 1000000 by omega] at h_
    rw [hl0]; exact h_
  · refine match_of ((⟨#[42]⟩ : ByteArray) ++ P) (t ++ s) (manyP :: l.map oneP) true (by rw [app_size]; omega) (by omega) (by omega) (by rw [allF_app _ P hvst]; exact hvP) ?_ k2 ?_
    · have h_ := parts_ahead l (999999 - l.length)
      rw [show 999999 - l.length + 2 + l.length = 1000001 by omega] at h_
      rw [runes_app _ P hvst, hrst, hrP]; exact h_
    · rw [hr1]
      refine fits_ahead l u hnt 1000000 ?_
      have h_ : u.length * (l.length + 2) ≤ 60 * 62 := Nat.mul_le_mul hlt (by omega)
      omega
  · refine match_of (P ++ (⟨#[42]⟩ : ByteArray)) (s ++ t) (l.map oneP ++ [manyP]) true (by rw [app_size]; omega) (by omega) (by omega) (by rw [allF_app P _ hvP]; exact hvst) ?_ k3 ?_
    · have h_ := parts_behind l (999999 - l.length)
      rw [show 999999 - l.length + 2 + l.length = 1000001 by omega] at h_
      rw [runes_app P _ hvP, hrst, hrP]; exact h_
    · have h_ := fits_behind l u (999998 - u.length - l.length)
      rw [show 999998 - u.length - l.length + 2 + u.length + l.length = 1000000 by omega] at h_
      rw [hr2]; exact h_
  · refine match_of P (s ++ t) _ _ (by omega) (by omega) (by omega) hvP ps k1 ?_
    have h_ := fits_longer l u hnt (999999 - l.length)
    rw [show 999999 - l.length + 1 + l.length = 1000000 by omega] at h_
    rw [hr2]; exact h_
theorem esc_app (l : List Nat) (x : Nat) : esc (l ++ [x]) = esc l ++ [92, x] := by
  induction l with
  | nil => rfl
  | cons y l ih => simp [esc, ih]
theorem sel_end (s t P : ByteArray) (hs : s.size ≤ 60) (ht : t.size ≤ 60) (hP : P.size ≤ 1000) (m1 : names_Match.f P s = some (true, 0)) (m2 : names_Match.f ((⟨#[42]⟩ : ByteArray) ++ P) (t ++ s) = some (true, 0)) (m3 : names_Match.f (P ++ (⟨#[42]⟩ : ByteArray)) (s ++ t) = some (true, 0)) (m4 : names_Match.f P (s ++ t) = some (false, 0)) :
    Ev (fun k => gabionlaw03_NamesSelves.l0 k s t P (s.size : Int)) true := by
  have e0 : ¬ (s.size : Int) < (s.size : Int) := by omega
  have g1 : 1 + P.size ≤ 9223372036854775807 := by omega
  have g2 : t.size + s.size ≤ 9223372036854775807 := by omega
  have g3 : P.size + 1 ≤ 9223372036854775807 := by omega
  have g4 : s.size + t.size ≤ 9223372036854775807 := by omega
  refine Ev.step (f := fun _ => some true) (fun k => ?_) (Ev.now _)
  simp only [gabionlaw03_NamesSelves.l0, e0, if_false, m1, m2, m3, m4, g1, g2, g3, g4, Option.bind_some, if_true, Bool.not_false]
theorem sel_step (k : Nat) (s t P : ByteArray) (i n wd : Int) (x : Int) (b : Bool) (hb : gabionref03_Step.f k s i = some (x, wd, b)) (hn : wrap64 (i + wd) = n) (e0 : i < (s.size : Int)) (e1 : 0 ≤ i) (e2 : i ≤ n) (e3 : n ≤ (s.size : Int)) (g1 : P.size + 1 ≤ 9223372036854775807)
    (g2 : (P ++ (⟨#[92]⟩ : ByteArray)).size + (s.extract i.toNat n.toNat).size ≤ 9223372036854775807) :
    gabionlaw03_NamesSelves.l0 (k + 1) s t P i = gabionlaw03_NamesSelves.l0 k s t ((P ++ (⟨#[92]⟩ : ByteArray)) ++ s.extract i.toNat n.toNat) n := by
  subst hn
  rw [gabionlaw03_NamesSelves.l0]
  refine (if_pos e0).trans ?_
  refine (congrArg (fun z => Option.bind z _) hb).trans ?_
  refine (if_pos g1).trans ?_
  refine (if_pos e1).trans ?_
  refine (if_pos e2).trans ?_
  refine (if_pos e3).trans ?_
  exact if_pos g2
theorem sel_cont (s t P P2 : ByteArray) (i n wd x : Int) (hst : ∀ k, ∃ b, gabionref03_Step.f (k + 9) s i = some (x, wd, b)) (hn : wrap64 (i + wd) = n) (e0 : i < (s.size : Int)) (e1 : 0 ≤ i) (e2 : i ≤ n) (e3 : n ≤ (s.size : Int)) (g1 : P.size + 1 ≤ 9223372036854775807)
    (g2 : (P ++ (⟨#[92]⟩ : ByteArray)).size + (s.extract i.toNat n.toNat).size ≤ 9223372036854775807) (hP : (P ++ (⟨#[92]⟩ : ByteArray)) ++ s.extract i.toNat n.toNat = P2) (h : Ev (fun k => gabionlaw03_NamesSelves.l0 k s t P2 n) true) :
    Ev (fun k => gabionlaw03_NamesSelves.l0 k s t P i) true := by
  obtain ⟨K, hK⟩ := h
  refine ⟨K + 11, fun k hk => ?_⟩
  obtain ⟨q, rfl⟩ : ∃ q, k = q + 9 + 1 := ⟨k - 10, by omega⟩
  obtain ⟨b, hb⟩ := hst q
  have hk2 : K ≤ q + 9 := by omega
  obtain ⟨r, hr⟩ : ∃ r, q + 9 = r := ⟨_, rfl⟩
  rw [hr] at hb hk2 ⊢
  have h1 := sel_step r s t P i n wd x b hb hn e0 e1 e2 e3 g1 g2
  rw [hP] at h1
  exact h1.trans (hK r hk2)
theorem sel_l0 (s t : ByteArray) (hs : s.size ≤ 60) (ht : t.size ≤ 60) (h0 : 0 < s.size) (h1 : 0 < t.size) (hvs : allF s s.size 0 = true) (hvt : allF t t.size 0 = true) : ∀ (m i : Nat) (P : ByteArray) (pre : List Nat), s.size ≤ i + m → i ≤ s.size → allF s m i = true → allF P P.size 0 = true → runes P = esc pre → pre ++ runesF s m i = runes s → P.size ≤ 2 * i →
    Ev (fun k => gabionlaw03_NamesSelves.l0 k s t P (i : Int)) true := by
  intro m
  induction m with
  | zero =>
    intro i P pre hm hi _ hvP hrP hpre hPs
    obtain rfl : i = s.size := by omega
    have hpre2 : pre = runes s := by simpa [runesF] using hpre
    obtain ⟨m1, m2, m3, m4⟩ := selves_end s t P hs ht h0 h1 hvs hvt (by omega) hvP (by rw [hrP, hpre2])
    exact sel_end s t P hs ht (by omega) m1 m2 m3 m4
  | succ m ih =>
    intro i P pre hm hi hv hvP hrP hpre hPs
    by_cases hlt : i < s.size
    · unfold allF at hv
      rw [if_pos hlt, Bool.and_eq_true] at hv
      have hv1 : ¬ ((Utf8.decode s i).1 = 65533 ∧ (Utf8.decode s i).2 = 1) := by have h_ := hv.1; rw [Bool.not_eq_true', decide_eq_false_iff_not] at h_; exact h_
      have hw := wd_le s i hlt
      obtain ⟨u1, u2⟩ := one_letter s i hlt hv1
      rw [runesF_succ, if_pos hlt] at hpre
      have hst := fun k => step_dec k s i hlt (by omega)
      obtain ⟨x, hx⟩ : ∃ x, (Utf8.decode s i).1 = x := ⟨_, rfl⟩
      obtain ⟨wd, hwd⟩ : ∃ wd, (Utf8.decode s i).2 = wd := ⟨_, rfl⟩
      rw [hwd] at hw u1 u2 hpre hv
      rw [hx] at u1 hpre
      have hst2 : ∀ k, ∃ b, gabionref03_Step.f (k + 9) s (i : Int) = some ((x : Int), (wd : Int), b) := fun k => ⟨_, by rw [hst k, hx, hwd]⟩
      clear hst
      have hvb : allF (⟨#[92]⟩ : ByteArray) (⟨#[92]⟩ : ByteArray).size 0 = true := by kernel_rfl
      have hrb : runes (⟨#[92]⟩ : ByteArray) = [92] := by kernel_rfl
      obtain ⟨U, hU⟩ : ∃ U, s.extract i (i + wd) = U := ⟨_, rfl⟩
      have hUs : U.size = wd := by rw [← hU, ByteArray.size_extract]; omega
      rw [hU] at u1 u2
      have hb1 : (P ++ (⟨#[92]⟩ : ByteArray)).size = P.size + 1 := app_size _ _
      have q1 : allF (P ++ (⟨#[92]⟩ : ByteArray)) (P ++ (⟨#[92]⟩ : ByteArray)).size 0 = true := by rw [allF_app P _ hvP]; exact hvb
      have q2 : allF ((P ++ (⟨#[92]⟩ : ByteArray)) ++ U) ((P ++ (⟨#[92]⟩ : ByteArray)) ++ U).size 0 = true := by rw [allF_app _ U q1]; exact u2
      have q3 : runes ((P ++ (⟨#[92]⟩ : ByteArray)) ++ U) = esc (pre ++ [x]) := by rw [runes_app _ U q1, runes_app P _ hvP, hrP, hrb, u1, esc_app]; simp
      have h_ := ih (i + wd) ((P ++ (⟨#[92]⟩ : ByteArray)) ++ U) (pre ++ [x]) (by omega) (by omega) hv.2 q2 q3 (by rw [← hpre]; simp) (by rw [app_size, hb1, hUs]; omega)
      have wlt : i + wd < 9223372036854775808 := by omega
      have hU2 : s.extract (i : Int).toNat ((i + wd : Nat) : Int).toNat = U := by rw [Int.toNat_natCast, Int.toNat_natCast]; exact hU
      have g1 : P.size + 1 ≤ 9223372036854775807 := by omega
      have g2 : (P ++ (⟨#[92]⟩ : ByteArray)).size + (s.extract (i : Int).toNat ((i + wd : Nat) : Int).toNat).size ≤ 9223372036854775807 := by
        rw [hU2, hb1, hUs]; omega
      have i0 : (i : Int) < (s.size : Int) := by omega
      have i1 : (0 : Int) ≤ (i : Int) := by omega
      have i2 : (i : Int) ≤ ((i + wd : Nat) : Int) := by omega
      have i3 : ((i + wd : Nat) : Int) ≤ (s.size : Int) := by omega
      exact sel_cont s t P ((P ++ (⟨#[92]⟩ : ByteArray)) ++ U) (i : Int) ((i + wd : Nat) : Int) (wd : Int) (x : Int) hst2 (w64_add i wd wlt) i0 i1 i2 i3 g1 g2 (by rw [hU2]) h_
    · obtain rfl : i = s.size := by omega
      rw [runesF_end s _ _ hlt] at hpre
      have h_ := ih s.size P pre (by omega) (by omega) (allF_end s _ _ hlt) hvP hrP (by rw [runesF_end s _ _ hlt]; exact hpre) hPs
      exact h_
theorem selves_pure (s t : ByteArray) : ∃ k, gabionlaw03_NamesSelves.f k s t = some true := by
  apply Ev.rounds
  have hj : Ev (fun k => gabionlaw03_NamesSelves.j0 k s t true) true := Ev.step (f := fun _ => some true) (fun k => by simp only [gabionlaw03_NamesSelves.j0, if_true, split_true, Option.bind_some]) (Ev.now _)
  by_cases h1 : 60 < s.size
  · have e : (s.size : Int) > 60 := by omega
    exact Ev.congr (f := fun k => gabionlaw03_NamesSelves.j0 k s t true) (fun k => by simp only [gabionlaw03_NamesSelves.f, split_true, Option.bind_some, if_true, e]) hj
  have e : ¬ (s.size : Int) > 60 := by omega
  by_cases h2 : 60 < t.size
  · have e2 : (t.size : Int) > 60 := by omega
    exact Ev.congr (f := fun k => gabionlaw03_NamesSelves.j0 k s t true) (fun k => by simp only [gabionlaw03_NamesSelves.f, split_true, Option.bind_some, if_true, e, e2, if_false]) hj
  have e2 : ¬ (t.size : Int) > 60 := by omega
  refine Ev.congr (f := fun k => (gabionref03_Check.f k s).bind fun t165 => if t165 = 0 then ((gabionref03_Check.f k t).bind fun t166 => gabionlaw03_NamesSelves.j0 k s t (t166 != 0)) else gabionlaw03_NamesSelves.j0 k s t true) (fun k => by simp only [gabionlaw03_NamesSelves.f, split_true, Option.bind_some, if_true, e, e2, if_false]) ?_
  refine Ev.bind (check_eq s (by omega)) ?_
  by_cases c1 : chkS s = 0
  · refine Ev.congr (f := fun k => (gabionref03_Check.f k t).bind fun t166 => gabionlaw03_NamesSelves.j0 k s t (t166 != 0)) (fun k => by rw [if_pos c1]) ?_
    refine Ev.bind (check_eq t (by omega)) ?_
    by_cases c2 : chkS t = 0
    · refine Ev.congr (f := fun k => gabionlaw03_NamesSelves.j0 k s t false) (fun k => by rw [c2]; rfl) ?_
      refine Ev.step (f := fun k => gabionlaw03_NamesSelves.l0 k s t (⟨#[]⟩ : ByteArray) 0) (fun k => by simp only [gabionlaw03_NamesSelves.j0, Bool.false_eq_true, if_false]) ?_
      obtain ⟨-, -, -, -, p1, v1⟩ := name_ok s c1
      obtain ⟨-, -, -, -, p2, v2⟩ := name_ok t c2
      exact sel_l0 s t (by omega) (by omega) p1 p2 v1 v2 s.size 0 (⟨#[]⟩ : ByteArray) [] (by omega) (by omega) v1 rfl rfl (by rw [List.nil_append]; rfl) (by decide)
    · refine Ev.congr (f := fun k => gabionlaw03_NamesSelves.j0 k s t true) (fun k => ?_) hj
      have : (chkS t != 0) = true := by simpa using c2
      rw [this]
  · exact Ev.congr (f := fun k => gabionlaw03_NamesSelves.j0 k s t true) (fun k => by rw [if_neg c1]) hj
end Go.Proofs.YtjjhdddiabdfhaaDoor.XNam
