import Derived.Test.YthmhbnpaalgdfaaCtexts
/-! The law CursorEnds: what is taken; its closure. -/
set_option linter.unusedVariables false
set_option linter.unusedSimpArgs false
namespace Go.Proofs.Ythmhbnpaalgdfaa
open Go.RowKit Go.Proofs.YthmhbnpaalgdfaaW.PrintWords
/-- How many bytes an item takes. -/
def szE (v : Int) (o : Option Int) (b : List Int) (k : Nat) : Int :=
  if v = 1 then 1 else if v = 2 then 2 else if v = 4 then 4 else if v = 8 then 8 else if v = 3 then o.getD 0 else if v = 5 then (if k < b.length then 1 + b.getD k 0 else 1) else 0
/-- Where the reading stands behind some items; none: it has ended. -/
def runE (b ks ns : List Int) : Nat → Option Nat
  | 0 => some 0
  | i + 1 => match runE b ks ns i with
    | none => none
    | some k => if 0 ≤ szE (ks.getD i 0) ns[i]? b k ∧ szE (ks.getD i 0) ns[i]? b k ≤ (b.length : Int) - k then some (k + (szE (ks.getD i 0) ns[i]? b k).toNat) else none
theorem runE_le (b ks ns : List Int) (i k : Nat) (h : runE b ks ns i = some k) : k ≤ b.length := by
  induction i generalizing k with
  | zero => simp [runE] at h; omega
  | succ i ih =>
    simp only [runE] at h
    split at h
    · cases h
    · rename_i k' hk'
      have := ih k' hk'
      split at h
      · injection h with h; omega
      · cases h
theorem runE_yes {b ks ns : List Int} {i k : Nat} {v n : Int} (h : runE b ks ns i = some k) (hv : ks.getD i 0 = v) (hn : szE v ns[i]? b k = n) (h0 : 0 ≤ n) (h1 : n ≤ (b.length : Int) - k) : runE b ks ns (i + 1) = some (k + n.toNat) := by
  simp only [runE, h, hv, hn]
  rw [if_pos ⟨h0, h1⟩]
theorem runE_no {b ks ns : List Int} {i k : Nat} {v n : Int} (h : runE b ks ns i = some k) (hv : ks.getD i 0 = v) (hn : szE v ns[i]? b k = n) (h1 : ¬ (0 ≤ n ∧ n ≤ (b.length : Int) - k)) : runE b ks ns (i + 1) = none := by
  simp only [runE, h, hv, hn]
  rw [if_neg h1]
theorem runE_none {b ks ns : List Int} {i : Nat} (h : runE b ks ns i = none) (j : Nat) (hj : i ≤ j) : runE b ks ns j = none := by
  induction j with
  | zero => rw [show (0 : Nat) = i by omega]; exact h
  | succ j ih =>
    by_cases e : i = j + 1
    · rw [← e]; exact h
    · simp only [runE, ih (by omega)]
section
variable {b ks ns : List Int} {w wr w' : World} {p qk qn qd ql qz : Nat} {A Ak An : Option Addr} {m c nk ck nn cn : Nat}
/-- What came in stands apart from what the closure turns. -/
structure EIn (b ks ns : List Int) (w : World) (p qk qn qd ql qz : Nat) (A Ak An : Option Addr) (m c nk ck nn cn : Nat) : Prop where
  hb : ReadsInt w .u8 A m b
  hy : Byt b
  hc : m ≤ c
  hm : m ≤ 1000000
  hk : ReadsInt w .i64 Ak nk ks
  hn : ReadsInt w .i64 An nn ns
  bk : w.heap[qk]? = some (.cells #[.slice Ak nk ck] 61 (0, 0))
  bn : w.heap[qn]? = some (.cells #[.slice An nn cn] 61 (0, 0))
  far : ∀ g, (g = qk ∨ g = qn ∨ (∃ a, A = some a ∧ a.block = g) ∨ (∃ a, Ak = some a ∧ a.block = g) ∨ (∃ a, An = some a ∧ a.block = g)) → g ≠ p ∧ g ≠ qd ∧ g ≠ ql ∧ g ≠ qz
  ne : p ≠ qd ∧ p ≠ ql ∧ p ≠ qz ∧ qd ≠ ql ∧ qd ≠ qz ∧ ql ≠ qz
  ri : ∀ x ∈ ns, -9223372036854775808 ≤ x ∧ x ≤ 9223372036854775807
def setE (p qd ql qz : Nat) : Nat → Prop := fun i => i = p ∨ i = qd ∨ i = ql ∨ i = qz
/-- Where the closure stands. -/
structure EG (w : World) (p qd ql qz : Nat) (A : Option Addr) (m c : Nat) (k : Nat) (i : Nat) (wr : World) : Prop where
  rd : RdV wr p A m c (k : Int)
  mods : Mods (setE p qd ql qz) w wr
  bd : wr.heap[qd]? = some (.cells #[.int .i64 (i : Int)] 3 (0, 0))
  bl : wr.heap[ql]? = some (.cells #[.int .i64 (-1)] 3 (0, 0))
  bz : wr.heap[qz]? = some (.cells #[.bool false] 4 (0, 0))
theorem EG.step {k k' i : Nat} (h : EG w p qd ql qz A m c k i wr) (hi : EIn b ks ns w p qk qn qd ql qz A Ak An m c nk ck nn cn) (h1 : RdV w' p A m c (k' : Int)) (h2 : Mods (fun i => i = p) wr w') : EG w p qd ql qz A m c k' i w' :=
  ⟨h1, h.mods.trans (h2.mono (fun i e => .inl e)), h2.blk h.bd (Ne.symm hi.ne.1), h2.blk h.bl (Ne.symm hi.ne.2.1), h2.blk h.bz (Ne.symm hi.ne.2.2.1)⟩
theorem EG.drewN {k i : Nat} (h : EG w p qd ql qz A m c k i wr) (q : Nat) : EG w p qd ql qz A m c k i (wr.drewN q) :=
  ⟨h.rd, h.mods.drewN q, h.bd, h.bl, h.bz⟩
theorem EG.below {k i : Nat} (h : EG w p qd ql qz A m c k i wr) (hb : Below wr.heap.size wr w') : EG w p qd ql qz A m c k i w' :=
  ⟨blk_below h.rd hb, h.mods.trans (Mods.of_below hb), blk_below h.bd hb, blk_below h.bl hb, blk_below h.bz hb⟩
theorem EG.done {k i : Nat} (h : EG w p qd ql qz A m c k i wr) (hi : EIn b ks ns w p qk qn qd ql qz A Ak An m c nk ck nn cn) : EG w p qd ql qz A m c k (i + 1) (wr.setCell ⟨qd, 0, none⟩ (.int .i64 ((i : Int) + 1))) :=
  ⟨blk_far h.rd (p := ⟨qd, 0, none⟩) hi.ne.1 _, h.mods.at_ (.inl (.inr (.inl rfl))) 0 _, blk_put h.bd 0 _ (by simp), blk_far h.bl (p := ⟨qd, 0, none⟩) (Ne.symm hi.ne.2.2.2.1) _, blk_far h.bz (p := ⟨qd, 0, none⟩) (Ne.symm hi.ne.2.2.2.2.1) _⟩
theorem EIn.off (hi : EIn b ks ns w p qk qn qd ql qz A Ak An m c nk ck nn cn) (hm : Mods (setE p qd ql qz) w wr) : ReadsInt wr .u8 A m b ∧ ReadsInt wr .i64 Ak nk ks ∧ ReadsInt wr .i64 An nn ns ∧ wr.heap[qk]? = some (.cells #[.slice Ak nk ck] 61 (0, 0)) ∧ wr.heap[qn]? = some (.cells #[.slice An nn cn] 61 (0, 0)) := by
  have nf : ∀ g, (g ≠ p ∧ g ≠ qd ∧ g ≠ ql ∧ g ≠ qz) → ¬ setE p qd ql qz g := by
    rintro g ⟨h1, h2, h3, h4⟩ (e | e | e | e)
    · exact h1 e
    · exact h2 e
    · exact h3 e
    · exact h4 e
  exact ⟨hm.reads hi.hb (fun a ha => nf _ (hi.far _ (.inr (.inr (.inl ⟨a, ha, rfl⟩))))), hm.reads hi.hk (fun a ha => nf _ (hi.far _ (.inr (.inr (.inr (.inl ⟨a, ha, rfl⟩)))))), hm.reads hi.hn (fun a ha => nf _ (hi.far _ (.inr (.inr (.inr (.inr ⟨a, ha, rfl⟩)))))),
    hm.blk hi.bk (nf _ (hi.far _ (.inl rfl))), hm.blk hi.bn (nf _ (hi.far _ (.inr (.inl rfl))))⟩
theorem EIn.rdne (hi : EIn b ks ns w p qk qn qd ql qz A Ak An m c nk ck nn cn) : ∀ a, A = some a → a.block ≠ p := fun a ha => (hi.far _ (.inr (.inr (.inl ⟨a, ha, rfl⟩)))).1
end
/-- What the closure leaves. -/
def EndP (b ks ns : List Int) (w : World) (p qd ql qz : Nat) (e : Ending) (w' : World) : Prop :=
  Mods (setE p qd ql qz) w w' ∧ ((e = .returned (.tuple #[]) ∧ ∃ k : Nat, runE b ks ns ks.length = some k ∧ w'.heap[qd]? = some (.cells #[.int .i64 (ks.length : Int)] 3 (0, 0)) ∧ w'.heap[ql]? = some (.cells #[.int .i64 ((b.length : Int) - k)] 3 (0, 0)) ∧ w'.heap[qz]? = some (.cells #[.bool ((b.drop k).all (· == 0))] 4 (0, 0))) ∨
    ((∃ q, e = .panicked (shortP q)) ∧ runE b ks ns ks.length = none ∧ ∃ i : Nat, i < ks.length ∧ w'.heap[qd]? = some (.cells #[.int .i64 (i : Int)] 3 (0, 0)) ∧ w'.heap[ql]? = some (.cells #[.int .i64 (-1)] 3 (0, 0))))
theorem EG.stop {b ks ns : List Int} {w wr w' : World} {p qd ql qz : Nat} {A : Option Addr} {m c k i : Nat} {q : Int} (h : EG w p qd ql qz A m c k i wr) (n1 : p ≠ qd) (n2 : p ≠ ql) (hi : i < ks.length) (hr : runE b ks ns (i + 1) = none) (h2 : Mods (fun i => i = p) wr w') : EndP b ks ns w p qd ql qz (.panicked (shortP q)) w' :=
  ⟨h.mods.trans (h2.mono (fun i e => .inl e)), .inr ⟨⟨q, rfl⟩, runE_none hr _ hi, i, hi, h2.blk h.bd (Ne.symm n1), h2.blk h.bl (Ne.symm n2)⟩⟩
set_option maxHeartbeats 8000000 in
set_option maxRecDepth 100000 in
theorem ends1_any (b ks ns : List Int) (w : World) (p qk qn qd ql qz : Nat) (A Ak An : Option Addr) (m c nk ck nn cn : Nat) (hi : EIn b ks ns w p qk qn qd ql qz A Ak An m c nk ck nn cn) (hg : EG w p qd ql qz A m c 0 0 w) :
    Calls Try.prog 31 #[.pointer (some ⟨p, 0, none⟩), .pointer (some ⟨qk, 0, none⟩), .pointer (some ⟨qn, 0, none⟩), .pointer (some ⟨qd, 0, none⟩), .pointer (some ⟨ql, 0, none⟩), .pointer (some ⟨qz, 0, none⟩)] w (EndP b ks ns w p qd ql qz) := by
  have HI := Lib.hid hi
  have hm := hi.hm
  have hc := hi.hc
  have hbl : m = b.length := hi.hb.1.symm
  have HBL := Lib.hid hbl
  have hnk := hi.hk.2.1
  have hnn := hi.hn.2.1
  have HKL := Lib.hid hi.hk.1
  have HNL := Lib.hid hi.hn.1
  have GS := Lib.hid hg
  clear hi hg hbl
  go_enter Try.func31, Try.ntmps31
  go_wp2
  go_loopw [7] (fun a wr => ∃ (i k : Nat), i ≤ nk ∧ k ≤ m ∧ a = .int .i64 (i : Int) ∧ Hid (runE b ks ns i = some k) ∧ Hid (EG w p qd ql qz A m c k i wr)) (fun a _ => nk - (intOf a).toNat)
  case atStart => exact ⟨0, 0, Nat.zero_le _, Nat.zero_le _, rfl, rfl, GS⟩
  case round =>
    clear GS
    obtain ⟨i, k, hik, hkm, rfl, HR, G⟩ := hrel
    have OF := Lib.hid (HI.out.off G.out.mods)
    have zk : wr.cell? ⟨qk, 0, none⟩ = some (.slice Ak nk ck) := (blk_cell OF.out.2.2.2.1 0).trans rfl
    have zn : wr.cell? ⟨qn, 0, none⟩ = some (.slice An nn cn) := (blk_cell OF.out.2.2.2.2 0).trans rfl
    by_cases hlt : i < nk
    · obtain ⟨ad, he, hcl⟩ := OF.out.2.1.at_ (i : Int) (by omega) (by omega)
      rw [Int.toNat_natCast, rd_getD] at hcl
      obtain ⟨v, hv⟩ : ∃ v, ks.getD i 0 = v := ⟨_, rfl⟩
      rw [hv] at hcl
      have HV := Lib.hid hv
      obtain rfl := he
      have hks : i < ks.length := by have := HKL.out; omega
      clear hv
      by_cases hv : v = 1
      · obtain rfl : v = 1 := hv
        go_wp2_with fail
        by_cases cn_ : m < k + 1
        · refine (mU8_no p A m c k wr G.out.rd hkm (by omega) (by omega)).mono ?_
          rintro e w1 ⟨rfl, h1⟩
          exact ⟨rfl, G.out.stop HI.out.ne.1 HI.out.ne.2.1 hks (runE_no (n := 1) HR.out HV.out (by simp [szE]) (by have := HBL.out; omega)) h1⟩
        · refine (mU8_yes p A m c k b wr G.out.rd OF.out.1 HI.out.hy hc (by omega) HI.out.rdne).mono ?_
          rintro e w1 ⟨rfl, h1, h2⟩
          have G1 := Lib.hid (G.out.step HI.out h1 h2)
          have HR1 : Hid (runE b ks ns (i + 1) = some (k + 1)) := Lib.hid (runE_yes (n := 1) HR.out HV.out (by simp [szE]) (by omega) (by have := HBL.out; omega))
          clear h1 h2 zk zn hcl
          have zd : w1.cell? ⟨qd, 0, none⟩ = some (.int .i64 (i : Int)) := (blk_cell G1.out.bd 0).trans rfl
          have fd := blk_frozen G1.out.bd 0
          go_wp2_with fail
          go_roundw
          case rel => exact ⟨i + 1, k + 1, by omega, by omega, by go_num, Lib.hid HR1.out, Lib.hid (G1.out.done HI.out)⟩
          case measure => simp [intOf]; omega
      have nv1 : (v == 1) = false := by simpa using hv
      have mv1 := Lib.hid hv
      clear hv
      by_cases hv : v = 2
      · obtain rfl : v = 2 := hv
        go_wp2_with fail
        by_cases cn_ : m < k + 2
        · refine (mU16_no p A m c k wr G.out.rd hkm (by omega) (by omega)).mono ?_
          rintro e w1 ⟨rfl, h1⟩
          exact ⟨rfl, G.out.stop HI.out.ne.1 HI.out.ne.2.1 hks (runE_no (n := 2) HR.out HV.out (by simp [szE]) (by have := HBL.out; omega)) h1⟩
        · refine (mU16_yes p A m c k b wr G.out.rd OF.out.1 HI.out.hy hc (by omega) HI.out.rdne).mono ?_
          rintro e w1 ⟨rfl, h1, h2⟩
          have G1 := Lib.hid (G.out.step HI.out h1 h2)
          have HR1 : Hid (runE b ks ns (i + 1) = some (k + 2)) := Lib.hid (runE_yes (n := 2) HR.out HV.out (by simp [szE]) (by omega) (by have := HBL.out; omega))
          clear h1 h2 zk zn hcl
          have zd : w1.cell? ⟨qd, 0, none⟩ = some (.int .i64 (i : Int)) := (blk_cell G1.out.bd 0).trans rfl
          have fd := blk_frozen G1.out.bd 0
          go_wp2_with fail
          go_roundw
          case rel => exact ⟨i + 1, k + 2, by omega, by omega, by go_num, Lib.hid HR1.out, Lib.hid (G1.out.done HI.out)⟩
          case measure => simp [intOf]; omega
      have nv2 : (v == 2) = false := by simpa using hv
      have mv2 := Lib.hid hv
      clear hv
      by_cases hv : v = 3
      · obtain rfl : v = 3 := hv
        by_cases hn_ : i < nn
        · obtain ⟨an, hen, hcn⟩ := OF.out.2.2.1.at_ (i : Int) (by omega) (by omega)
          rw [Int.toNat_natCast, rd_getD] at hcn
          have hin : i < ns.length := by have := HNL.out; omega
          have hgn : ns[i]? = some (ns.getD i 0) := by rw [List.getD_eq_getElem?_getD, List.getElem?_eq_getElem hin]; rfl
          have hri := HI.out.ri (ns.getD i 0) (by rw [List.getD_eq_getElem?_getD, List.getElem?_eq_getElem hin]; exact List.getElem_mem hin)
          obtain ⟨nv, hnv⟩ : ∃ nv, ns.getD i 0 = nv := ⟨_, rfl⟩
          rw [hnv] at hcn hgn hri
          have HGN := Lib.hid hgn
          obtain rfl := hen
          clear hnv hgn
          go_wp2_with fail
          by_cases cn_ : 0 ≤ nv ∧ nv ≤ (m : Int) - k
          · obtain ⟨q, hq⟩ := Int.eq_ofNat_of_zero_le cn_.1
            rw [hq]
            refine (mRaw_yes p A m c k q b wr G.out.rd OF.out.1 hc (by omega) (by omega) HI.out.rdne).mono ?_
            rintro e w1 ⟨v1, rfl, _, h1, h2⟩
            have G1 := Lib.hid (G.out.step HI.out h1 h2)
            have HR1 : Hid (runE b ks ns (i + 1) = some (k + q)) := Lib.hid (by have h_ := runE_yes (n := nv) HR.out HV.out (by rw [HGN.out]; simp [szE]) (by omega) (by have := HBL.out; omega); rwa [hq, Int.toNat_natCast] at h_)
            have hkq : k + q ≤ m := by omega
            clear h1 h2 zk zn hcl hq cn_
            have zd : w1.cell? ⟨qd, 0, none⟩ = some (.int .i64 (i : Int)) := (blk_cell G1.out.bd 0).trans rfl
            have fd := blk_frozen G1.out.bd 0
            go_wp2_with fail
            go_roundw
            case rel => exact ⟨i + 1, k + q, by omega, by omega, by go_num, Lib.hid HR1.out, Lib.hid (G1.out.done HI.out)⟩
            case measure => simp [intOf]; omega
          · refine (mRaw_no p A m c k nv wr G.out.rd hkm (by omega) (by omega)).mono ?_
            rintro e w1 ⟨rfl, h1⟩
            exact ⟨rfl, G.out.stop HI.out.ne.1 HI.out.ne.2.1 hks (runE_no (n := nv) HR.out HV.out (by rw [HGN.out]; simp [szE]) (by have := HBL.out; omega)) h1⟩
        · have hgn : ns[i]? = none := List.getElem?_eq_none (by have := HNL.out; omega)
          have HGN := Lib.hid hgn
          clear hgn
          go_wp2_with fail
          refine (mRaw_yes p A m c k 0 b wr G.out.rd OF.out.1 hc (by omega) (by omega) HI.out.rdne).mono ?_
          rintro e w1 ⟨v1, rfl, _, h1, h2⟩
          have G1 := Lib.hid (G.out.step HI.out h1 h2)
          have HR1 : Hid (runE b ks ns (i + 1) = some (k + 0)) := Lib.hid (by have h_ := runE_yes (n := 0) HR.out HV.out (by rw [HGN.out]; simp [szE]) (by omega) (by have := HBL.out; omega); exact h_)
          clear h1 h2 zk zn hcl
          have zd : w1.cell? ⟨qd, 0, none⟩ = some (.int .i64 (i : Int)) := (blk_cell G1.out.bd 0).trans rfl
          have fd := blk_frozen G1.out.bd 0
          go_wp2_with fail
          go_roundw
          case rel => exact ⟨i + 1, k + 0, by omega, by omega, by go_num, Lib.hid HR1.out, Lib.hid (G1.out.done HI.out)⟩
          case measure => simp [intOf]; omega
      have nv3 : (v == 3) = false := by simpa using hv
      have mv3 := Lib.hid hv
      clear hv
      by_cases hv : v = 4
      · obtain rfl : v = 4 := hv
        go_wp2_with fail
        by_cases cn_ : m < k + 4
        · refine (mU32_no p A m c k wr G.out.rd hkm (by omega) (by omega)).mono ?_
          rintro e w1 ⟨rfl, h1⟩
          exact ⟨rfl, G.out.stop HI.out.ne.1 HI.out.ne.2.1 hks (runE_no (n := 4) HR.out HV.out (by simp [szE]) (by have := HBL.out; omega)) h1⟩
        · refine (mU32_yes p A m c k b wr G.out.rd OF.out.1 HI.out.hy hc (by omega) HI.out.rdne).mono ?_
          rintro e w1 ⟨rfl, h1, h2⟩
          have G1 := Lib.hid (G.out.step HI.out h1 h2)
          have HR1 : Hid (runE b ks ns (i + 1) = some (k + 4)) := Lib.hid (runE_yes (n := 4) HR.out HV.out (by simp [szE]) (by omega) (by have := HBL.out; omega))
          clear h1 h2 zk zn hcl
          have zd : w1.cell? ⟨qd, 0, none⟩ = some (.int .i64 (i : Int)) := (blk_cell G1.out.bd 0).trans rfl
          have fd := blk_frozen G1.out.bd 0
          go_wp2_with fail
          go_roundw
          case rel => exact ⟨i + 1, k + 4, by omega, by omega, by go_num, Lib.hid HR1.out, Lib.hid (G1.out.done HI.out)⟩
          case measure => simp [intOf]; omega
      have nv4 : (v == 4) = false := by simpa using hv
      have mv4 := Lib.hid hv
      clear hv
      by_cases hv : v = 5
      · obtain rfl : v = 5 := hv
        go_wp2_with fail
        by_cases c1 : m < k + 1
        · refine (mText_no1 p A m c k wr G.out.rd hkm (by omega) c1).mono ?_
          rintro e w1 ⟨rfl, h1⟩
          exact ⟨rfl, G.out.stop HI.out.ne.1 HI.out.ne.2.1 hks (runE_no (n := 1) HR.out HV.out (by have := HBL.out; simp [szE]; omega) (by have := HBL.out; omega)) h1⟩
        · have hkl : k < b.length := by have := HBL.out; omega
          have hbk := HI.out.hy (b.getD k 0) (by rw [List.getD_eq_getElem?_getD, List.getElem?_eq_getElem hkl]; exact List.getElem_mem hkl)
          obtain ⟨q, hq⟩ := Int.eq_ofNat_of_zero_le hbk.1
          have hnum : num ((b.drop k).take 1) = (q : Int) := by rw [← hq, List.getD_eq_getElem?_getD, List.getElem?_eq_getElem hkl, List.drop_eq_getElem_cons hkl]; simp only [List.take_succ_cons, List.take_zero, num, Option.getD_some]; omega
          have hsz : szE 5 ns[i]? b k = 1 + (q : Int) := by rw [← hq]; simp only [szE]; rw [if_pos hkl]; rfl
          by_cases c2 : m < k + 1 + q
          · refine (mText_no2 p A m c k q b wr G.out.rd OF.out.1 HI.out.hy hc hnum (by omega) c2 HI.out.rdne).mono ?_
            rintro e w1 ⟨rfl, h1⟩
            exact ⟨rfl, G.out.stop HI.out.ne.1 HI.out.ne.2.1 hks (runE_no HR.out HV.out hsz (by have := HBL.out; omega)) h1⟩
          · refine (mText_yes p A m c k q b wr G.out.rd OF.out.1 HI.out.hy hc hnum (by omega) HI.out.rdne).mono ?_
            rintro e w1 ⟨rfl, h1, h2⟩
            have G1 := Lib.hid (G.out.step HI.out h1 h2)
            have HR1 : Hid (runE b ks ns (i + 1) = some (k + 1 + q)) := Lib.hid (by have h_ := runE_yes HR.out HV.out hsz (by omega) (by have := HBL.out; omega); rwa [show (1 + (q : Int)).toNat = 1 + q by omega, ← Nat.add_assoc] at h_)
            clear h1 h2 zk zn hcl hq hnum hsz hbk
            have zd : w1.cell? ⟨qd, 0, none⟩ = some (.int .i64 (i : Int)) := (blk_cell G1.out.bd 0).trans rfl
            have fd := blk_frozen G1.out.bd 0
            go_wp2_with fail
            go_roundw
            case rel => exact ⟨i + 1, k + 1 + q, by omega, by omega, by go_num, Lib.hid HR1.out, Lib.hid (G1.out.done HI.out)⟩
            case measure => simp [intOf]; omega
      have nv5 : (v == 5) = false := by simpa using hv
      have mv5 := Lib.hid hv
      clear hv
      by_cases hv : v = 8
      · obtain rfl : v = 8 := hv
        go_wp2_with fail
        by_cases cn_ : m < k + 8
        · refine (mU64_no p A m c k wr G.out.rd hkm (by omega) (by omega)).mono ?_
          rintro e w1 ⟨rfl, h1⟩
          exact ⟨rfl, G.out.stop HI.out.ne.1 HI.out.ne.2.1 hks (runE_no (n := 8) HR.out HV.out (by simp [szE]) (by have := HBL.out; omega)) h1⟩
        · refine (mU64_yes p A m c k b wr G.out.rd OF.out.1 HI.out.hy hc (by omega) HI.out.rdne).mono ?_
          rintro e w1 ⟨rfl, h1, h2⟩
          have G1 := Lib.hid (G.out.step HI.out h1 h2)
          have HR1 : Hid (runE b ks ns (i + 1) = some (k + 8)) := Lib.hid (runE_yes (n := 8) HR.out HV.out (by simp [szE]) (by omega) (by have := HBL.out; omega))
          clear h1 h2 zk zn hcl
          have zd : w1.cell? ⟨qd, 0, none⟩ = some (.int .i64 (i : Int)) := (blk_cell G1.out.bd 0).trans rfl
          have fd := blk_frozen G1.out.bd 0
          go_wp2_with fail
          go_roundw
          case rel => exact ⟨i + 1, k + 8, by omega, by omega, by go_num, Lib.hid HR1.out, Lib.hid (G1.out.done HI.out)⟩
          case measure => simp [intOf]; omega
      have nv8 : (v == 8) = false := by simpa using hv
      have mv8 := Lib.hid hv
      clear hv
      have hs0 : szE v ns[i]? b k = 0 := by simp only [szE]; rw [if_neg mv1.out, if_neg mv2.out, if_neg mv4.out, if_neg mv8.out, if_neg mv3.out, if_neg mv5.out]
      have HR1 : Hid (runE b ks ns (i + 1) = some (k + 0)) := Lib.hid (by have h_ := runE_yes (n := 0) HR.out HV.out hs0 (by omega) (by have := HBL.out; omega); exact h_)
      have zd : wr.cell? ⟨qd, 0, none⟩ = some (.int .i64 (i : Int)) := (blk_cell G.out.bd 0).trans rfl
      have fd := blk_frozen G.out.bd 0
      clear hs0
      go_wp2_with fail
      go_roundw
      case rel => exact ⟨i + 1, k + 0, by omega, by omega, by go_num, HR1, Lib.hid (G.out.done HI.out)⟩
      case measure => simp [intOf]; omega
    · obtain rfl : i = nk := by omega
      go_wp2_with fail
      refine (mLeft p A m c k wr G.out.rd hkm (by omega)).mono ?_
      rintro e w1 ⟨rfl, q, rfl⟩
      have G1 := Lib.hid (G.out.drewN q)
      go_wp2_with fail
      refine (mZero p A m c k b _ G1.out.rd (HI.out.off G1.out.mods).1 hc hkm).mono ?_
      rintro e w2 ⟨rfl, hd⟩
      have G2 := Lib.hid (G1.out.below hd.below)
      have z1 : w2.cell? ⟨ql, 0, none⟩ = some (.int .i64 (-1)) := (blk_cell G2.out.bl 0).trans rfl
      have f1 := blk_frozen G2.out.bl 0
      have z2 : w2.cell? ⟨qz, 0, none⟩ = some (.bool false) := (blk_cell G2.out.bz 0).trans rfl
      have f2 := blk_frozen G2.out.bz 0
      obtain ⟨n1, n2, n3, n4, n5, n6⟩ := HI.out.ne
      have n7 : ¬ qz = ql := Ne.symm n6
      have n8 : ¬ ql = qz := n6
      clear hd zk zn OF
      go_wp2_with fail
      go_end0
      have e1 := blk_put G2.out.bl 0 (.int .i64 ((m : Int) - k)) (cs' := #[.int .i64 ((m : Int) - k)]) (by simp)
      have e2 := blk_far e1 (p := ⟨qz, 0, none⟩) n6 (.bool ((b.drop k).all (· == 0)))
      have e3 := blk_put (blk_far G2.out.bz (p := ⟨ql, 0, none⟩) (Ne.symm n6) (.int .i64 ((m : Int) - k))) 0 (.bool ((b.drop k).all (· == 0))) (cs' := #[.bool ((b.drop k).all (· == 0))]) (by simp)
      have e4 := blk_far (blk_far G2.out.bd (p := ⟨ql, 0, none⟩) n4 (.int .i64 ((m : Int) - k))) (p := ⟨qz, 0, none⟩) n5 (.bool ((b.drop k).all (· == 0)))
      refine ⟨(G2.out.mods.at_ (.inl (.inr (.inr (.inl rfl)))) 0 _).at_ (.inl (.inr (.inr (.inr rfl)))) 0 _, .inl ⟨rfl, k, by rw [HKL.out]; exact HR.out, ?_, ?_, e3⟩⟩
      · rw [HKL.out]; exact e4
      · rw [← HBL.out]; exact e2
end Go.Proofs.Ythmhbnpaalgdfaa
