-- Printed by a program of this session (xprint.py) over the kit's print, with contracts of its own. Not trusted: Lean checks it.
import Derived.Test.YtjjhdddiabdfhaaDoorXNam0
import Derived.Test.YtjjhdddiabdfhaaDoorXNam1
namespace Go.Proofs.YtjjhdddiabdfhaaDoor.XNam
open Go.RowKit Go.Proofs.YtjjhdddiabdfhaaDoorW.PrintWords Go.Proofs.YtjjhdddiabdfhaaDoorW.PrintLast Go.Proofs.YtjjhdddiabdfhaaDoorW.PrintMore
attribute [local go_sem] max2_int min2_int max_two min_two max_three min_three max_four min_four   -- for this text's walks alone
set_option linter.unusedVariables false
set_option linter.unusedSimpArgs false

/-! ### names_Split: function 15 (of this session's own) -/
def names_Split.f (a0 : ByteArray) : Option (List ByteArray × Int) := some (splitS a0)
def SplS (W1 wr : World) (s : ByteArray) (j : Nat) (v : Value) (out : List ByteArray) (r : List ByteArray × Int) : Prop :=
  Kd.string.R 9 wr W1.heap.size (fun _ => True) v out ∧ Below W1.heap.size W1 wr ∧ walkS ((pieces s).drop j) out = r
set_option maxHeartbeats 8000000 in
set_option maxRecDepth 100000 in
theorem names_Split.calls (a0 : ByteArray) (r1 : List ByteArray) (r2 : Int) (w : World) (h : names_Split.f a0 = some (r1, r2)) (hgt : GT w) :
    Calls Tryd.prog 15 #[.string a0] w fun e w' => ∃ v0_ : Value, e = .returned (.tuple #[v0_, .int .i64 r2]) ∧ Kd.R Kd.string 9 w' w.heap.size (fun _ => True) v0_ r1 ∧ Below w.heap.size w w' := by
  have hR : splitS a0 = (r1, r2) := Option.some.inj h
  clear h
  by_cases e1 : a0.toList = []
  · have b1 : (a0.toList == ([] : List UInt8)) = true := by simp [e1]
    rw [splitS, if_pos e1] at hR
    obtain ⟨rfl, rfl⟩ : ([] : List ByteArray) = r1 ∧ (22 : Int) = r2 := by simpa using hR
    clear e1 hR
    go_enter Tryd.func15, Tryd.ntmps15
    go_wp2
    go_ret2
    exact ⟨_, rfl, Kd.R_nil _ _ _ _ _, Below.refl _ _⟩
  have b1 : (a0.toList == ([] : List UInt8)) = false := by simp [e1]
  have hpos : 0 < a0.size := by
    rcases Nat.eq_zero_or_pos a0.size with h0 | h0
    · exfalso; apply e1
      have : a0.toList.length = 0 := by rw [ByteArray.toList_eq]; exact h0
      exact List.eq_nil_of_length_eq_zero this
    · exact h0
  rw [splitS, if_neg e1] at hR
  have hbt : bt a0 0 = ((a0[0]'hpos).toNat : Int) := by simp [bt, hpos]
  by_cases e2 : bt a0 0 ≠ 47
  · rw [if_pos e2] at hR
    obtain ⟨rfl, rfl⟩ : ([] : List ByteArray) = r1 ∧ (22 : Int) = r2 := by simpa using hR
    rw [hbt] at e2
    have b2 : (((a0[0]'hpos).toNat : Int) != 47) = true := by simpa using e2
    clear e1 hR e2 hbt
    go_enter Tryd.func15, Tryd.ntmps15
    go_wp2
    go_ret2
    exact ⟨_, rfl, Kd.R_nil _ _ _ _ _, Below.refl _ _⟩
  rw [if_neg e2] at hR
  rw [hbt] at e2
  have b2 : (((a0[0]'hpos).toNat : Int) != 47) = false := by simpa using e2
  by_cases e3 : 200 < a0.size
  · rw [if_pos e3] at hR
    obtain ⟨rfl, rfl⟩ : ([] : List ByteArray) = r1 ∧ (36 : Int) = r2 := by simpa using hR
    have e3I : (200 : Int) < (a0.size : Int) := by omega
    clear e1 hR e2 hbt e3
    go_enter Tryd.func15, Tryd.ntmps15
    go_wp2
    go_ret2
    exact ⟨_, rfl, Kd.R_nil _ _ _ _ _, Below.refl _ _⟩
  rw [if_neg e3] at hR
  have e3I : (a0.size : Int) ≤ 200 := by omega
  have HR := Lib.hid hR
  have HG := Lib.hid hgt
  have hpl := pieces_le a0
  clear e1 hR e2 hbt e3 hgt
  go_enter Tryd.func15, Tryd.ntmps15
  go_wp2_with fail
  refine (LSplit_any a0 w (by omega) HG.out).mono ?_
  rintro e w1 ⟨rfl, hw1⟩
  obtain ⟨g, hg⟩ : ∃ g, w.heap.size = g := ⟨_, rfl⟩
  have HPC : Hid (∀ j x, (pieces a0)[j]? = some x → w1.cell? ⟨g, j, none⟩ = some (.string x)) := Lib.hid (fun j x hj => by
    rw [hw1, ← hg, blk_cell (heap_alloc_new w _) j]
    simp [hj])
  have HB1 : Hid (Below w.heap.size w w1) := Lib.hid (by rw [hw1]; exact below_alloc (Below.refl _ _) _)
  obtain ⟨m, hm⟩ : ∃ m, (pieces a0).length = m := ⟨_, rfl⟩
  rw [hm] at hpl ⊢
  try rw [hg]
  have HM := Lib.hid hm
  clear hw1 hm
  go_wp2_with fail
  go_loopw [4, 23] (fun v i wr => ∃ (j : Nat) (out : List ByteArray), j ≤ m ∧ out.length ≤ j ∧ i = .int .i64 (j : Int) ∧ Hid (SplS w1 wr a0 j v out (r1, r2))) (fun _ i _ => m - (intOf i).toNat)
  case atStart => exact ⟨0, [], Nat.zero_le _, Nat.le_refl _, rfl, Lib.hid ⟨Kd.R_nil _ _ _ _ _, Below.refl _ _, HR.out⟩⟩
  case round =>
    obtain ⟨j, out, hj, ho, rfl, HS⟩ := hrel
    obtain ⟨wo, hwo⟩ : ∃ wo, wo = wr := ⟨_, rfl⟩
    subst hwo
    obtain ⟨A, c, hv, hnc, -⟩ := Kd.R_reads HS.out.1
    subst hv
    have HBW := Lib.hid (bl_seq_ HB1.out HS.out.2.1)
    by_cases hlt : j < m
    · have hlt' : j < (pieces a0).length := by rw [HM.out]; exact hlt
      have z1 := pw_cell_below HS.out.2.1 (HPC.out j _ (List.getElem?_eq_getElem hlt'))
      have hst := HS.out.2.2
      rw [List.drop_eq_getElem_cons hlt'] at hst
      obtain ⟨p, hp⟩ : ∃ p, (pieces a0)[j] = p := ⟨_, rfl⟩
      rw [hp] at z1 hst
      rw [walkS] at hst
      have HST := Lib.hid hst
      clear hst hp hlt'
      by_cases p1 : p.toList = []
      · have f1 : (p.toList == ([] : List UInt8)) = true := by simp [p1]
        have HN := Lib.hid (by have h_ := HST.out; rw [if_pos (.inl p1)] at h_; exact h_)
        clear p1 HST
        go_wp2_with fail
        go_roundw
        case rel => exact ⟨j + 1, out, by omega, by omega, by go_num, Lib.hid ⟨HS.out.1, HS.out.2.1, HN.out⟩⟩
        case measure => simp [intOf]; omega
      have f1 : (p.toList == ([] : List UInt8)) = false := by simp [p1]
      by_cases p2 : p.toList = [46]
      · have f2 : (p.toList == ([46] : List UInt8)) = true := by simp [p2]
        have HN := Lib.hid (by have h_ := HST.out; rw [if_pos (.inr p2)] at h_; exact h_)
        clear p1 p2 HST
        go_wp2_with fail
        go_roundw
        case rel => exact ⟨j + 1, out, by omega, by omega, by go_num, Lib.hid ⟨HS.out.1, HS.out.2.1, HN.out⟩⟩
        case measure => simp [intOf]; omega
      have f2 : (p.toList == ([46] : List UInt8)) = false := by simp [p2]
      have hst := HST.out
      rw [if_neg (by rintro (h | h); exact p1 h; exact p2 h)] at hst
      by_cases p3 : p.toList = [46, 46]
      · have f3 : (p.toList == ([46, 46] : List UInt8)) = true := by simp [p3]
        rw [if_pos p3] at hst
        have HN := Lib.hid hst
        obtain ⟨q, hq⟩ : ∃ q, out.length = q := ⟨_, rfl⟩
        have HRT := Lib.hid (Kd.R_take (m := q - 1) HS.out.1 (by omega))
        rw [hq] at hnc ⊢
        obtain ⟨i0, hi0, hzz⟩ := Option.map_eq_some_iff.1 infoS
        have hcut := cut_to (P := Tryd.prog) 27 9 .i64 Tryd.underlying27 hi0 A q c (((q - 1 : Nat)) : Int) (by omega) (by omega) hnc
        rw [Int.toNat_natCast] at hcut
        have hmx : (if (0 : Int) < (q : Int) - 1 then (q : Int) - 1 else 0) = ((q - 1 : Nat) : Int) := by split <;> omega
        have hmx2 : max (0 : Int) ((q : Int) - 1) = ((q - 1 : Nat) : Int) := by omega
        rw [hq] at HN
        clear p1 p2 p3 HST hst hi0 hzz
        rcases q with _ | q
        · go_wp2_with fail
          go_roundw
          case rel => exact ⟨j + 1, out.take 0, by omega, by simp, by go_num, Lib.hid ⟨HRT.out, HS.out.2.1, HN.out⟩⟩
          case measure => simp [intOf]; omega
        · have HQ := Lib.hid hq
          go_wp2_with fail
          go_roundw
          case rel =>
            have e9 : (if 0 < q then (q : Int) else 0).toNat = q := by split <;> omega
            rw [e9]
            exact ⟨j + 1, out.take q, by omega, by rw [List.length_take]; omega, by go_num, Lib.hid ⟨HRT.out, HS.out.2.1, HN.out⟩⟩
          case measure => simp [intOf]; omega
      have f3 : (p.toList == ([46, 46] : List UInt8)) = false := by simp [p3]
      rw [if_neg p3] at hst
      clear p1 p2 p3 HST
      by_cases p4 : chkS p ≠ 0
      · rw [if_pos p4] at hst
        obtain ⟨rfl, rfl⟩ : ([] : List ByteArray) = r1 ∧ chkS p = r2 := by simpa using hst
        have f4 : (chkS p != 0) = true := by simpa using p4
        have HGo := Lib.hid ((HG.out.below HB1.out).below HS.out.2.1)
        clear hst p4
        go_wp2_with fail
        refine (names_Check.calls p (chkS p) wo rfl HGo.out).mono ?_
        rintro e w2 ⟨rfl, hb⟩
        have HB2 := Lib.hid (bl_seq_ HBW.out hb)
        obtain ⟨x, hx⟩ : ∃ x, chkS p = x := ⟨_, rfl⟩
        rw [hx] at f4 ⊢
        have HX := Lib.hid hx
        clear hb hx
        go_wp2_with fail
        go_ret2
        exact ⟨.slice none 0 0, by rw [HX.out]; rfl, Kd.R_nil _ _ _ _ _, HB2.out⟩
      · rw [if_neg p4] at hst
        have p4' : chkS p = 0 := Classical.not_not.1 p4
        have HN := Lib.hid hst
        have HGo := Lib.hid ((HG.out.below HB1.out).below HS.out.2.1)
        have HCK := Lib.hid (names_Check.calls p 0 wo (by rw [names_Check.f, p4']) HGo.out)
        clear hst p4 p4'
        go_wp2_with fail
        refine HCK.out.mono ?_
        rintro e w2 ⟨rfl, hb⟩
        have HR2 := Lib.hid (Kd.R_below HS.out.1 hb)
        have HB2 := Lib.hid (bl_seq_ HS.out.2.1 hb)
        clear hb
        go_wp2_with (at_builtin; refine Kd.R_append Kd.string (w0 := w1) w1.heap.size rfl (.tmp 44) (.tmp 46) 27 9 (.string ⟨#[]⟩) 16 rfl Tryd.underlying27 infoS rfl (by decide) (by decide) (.slice A out.length c) out p [.string p] (fun _ => True) (fun _ => False) rfl rfl rfl (fun _ h => h.elim) (fun _ _ => trivial) HR2.out HB2.out HB2.out.size ?aL ?_; (case aL => omega); intro v1 w3 ho1 hb hg1 hat; have G2 := Lib.hid (And.intro ho1 hb); clear ho1 hb hg1 hat)
        go_roundw
        case rel => exact ⟨j + 1, out ++ [p], by omega, by simp; omega, by go_num, Lib.hid ⟨G2.out.1, G2.out.2, HN.out⟩⟩
        case measure => simp [intOf]; omega
    · have hst := HS.out.2.2
      rw [List.drop_eq_nil_of_le (by rw [HM.out]; omega), walkS] at hst
      have HRL := Lib.hid (Kd.R_lower HS.out.1 HB1.out.size)
      by_cases p5 : 12 < out.length
      · rw [if_pos p5] at hst
        obtain ⟨rfl, rfl⟩ : ([] : List ByteArray) = r1 ∧ (36 : Int) = r2 := by simpa using hst
        have p5I : (12 : Int) < (out.length : Int) := by omega
        clear hst p5
        go_wp2_with fail
        go_ret2
        exact ⟨_, rfl, Kd.R_nil _ _ _ _ _, HBW.out⟩
      · rw [if_neg p5] at hst
        obtain ⟨rfl, rfl⟩ : out = r1 ∧ (0 : Int) = r2 := by simpa using hst
        have p5I : (out.length : Int) ≤ 12 := by omega
        clear hst p5
        go_wp2_with fail
        go_ret2
        exact ⟨_, rfl, HRL.out, HBW.out⟩

/-! ### names_class: function 35 (of this session's own) -/
def ClsS (w W : World) (g : Nat) (v : Value) (lo hi : Int) : Prop :=
  W.heap[g]? = some (.cells #[.bool false, .bool false, .bool false, .slice none 0 0] 65 (0, 0)) ∧ W.heap[g + 1]? = some (.cells #[.bool false, .bool false, .bool false, v] 65 (0, 0)) ∧
  kRng.R 83 W g (fun _ => True) v [(lo, hi)] ∧ Below w.heap.size w W
set_option maxHeartbeats 4000000 in
set_option maxRecDepth 100000 in
theorem names_class.calls (b0 n c : Nat) (i lo hi : Nat) (w : World) (hn : n ≤ c) (hl : n ≤ 1000000) (hi3 : i + 3 < n) (h0 : w.cell? ⟨b0, i, none⟩ = some (.int .i32 (lo : Int))) (h1 : w.cell? ⟨b0, i + 1, none⟩ = some (.int .i32 45)) (h2 : w.cell? ⟨b0, i + 2, none⟩ = some (.int .i32 (hi : Int))) (h3 : w.cell? ⟨b0, i + 3, none⟩ = some (.int .i32 93))
    (n1 : lo ≠ 94) (n2 : lo ≠ 93) (n3 : lo ≠ 92) (n4 : hi ≠ 93) :
    Calls Tryd.prog 35 #[.slice (some ⟨b0, 0, none⟩) n c, .int .i64 (i : Int)] w fun e w' => ∃ v, e = .returned (.tuple #[.agg #[.bool false, .bool false, .bool false, v], .int .i64 ((i + 3 : Nat) : Int), .int .i64 0]) ∧ kRng.R 83 w' w.heap.size (fun _ => True) v [((lo : Int), (hi : Int))] ∧ Below w.heap.size w w' := by
  have f1 : ((lo : Int) == 94) = false := by simp; omega
  have f2 : ((lo : Int) != 93) = true := by simp; omega
  have f3 : ((lo : Int) == 92) = false := by simp; omega
  have f4 : ((hi : Int) != 93) = true := by simp; omega
  clear n1 n2 n3 n4
  obtain ⟨g, hg⟩ : ∃ g, w.heap.size = g := ⟨_, rfl⟩
  have BA := below_alloc (below_alloc (Below.refl w.heap.size w) (.cells #[.bool false, .bool false, .bool false, .slice none 0 0] 65)) (.cells #[.bool false, .bool false, .bool false, .slice none 0 0] 65)
  have a0 := pw_cell_below BA h0
  have a1 := pw_cell_below BA h1
  have a2 := pw_cell_below BA h2
  have a3 := pw_cell_below BA h3
  have HA := Lib.hid BA
  have H3 := Lib.hid h3
  clear h0 h1 h2 h3 BA
  go_enter Tryd.func35, Tryd.ntmps35
  go_wp2_with fail
  have hz0 := blk_below_ (heap_alloc_new w (.cells #[.bool false, .bool false, .bool false, .slice none 0 0] 65)) (below_alloc (Below.refl _ _) (.cells #[.bool false, .bool false, .bool false, .slice none 0 0] 65))
  have hz1 := heap_alloc_new (w.alloc (.cells #[.bool false, .bool false, .bool false, .slice none 0 0] 65)) (.cells #[.bool false, .bool false, .bool false, .slice none 0 0] 65)
  have hsz : (w.alloc (.cells #[.bool false, .bool false, .bool false, .slice none 0 0] 65)).heap.size = g + 1 := by rw [← hg]; simp
  rw [hsz] at hz1
  obtain ⟨W1, hW1⟩ : ∃ W1, (w.alloc (.cells #[.bool false, .bool false, .bool false, .slice none 0 0] 65)).alloc (.cells #[.bool false, .bool false, .bool false, .slice none 0 0] 65) = W1 := ⟨_, rfl⟩
  rw [hW1] at a0 a1 a2 a3 HA hz0 hz1 ⊢
  rw [hg] at hz0
  try rw [hg]
  have hs1 : W1.heap.size = g + 2 := by rw [← hW1, ← hg]; simp
  have HS1 := Lib.hid hs1
  clear hsz hW1 hs1
  go_loopw [1] (fun iv wr => (iv = .int .i64 (i : Int) ∧ wr = W1) ∨ ∃ v, iv = .int .i64 ((i + 3 : Nat) : Int) ∧ Hid (ClsS w wr g v lo hi)) (fun iv _ => i + 4 - (intOf iv).toNat)
  case atStart => exact .inl ⟨rfl, rfl⟩
  case round =>
    rcases hrel with ⟨rfl, rfl⟩ | ⟨v, rfl, HS⟩
    · have z3 : wr.cell? ⟨g + 1, 3, none⟩ = some (.slice none 0 0) := (blk_cell hz1 3).trans rfl
      clear a3
      have HZ := Lib.hid (And.intro hz0 hz1)
      clear hz0 hz1
      go_wp2_with (at_builtin; refine Kd.R_append kRng (w0 := wr) g rfl (.tmp 84) (.tmp 88) 63 83 (.agg #[.int .i32 0, .int .i32 0]) 8 rfl Tryd.underlying63 info83 rfl (by decide) (by decide) (.slice none 0 0) [] ((lo : Int), (hi : Int)) [.int .i32 (lo : Int), .int .i32 (hi : Int)] (fun _ => True) (fun _ => False) rfl rfl ?aP (fun _ h => h.elim) (fun _ _ => trivial) (Kd.R_nil _ _ _ _ _) (Below.refl _ _) ?aS (by simp) ?_; (case aP => exact ⟨[.int .i32 (lo : Int)], [.int .i32 (hi : Int)], rfl, rfl, rfl⟩); (case aS => have h_ := HS1.out; omega); intro v1 w1 ho hb hg1 hat; replace ho : kRng.R 83 w1 g (fun _ => True) v1 [((lo : Int), (hi : Int))] := ho; obtain ⟨A2, c2, hv1⟩ : ∃ A c, v1 = .slice A 1 c := Kd.R_slice ho; subst hv1; have b4 := blk_grown HZ.out.1 hg1 (by simp [Value.ownBlock]); have b5 := blk_grown HZ.out.2 hg1 (by simp [Value.ownBlock]); have z9 : w1.cell? ⟨g + 1, 3, none⟩ = some (.slice none 0 0) := (blk_cell b5 3).trans rfl; have f9 := blk_frozen b5 3; have G2 := Lib.hid (And.intro ho (And.intro hb (And.intro b4 b5))); clear ho hb hg1 hat b4 b5)
      go_roundw
      case rel =>
        refine .inr ⟨.slice A2 1 c2, by go_num, Lib.hid ⟨?_, ?_, ?_, ?_⟩⟩
        · exact (Below.heap_setCell _ _ _ _ (by simp)).trans G2.out.2.2.1
        · have h_ := blk_set G2.out.2.2.2 3 (.slice A2 1 c2); exact h_
        · exact Kd.R_set G2.out.1 G2.out.2.2.2 (by decide) 3 _
        · exact Below.setCell (Below.trans HA.out (hg.symm ▸ G2.out.2.1)) (show w.heap.size ≤ g + 1 by omega) _
      case measure => simp [intOf]; omega
    · obtain ⟨e0, e1, e2, e3⟩ := HS.out
      obtain ⟨A2, c2, rfl⟩ : ∃ A c, v = .slice A 1 c := Kd.R_slice e2
      have z0 : wr.cell? ⟨g + 1, 0, none⟩ = some (.bool false) := (blk_cell e1 0).trans rfl
      have z1 : wr.cell? ⟨g + 1, 1, none⟩ = some (.bool false) := (blk_cell e1 1).trans rfl
      have z2 : wr.cell? ⟨g + 1, 2, none⟩ = some (.bool false) := (blk_cell e1 2).trans rfl
      have z3 : wr.cell? ⟨g + 1, 3, none⟩ = some (.slice A2 1 c2) := (blk_cell e1 3).trans rfl
      have y0 : wr.cell? ⟨g, 0, none⟩ = some (.bool false) := (blk_cell e0 0).trans rfl
      have y1 : wr.cell? ⟨g, 1, none⟩ = some (.bool false) := (blk_cell e0 1).trans rfl
      have y2 : wr.cell? ⟨g, 2, none⟩ = some (.bool false) := (blk_cell e0 2).trans rfl
      have y3 : wr.cell? ⟨g, 3, none⟩ = some (.slice none 0 0) := (blk_cell e0 3).trans rfl
      have r0 := blk_frozen e0 0
      have r1 := blk_frozen e0 1
      have r2 := blk_frozen e0 2
      have r3 := blk_frozen e0 3
      have x3 := pw_cell_below e3 H3.out
      clear a0 a1 a2 a3 hz0 hz1 e0 e1 e2 e3
      go_wp2_with fail
      obtain ⟨e0, e1, e2, e3⟩ := HS.out
      have k0 := blk_set e0 0 (.bool false)
      have k1 := blk_set k0 1 (.bool false)
      have k2 := blk_set k1 2 (.bool false)
      have k3 := blk_set k2 3 (.slice A2 1 c2)
      have q0 := Kd.R_set e2 e0 (by decide) 0 (.bool false)
      have q1 := Kd.R_set q0 k0 (by decide) 1 (.bool false)
      have q2 := Kd.R_set q1 k1 (by decide) 2 (.bool false)
      have q3 := Kd.R_set q2 k2 (by decide) 3 (.slice A2 1 c2)
      have BB := (((e3.setCell (p := ⟨g, 0, none⟩) (by simp; omega) (.bool false)).setCell (p := ⟨g, 1, none⟩) (by simp; omega) (.bool false)).setCell (p := ⟨g, 2, none⟩) (by simp; omega) (.bool false)).setCell (p := ⟨g, 3, none⟩) (by simp; omega) (.slice A2 1 c2)
      have c0 := (blk_cell k3 0).trans rfl
      have c1 := (blk_cell k3 1).trans rfl
      have c2' := (blk_cell k3 2).trans rfl
      have c3 := (blk_cell k3 3).trans rfl
      obtain ⟨W9, hW9⟩ : ∃ W9, (((wr.setCell ⟨g, 0, none⟩ (.bool false)).setCell ⟨g, 1, none⟩ (.bool false)).setCell ⟨g, 2, none⟩ (.bool false)).setCell ⟨g, 3, none⟩ (.slice A2 1 c2) = W9 := ⟨_, rfl⟩
      rw [hW9] at k3 q3 BB c0 c1 c2' c3 ⊢
      replace c0 : W9.cell? ⟨g, 0, none⟩ = some (.bool false) := c0
      replace c1 : W9.cell? ⟨g, 1, none⟩ = some (.bool false) := c1
      replace c2' : W9.cell? ⟨g, 2, none⟩ = some (.bool false) := c2'
      replace c3 : W9.cell? ⟨g, 3, none⟩ = some (.slice A2 1 c2) := c3
      have QR : kRng.R 83 W9 w.heap.size (fun _ => True) (.slice A2 1 c2) [((lo : Int), (hi : Int))] := hg ▸ q3
      clear k0 k1 k2 k3 q0 q1 q2 q3 hW9 e0 e1 e2 e3 HS z0 z1 z2 z3 y0 y1 y2 y3 r0 r1 r2 r3 x3
      exact bodyPost_ret (v := .tuple #[.agg #[.bool false, .bool false, .bool false, .slice A2 1 c2], .int .i64 ((i : Int) + 3), .int .i64 0]) (by simp [results, Tryd.results35, go_sem, c0, c1, c2', c3]) rfl ⟨_, rfl, QR, BB⟩

/-! ### names_one: function 36 (of this session's own) -/
set_option maxHeartbeats 4000000 in
set_option maxRecDepth 100000 in
theorem names_one.calls (x : Int) (w : World) :
    Calls Tryd.prog 36 #[.int .i32 x] w fun e w' => ∃ v, e = .returned (.agg #[.bool false, .bool false, .bool false, v]) ∧ kRng.R 83 w' w.heap.size (fun _ => True) v [(x, x)] ∧ Below w.heap.size w w' := by
  go_enter Tryd.func36, Tryd.ntmps36
  go_wp2
  have hA := heap_alloc_new w (.cells #[.bool false, .bool false, .bool false, .slice (some ⟨w.heap.size + 1, 0, none⟩) 1 1] 65)
  have hB := below_alloc (Below.refl w.heap.size w) (.cells #[.bool false, .bool false, .bool false, .slice (some ⟨w.heap.size + 1, 0, none⟩) 1 1] 65)
  have hs : (w.alloc (.cells #[.bool false, .bool false, .bool false, .slice (some ⟨w.heap.size + 1, 0, none⟩) 1 1] 65)).heap.size = w.heap.size + 1 := by simp
  obtain ⟨W1, hW1⟩ : ∃ W1, w.alloc (.cells #[.bool false, .bool false, .bool false, .slice (some ⟨w.heap.size + 1, 0, none⟩) 1 1] 65) = W1 := ⟨_, rfl⟩
  rw [hW1] at hA hB hs ⊢
  have hR := lit_R W1 x x
  have hB2 := below_alloc (Below.refl W1.heap.size W1) (.cells #[.int .i32 x, .int .i32 x] 83)
  rw [hs] at hR
  have hA2 := blk_below_ hA hB2
  obtain ⟨W2, hW2⟩ : ∃ W2, W1.alloc (.cells #[.int .i32 x, .int .i32 x] 83) = W2 := ⟨_, rfl⟩
  rw [hW2] at hR hB2 hA2 ⊢
  have c0 : W2.cell? ⟨w.heap.size, 0, none⟩ = some (.bool false) := (blk_cell hA2 0).trans rfl
  have c1 : W2.cell? ⟨w.heap.size, 1, none⟩ = some (.bool false) := (blk_cell hA2 1).trans rfl
  have c2 : W2.cell? ⟨w.heap.size, 2, none⟩ = some (.bool false) := (blk_cell hA2 2).trans rfl
  have c3 : W2.cell? ⟨w.heap.size, 3, none⟩ = some (.slice (some ⟨w.heap.size + 1, 0, none⟩) 1 1) := (blk_cell hA2 3).trans rfl
  exact bodyPost_ret (v := .agg #[.bool false, .bool false, .bool false, .slice (some ⟨w.heap.size + 1, 0, none⟩) 1 1]) (by simp [results, Tryd.results36, go_sem, c0, c1, c2, c3]) rfl ⟨_, rfl, Kd.R_lower hR (Nat.le_succ _), bl_seq_ hB hB2⟩

/-! ### names_parts: function 30 (of this session's own) -/
def PaS (w wr : World) (g : Nat) (v : Value) (out : List Part) : Prop := kPart.R 65 wr g (fun _ => True) v out ∧ Below w.heap.size w wr
set_option maxHeartbeats 8000000 in
set_option maxRecDepth 100000 in
theorem names_parts.calls (b0 n c0 k0 : Nat) (ps : List Nat) (r : List Part) (w : World) (hn : n ≤ c0) (hl : n ≤ 1000000) (hp : RdN w b0 n ps) (h : partsF ps k0 0 [] = some r) :
    Calls Tryd.prog 30 #[.slice (some ⟨b0, 0, none⟩) n c0] w fun e w' => ∃ v, e = .returned (.tuple #[v, .int .i64 0]) ∧ kPart.R 65 w' w.heap.size (fun _ => True) v r ∧ Below w.heap.size w w' := by
  obtain ⟨g, hg⟩ : ∃ g, w.heap.size = g := ⟨_, rfl⟩
  have HP := Lib.hid hp
  have H := Lib.hid h
  clear hp h
  go_enter Tryd.func30, Tryd.ntmps30
  go_wp2_with fail
  go_loopw [4, 5] (fun v iv wr => ∃ (i k : Nat) (out : List Part), i ≤ n ∧ out.length ≤ i ∧ iv = .int .i64 (i : Int) ∧ Hid (partsF ps k i out = some r) ∧ Hid (PaS w wr g v out)) (fun _ iv _ => n - (intOf iv).toNat)
  case atStart => exact ⟨0, k0, [], Nat.zero_le _, Nat.le_refl _, rfl, H, Lib.hid ⟨Kd.R_nil _ _ _ _ _, Below.refl _ _⟩⟩
  case round =>
    obtain ⟨i, k, out, hi, ho, rfl, HF, HS⟩ := hrel
    obtain ⟨wo, hwo⟩ : ∃ wo, wo = wr := ⟨_, rfl⟩
    subst hwo
    obtain ⟨A, cA, hv, -, hC⟩ := Kd.R_reads HS.out.1
    have HC := Lib.hid hC
    clear hC
    subst hv
    have HW : Hid (g ≤ wo.heap.size) := Lib.hid (hg ▸ HS.out.2.size)
    by_cases hlt : i < n
    · obtain ⟨m, j, o, rfl, hs, hf⟩ := partsF_open HF.out (HP.out.1.symm ▸ hlt)
      have HPo := Lib.hid (HP.out.below HS.out.2)
      have z0 := HPo.out.2 i hlt
      have HS1 := Lib.hid hs
      have HF1 := Lib.hid hf
      clear hs hf HF
      by_cases e1 : rnP ps i = 42
      · have f1 : (((rnP ps i : Nat) : Int) == 42) = true := by simp [e1]
        have hst := HS1.out
        rw [stepP, if_pos e1] at hst
        obtain ⟨rfl, hoo⟩ : i + 1 = j ∧ (if lastMany out = true then out else out ++ [manyP]) = o := by simpa using hst
        clear hst HS1
        have HOO := Lib.hid hoo
        clear hoo e1
        obtain ⟨q, hq⟩ : ∃ q, out.length = q := ⟨_, rfl⟩
        rcases q with _ | q
        · have hne : out = [] := List.eq_nil_of_length_eq_zero hq
          subst hne
          have hoo : [] ++ [manyP] = o := by rw [← HOO.out]; rfl
          clear HOO hq
          subst hoo
          go_wp2_with (at_builtin; refine Kd.R_append kPart (w0 := w) g rfl (.tmp 42) (.tmp 44) 51 65 (.agg #[.bool false, .bool false, .bool false, .slice none 0 0]) 32 rfl Tryd.underlying51 info65 rfl (by decide) (by decide) (.slice A ([] : List Part).length cA) ([] : List Part) manyP [.bool true, .bool false, .bool false, .slice none 0 0] (fun _ => True) (fun _ => False) rfl rfl (mk_M (Kd.R_nil _ _ _ _ _)) (fun _ h => h.elim) (fun _ _ => trivial) HS.out.1 ?aB ?aH ?aS ?_; (case aB => exact hg ▸ HS.out.2); (case aH => exact HW.out); (case aS => simp); intro v1 w1 ho1 hb hg1 hat; have G2 := Lib.hid (And.intro ho1 hb); clear ho1 hb hg1 hat)
          go_roundw
          case rel => exact ⟨i + 1, m, [] ++ [manyP], by omega, by simp <;> omega, by go_num, HF1, Lib.hid ⟨G2.out.1, by rw [hg]; exact G2.out.2⟩⟩
          case measure => simp [intOf]; omega
        · have hL : lastMany out = (rdP out q).1 := by rw [lastMany, hq]; simp
          obtain ⟨ad, B, c1, hA, -, -, y0, -⟩ := at_P HC.out q (by omega)
          subst hA
          obtain ⟨b, hb⟩ : ∃ b, (rdP out q).1 = b := ⟨_, rfl⟩
          rw [hb] at y0 hL
          have HL := Lib.hid hL
          rw [hq] at HS
          have HQ := Lib.hid hq
          clear hb hL HC
          cases b with
          | true =>
            have hoo : out = o := by rw [← HOO.out, if_pos HL.out]
            subst hoo
            clear HOO
            go_wp2_with fail
            go_roundw
            case rel => exact ⟨i + 1, m, out, by omega, by omega, by go_num, HF1, HS⟩
            case measure => simp [intOf]; omega
          | false =>
            have hoo : out ++ [manyP] = o := by rw [← HOO.out, if_neg (by rw [HL.out]; simp)]
            subst hoo
            clear HOO
            go_wp2_with (at_builtin; refine Kd.R_append kPart (w0 := w) g rfl (.tmp 42) (.tmp 44) 51 65 (.agg #[.bool false, .bool false, .bool false, .slice none 0 0]) 32 rfl Tryd.underlying51 info65 rfl (by decide) (by decide) (.slice (some ad) (q + 1) cA) out manyP [.bool true, .bool false, .bool false, .slice none 0 0] (fun _ => True) (fun _ => False) rfl rfl (mk_M (Kd.R_nil _ _ _ _ _)) (fun _ h => h.elim) (fun _ _ => trivial) HS.out.1 ?aB ?aH ?aS ?_; (case aB => exact hg ▸ HS.out.2); (case aH => exact HW.out); (case aS => omega); intro v1 w1 ho1 hb hg1 hat; have G2 := Lib.hid (And.intro ho1 hb); clear ho1 hb hg1 hat)
            go_roundw
            case rel => exact ⟨i + 1, m, out ++ [manyP], by omega, by simp <;> omega, by go_num, HF1, Lib.hid ⟨G2.out.1, by rw [hg]; exact G2.out.2⟩⟩
            case measure => simp [intOf]; omega
      by_cases e2 : rnP ps i = 63
      · have f1 : (((rnP ps i : Nat) : Int) == 42) = false := by simp; omega
        have f2 : (((rnP ps i : Nat) : Int) == 63) = true := by simp; omega
        have hst := HS1.out
        rw [stepP, if_neg e1, if_pos e2] at hst
        obtain ⟨rfl, rfl⟩ : i + 1 = j ∧ out ++ [anyP] = o := by simpa using hst
        clear hst e1 e2 HS1
        go_wp2_with (at_builtin; refine Kd.R_append kPart (w0 := w) g rfl (.tmp 48) (.tmp 50) 51 65 (.agg #[.bool false, .bool false, .bool false, .slice none 0 0]) 32 rfl Tryd.underlying51 info65 rfl (by decide) (by decide) (.slice A out.length cA) out anyP [.bool false, .bool true, .bool false, .slice none 0 0] (fun _ => True) (fun _ => False) rfl rfl (mk_M (Kd.R_nil _ _ _ _ _)) (fun _ h => h.elim) (fun _ _ => trivial) HS.out.1 ?aB ?aH ?aS ?_; (case aB => exact hg ▸ HS.out.2); (case aH => exact HW.out); (case aS => omega); intro v1 w1 ho1 hb hg1 hat; have G2 := Lib.hid (And.intro ho1 hb); clear ho1 hb hg1 hat)
        go_roundw
        case rel => exact ⟨i + 1, m, out ++ [anyP], by omega, by simp <;> omega, by go_num, HF1, Lib.hid ⟨G2.out.1, by rw [hg]; exact G2.out.2⟩⟩
        case measure => simp [intOf]; omega
      obtain ⟨inner, hown⟩ := Kd.R_own HS.out.1
      have HOWN := Lib.hid hown
      clear hown
      by_cases e3 : rnP ps i = 91
      · have f1 : (((rnP ps i : Nat) : Int) == 42) = false := by simp; omega
        have f2 : (((rnP ps i : Nat) : Int) == 63) = false := by simp; omega
        have f3 : (((rnP ps i : Nat) : Int) == 91) = true := by simp; omega
        have hst := HS1.out
        rw [stepP, if_neg e1, if_neg e2, if_pos e3] at hst
        by_cases cc : i + 4 < ps.length ∧ rnP ps (i + 1) ≠ 94 ∧ rnP ps (i + 1) ≠ 93 ∧ rnP ps (i + 1) ≠ 92 ∧ rnP ps (i + 2) = 45 ∧ rnP ps (i + 3) ≠ 93 ∧ rnP ps (i + 4) = 93
        · rw [if_pos cc] at hst
          obtain ⟨rfl, rfl⟩ : i + 5 = j ∧ out ++ [rngP (rnP ps (i + 1)) (rnP ps (i + 3))] = o := by simpa using hst
          obtain ⟨q0, q1, q2, q3, q4, q5, q6⟩ := cc
          rw [HP.out.1] at q0
          have y0 := HPo.out.2 (i + 1) (by omega)
          have y1 := HPo.out.2 (i + 2) (by omega)
          have y2 := HPo.out.2 (i + 3) (by omega)
          have y3 := HPo.out.2 (i + 4) (by omega)
          rw [q4] at y1
          rw [q6] at y3
          have HCL := Lib.hid (names_class.calls b0 n c0 (i + 1) (rnP ps (i + 1)) (rnP ps (i + 3)) wo hn hl (by omega) y0 y1 y2 y3 q1 q2 q3 q5)
          have Q0 := Lib.hid q0
          clear hst e1 e2 e3 HS1 q1 q2 q3 q4 q5 q6 y0 y1 y2 y3
          go_wp2_with fail
          refine HCL.out.mono ?_
          rintro e w1 ⟨vi, rfl, hR, hb1⟩
          obtain ⟨A2, c2, rfl⟩ : ∃ A c, vi = .slice A 1 c := Kd.R_slice hR
          have HR := Lib.hid (Kd.R_lower (Kd.R_new hR HOWN.out) HW.out)
          have HV := Lib.hid (Kd.R_below HS.out.1 hb1)
          have HB1 := Lib.hid (bl_seq_ HS.out.2 hb1)
          have HW1 : Hid (g ≤ w1.heap.size) := Lib.hid (Nat.le_trans HW.out hb1.size)
          clear hR hb1
          go_wp2_with (at_builtin; refine Kd.R_append kPart (w0 := w) g rfl (.tmp 65) (.tmp 67) 51 65 (.agg #[.bool false, .bool false, .bool false, .slice none 0 0]) 32 rfl Tryd.underlying51 info65 rfl (by decide) (by decide) (.slice A out.length cA) out (rngP (rnP ps (i + 1)) (rnP ps (i + 3))) [.bool false, .bool false, .bool false, .slice A2 1 c2] (fun _ => True) (fun k => True ∧ some k ≠ (Value.slice A out.length cA).ownBlock) rfl (by first | rfl | (simp [Act.eval]; done) | (simp only [World.size_alloc]; rfl)) (mk_M (Kd.R_alloc HR.out _)) (fun _ h => h) (fun _ _ => trivial) (Kd.R_alloc HV.out _) ?aB ?aH ?aS ?_; (case aB => exact hg ▸ below_alloc HB1.out _); (case aH => exact (by have h_ := HW1.out; simp; omega)); (case aS => omega); intro v1 w1 ho1 hb hg1 hat; have G2 := Lib.hid (And.intro ho1 hb); clear ho1 hb hg1 hat)
          go_roundw
          case rel => exact ⟨i + 5, m, out ++ [rngP (rnP ps (i + 1)) (rnP ps (i + 3))], by have h_ := Q0.out; omega, by simp <;> omega, by go_num, HF1, Lib.hid ⟨G2.out.1, by rw [hg]; exact G2.out.2⟩⟩
          case measure => have h_ := Q0.out; simp [intOf]; omega
        · rw [if_neg cc] at hst
          cases hst
      by_cases e4 : rnP ps i = 92
      · have f1 : (((rnP ps i : Nat) : Int) == 42) = false := by simp; omega
        have f2 : (((rnP ps i : Nat) : Int) == 63) = false := by simp; omega
        have f3 : (((rnP ps i : Nat) : Int) == 91) = false := by simp; omega
        have f4 : (((rnP ps i : Nat) : Int) == 92) = true := by simp; omega
        have hst := HS1.out
        rw [stepP, if_neg e1, if_neg e2, if_neg e3, if_pos e4] at hst
        by_cases cc : i + 1 < ps.length
        · rw [if_pos cc] at hst
          obtain ⟨rfl, rfl⟩ : i + 2 = j ∧ out ++ [oneP (rnP ps (i + 1))] = o := by simpa using hst
          rw [HP.out.1] at cc
          have y0 := HPo.out.2 (i + 1) cc
          clear hst e1 e2 e3 e4 HS1
          go_wp2_with fail
          refine (names_one.calls ((rnP ps (i + 1) : Nat) : Int) wo).mono ?_
          rintro e w1 ⟨vi, rfl, hR, hb1⟩
          obtain ⟨A2, c2, rfl⟩ : ∃ A c, vi = .slice A 1 c := Kd.R_slice hR
          have HR := Lib.hid (Kd.R_lower (Kd.R_new hR HOWN.out) HW.out)
          have HV := Lib.hid (Kd.R_below HS.out.1 hb1)
          have HB1 := Lib.hid (bl_seq_ HS.out.2 hb1)
          have HW1 : Hid (g ≤ w1.heap.size) := Lib.hid (Nat.le_trans HW.out hb1.size)
          clear hR hb1
          go_wp2_with (at_builtin; refine Kd.R_append kPart (w0 := w) g rfl (.tmp 78) (.tmp 84) 51 65 (.agg #[.bool false, .bool false, .bool false, .slice none 0 0]) 32 rfl Tryd.underlying51 info65 rfl (by decide) (by decide) (.slice A out.length cA) out (oneP (rnP ps (i + 1))) [.bool false, .bool false, .bool false, .slice A2 1 c2] (fun _ => True) (fun k => True ∧ some k ≠ (Value.slice A out.length cA).ownBlock) rfl rfl (mk_M HR.out) (fun _ h => h) (fun _ _ => trivial) HV.out ?aB ?aH ?aS ?_; (case aB => exact hg ▸ HB1.out); (case aH => exact HW1.out); (case aS => omega); intro v1 w1 ho1 hb hg1 hat; have G2 := Lib.hid (And.intro ho1 hb); clear ho1 hb hg1 hat)
          go_roundw
          case rel => exact ⟨i + 2, m, out ++ [oneP (rnP ps (i + 1))], by omega, by simp <;> omega, by go_num, HF1, Lib.hid ⟨G2.out.1, by rw [hg]; exact G2.out.2⟩⟩
          case measure => simp [intOf]; omega
        · rw [if_neg cc] at hst
          cases hst
      have f1 : (((rnP ps i : Nat) : Int) == 42) = false := by simp; omega
      have f2 : (((rnP ps i : Nat) : Int) == 63) = false := by simp; omega
      have f3 : (((rnP ps i : Nat) : Int) == 91) = false := by simp; omega
      have f4 : (((rnP ps i : Nat) : Int) == 92) = false := by simp; omega
      have hst := HS1.out
      rw [stepP, if_neg e1, if_neg e2, if_neg e3, if_neg e4] at hst
      obtain ⟨rfl, rfl⟩ : i + 1 = j ∧ out ++ [oneP (rnP ps i)] = o := by simpa using hst
      clear hst e1 e2 e3 e4 HS1
      go_wp2_with fail
      refine (names_one.calls ((rnP ps i : Nat) : Int) wo).mono ?_
      rintro e w1 ⟨vi, rfl, hR, hb1⟩
      obtain ⟨A2, c2, rfl⟩ : ∃ A c, vi = .slice A 1 c := Kd.R_slice hR
      have HR := Lib.hid (Kd.R_lower (Kd.R_new hR HOWN.out) HW.out)
      have HV := Lib.hid (Kd.R_below HS.out.1 hb1)
      have HB1 := Lib.hid (bl_seq_ HS.out.2 hb1)
      have HW1 : Hid (g ≤ w1.heap.size) := Lib.hid (Nat.le_trans HW.out hb1.size)
      clear hR hb1
      go_wp2_with (at_builtin; refine Kd.R_append kPart (w0 := w) g rfl (.tmp 22) (.tmp 25) 51 65 (.agg #[.bool false, .bool false, .bool false, .slice none 0 0]) 32 rfl Tryd.underlying51 info65 rfl (by decide) (by decide) (.slice A out.length cA) out (oneP (rnP ps i)) [.bool false, .bool false, .bool false, .slice A2 1 c2] (fun _ => True) (fun k => True ∧ some k ≠ (Value.slice A out.length cA).ownBlock) rfl rfl (mk_M HR.out) (fun _ h => h) (fun _ _ => trivial) HV.out ?aB ?aH ?aS ?_; (case aB => exact hg ▸ HB1.out); (case aH => exact HW1.out); (case aS => omega); intro v1 w1 ho1 hb hg1 hat; have G2 := Lib.hid (And.intro ho1 hb); clear ho1 hb hg1 hat)
      go_roundw
      case rel => exact ⟨i + 1, m, out ++ [oneP (rnP ps i)], by omega, by simp <;> omega, by go_num, HF1, Lib.hid ⟨G2.out.1, by rw [hg]; exact G2.out.2⟩⟩
      case measure => simp [intOf]; omega
    · have hr := partsF_end HF.out (HP.out.1.symm ▸ hlt)
      subst hr
      go_wp2_with fail
      go_ret2
      exact ⟨_, rfl, hg.symm ▸ HS.out.1, HS.out.2⟩

/-! ### names_has: function 37 (of this session's own) -/
set_option maxHeartbeats 4000000 in
set_option maxRecDepth 100000 in
theorem names_has.calls (m a n : Bool) (A : Option Addr) (c : Nat) (rs : List (Int × Int)) (x : Int) (w : World) (hr : kRng.C w A rs.length rs) (hc : rs.length ≤ c) (hn : rs.length ≤ 1000000) :
    Calls Tryd.prog 37 #[.agg #[.bool m, .bool a, .bool n, .slice A rs.length c], .int .i32 x] w fun e w' => e = .returned (.bool (hasP (m, a, n, rs) x)) ∧ Below w.heap.size w w' := by
  have HR := Lib.hid hr
  clear hr
  cases a with
  | true =>
    go_enter Tryd.func37, Tryd.ntmps37
    go_wp2
    go_ret
    exact ⟨rfl, below_alloc (Below.refl _ _) _⟩
  | false =>
    have HE : Hid (hasP (m, false, n, rs) x = (inR rs x != n)) := Lib.hid rfl
    have HW := Lib.hid (below_alloc (Below.refl w.heap.size w) (.cells #[.bool m, .bool false, .bool n, .slice A rs.length c] 65))
    have HA := Lib.hid (heap_alloc_new w (.cells #[.bool m, .bool false, .bool n, .slice A rs.length c] 65))
    go_enter Tryd.func37, Tryd.ntmps37
    go_wp2
    obtain ⟨W1, hW1⟩ : ∃ W1, w.alloc (.cells #[.bool m, .bool false, .bool n, .slice A rs.length c] 65) = W1 := ⟨_, rfl⟩
    rw [hW1] at HA HW ⊢
    obtain ⟨g, hg⟩ : ∃ g, w.heap.size = g := ⟨_, rfl⟩
    rw [hg] at HA ⊢
    go_loopw [5, 13] (fun v i wr => ∃ j : Nat, j ≤ rs.length ∧ v = .bool (inR (rs.take j) x) ∧ i = .int .i64 (j : Int) ∧ Hid (Below W1.heap.size W1 wr)) (fun _ i _ => rs.length - (intOf i).toNat)
    case atStart => exact ⟨0, Nat.zero_le _, rfl, rfl, Lib.hid (Below.refl _ _)⟩
    case round =>
      obtain ⟨j, hj, rfl, rfl, HB⟩ := hrel
      have HA1 := blk_below_ HA.out HB.out
      have HBW : Hid (Below g w wr) := Lib.hid (hg ▸ bl_seq_ HW.out HB.out)
      have HRw := Lib.hid (Kd.C_below (Kd.C_below HR.out HW.out) HB.out)
      by_cases hlt : j < rs.length
      · obtain ⟨ad, hA0, c1, c2⟩ := at_R HRw.out j hlt
        subst hA0
        have HN := inR_take rs x j hlt
        obtain ⟨p, hp⟩ : ∃ p, rdR rs j = p := ⟨_, rfl⟩
        rw [hp] at c1 c2 HN
        obtain ⟨lo, hi⟩ := p
        simp only at c1 c2 HN
        obtain ⟨b, hb⟩ : ∃ b, inR (rs.take j) x = b := ⟨_, rfl⟩
        rw [hb] at HN ⊢
        clear hb hp HA1
        have HN := Lib.hid HN
        have HB1 := Lib.hid (bl_seq_ HB.out (below_alloc (Below.refl wr.heap.size wr) (.cells #[.int .i32 lo, .int .i32 hi] 83)))
        cases b with
        | true =>
          go_wp2
          go_roundw
          case rel => exact ⟨j + 1, by omega, by rw [HN.out]; rfl, by go_num, HB1⟩
          case measure => simp [intOf]; omega
        | false =>
          by_cases d1 : lo ≤ x
          · by_cases d2 : x ≤ hi
            · go_wp2
              go_roundw
              case rel => exact ⟨j + 1, by omega, by rw [HN.out]; simp [d1, d2], by go_num, HB1⟩
              case measure => simp [intOf]; omega
            · go_wp2
              go_roundw
              case rel => exact ⟨j + 1, by omega, by rw [HN.out]; simp [d1, d2], by go_num, HB1⟩
              case measure => simp [intOf]; omega
          · go_wp2
            go_roundw
            case rel => exact ⟨j + 1, by omega, by rw [HN.out]; simp [d1], by go_num, HB1⟩
            case measure => simp [intOf]; omega
      · obtain rfl : j = rs.length := by omega
        rw [List.take_length]
        obtain ⟨b, hb⟩ : ∃ b, inR rs x = b := ⟨_, rfl⟩
        rw [hb] at HE ⊢
        clear hb
        have c2 : wr.cell? ⟨g, 2, none⟩ = some (.bool n) := (blk_cell HA1 2).trans rfl
        clear HA1
        have HX := Lib.hid (show Below w.heap.size w wr from hg ▸ HBW.out)
        cases b <;> cases n <;> (go_wp2_with fail; go_ret; exact ⟨by rw [HE.out]; rfl, HX.out⟩)

end Go.Proofs.YtjjhdddiabdfhaaDoor.XNam
