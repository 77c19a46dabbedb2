-- Printed by a program of this session (xprint.py) over the kit's print, with contracts of its own. Not trusted: Lean checks it.
import Derived.Test.YtaomgddfkpcdhaaDoorXDir0
import Derived.Test.YtaomgddfkpcdhaaDoorXDir2
namespace Go.Proofs.YtaomgddfkpcdhaaDoor.XDir
open Go.RowKit Go.Proofs.YtaomgddfkpcdhaaDoorW.PrintWords Go.Proofs.YtaomgddfkpcdhaaDoorW.PrintLast Go.Proofs.YtaomgddfkpcdhaaDoorW.PrintMore
attribute [local go_sem] max2_int min2_int max_two min_two max_three min_three max_four min_four   -- for this text's walks alone
set_option linter.unusedVariables false
set_option linter.unusedSimpArgs false

/-! ### gabionlaw18_ordered: function 4 -/
def gabionlaw18_ordered.f  : Option (Bool) := (dirent_Names.f (([(⟨3, (⟨#[98]⟩ : ByteArray)⟩ : S26), (⟨0, (⟨#[]⟩ : ByteArray)⟩ : S26), (⟨2, (⟨#[97]⟩ : ByteArray)⟩ : S26)] : List (S26)))).bind fun t104 => (if (t104.length : Int) = 2 then (if 0 < (t104.length : Int) then (if (rdOf ByteArray.empty t104 0).toList = ([97] : List UInt8) then (if 1 < (t104.length : Int) then (some ((rdOf ByteArray.empty t104 1).toList == ([98] : List UInt8))) else (none)) else (some false)) else (none)) else (some false))
set_option maxHeartbeats 8000000 in
set_option maxRecDepth 100000 in
theorem gabionlaw18_ordered.calls  (r : Bool) (w : World) (h : gabionlaw18_ordered.f  = some r) :
    Calls Tryd.prog 4 #[] w fun e w' => e = .returned (.bool r) ∧ Below w.heap.size w w' := by
  have hu26 := Tryd.underlying26
  have HB := Aside0.mk (Below.refl w.heap.size w)
  have H : ((dirent_Names.f (([(⟨3, (⟨#[98]⟩ : ByteArray)⟩ : S26), (⟨0, (⟨#[]⟩ : ByteArray)⟩ : S26), (⟨2, (⟨#[97]⟩ : ByteArray)⟩ : S26)] : List (S26)))).bind fun t104 => (if (t104.length : Int) = 2 then (if 0 < (t104.length : Int) then (if (rdOf ByteArray.empty t104 0).toList = ([97] : List UInt8) then (if 1 < (t104.length : Int) then (some ((rdOf ByteArray.empty t104 1).toList == ([98] : List UInt8))) else (none)) else (some false)) else (none)) else (some false))) = some r := h
  clear h
  obtain ⟨y101, hy101⟩ : ∃ y_ : List (S26), y_ = (([(⟨3, (⟨#[98]⟩ : ByteArray)⟩ : S26), (⟨0, (⟨#[]⟩ : ByteArray)⟩ : S26), (⟨2, (⟨#[97]⟩ : ByteArray)⟩ : S26)] : List (S26))) := ⟨_, rfl⟩
  replace H : ((dirent_Names.f y101).bind fun t104 => (if (t104.length : Int) = 2 then (if 0 < (t104.length : Int) then (if (rdOf ByteArray.empty t104 0).toList = ([97] : List UInt8) then (if 1 < (t104.length : Int) then (some ((rdOf ByteArray.empty t104 1).toList == ([98] : List UInt8))) else (none)) else (some false)) else (none)) else (some false))) = some r := by first | (rw [hy101]; with_reducible exact H) | (have H2_ := (Option.bind_some _ _).symm.trans H; rw [hy101]; with_reducible exact H2_) | (have H2_ := (Option.bind_some _ _).symm.trans H; with_reducible exact H2_) | with_reducible exact H | (rw [hy101]; exact H) | exact H
  have Ny101 := Aside0.mk hy101
  clear hy101
  replace H := Option.bind_eq_some_iff.mp H
  obtain ⟨t104, A10, H⟩ := H
  replace H : (if (t104.length : Int) = 2 then (if 0 < (t104.length : Int) then (if (rdOf ByteArray.empty t104 0).toList = ([97] : List UInt8) then (if 1 < (t104.length : Int) then (some ((rdOf ByteArray.empty t104 1).toList == ([98] : List UInt8))) else (none)) else (some false)) else (none)) else (some false)) = some r := H
  have A1 := Aside0.mk A10
  clear A10
  by_cases c2 : (t104.length : Int) = 2
  · rw [if_pos c2] at H
    have c2b0 : ((t104.length : Int) == 2) = true := beq_iff_eq.mpr c2
    have c2b1 : ((t104.length : Int) != 2) = false := bne_eq_false_iff_eq.mpr c2
    clear c2
    by_cases c3 : 0 < (t104.length : Int)
    · rw [if_pos c3] at H
      have c3b0 : decide (0 < (t104.length : Int)) = true := decide_eq_true c3
      have c3b1 : decide (0 < t104.length) = true := decide_eq_true (by omega)
      clear c3
      by_cases c4 : (rdOf ByteArray.empty t104 0).toList = ([97] : List UInt8)
      · rw [if_pos c4] at H
        have c4b0 : ((rdOf ByteArray.empty t104 0).toList == ([97] : List UInt8)) = true := beq_iff_eq.mpr c4
        have c4b1 : ((rdOf ByteArray.empty t104 0).toList != ([97] : List UInt8)) = false := bne_eq_false_iff_eq.mpr c4
        clear c4
        by_cases c5 : 1 < (t104.length : Int)
        · rw [if_pos c5] at H
          have c5b0 : decide (1 < (t104.length : Int)) = true := decide_eq_true c5
          have c5b1 : decide (1 < t104.length) = true := decide_eq_true (by omega)
          clear c5
          obtain rfl := Option.some.inj H
          go_enter Tryd.func4, Tryd.ntmps4
          go_wp2_with (first | ((with_reducible refine gate_dst (N := 5) rfl ?_); refine Kd.R_lit k26 _ 26 ?hg (N := 5) ?hd (xs := ([(⟨3, (⟨#[98]⟩ : ByteArray)⟩ : S26), (⟨0, (⟨#[]⟩ : ByteArray)⟩ : S26), (⟨2, (⟨#[97]⟩ : ByteArray)⟩ : S26)] : List (S26))) (inner := [.int .u32 3, .string (⟨#[98]⟩ : ByteArray), .int .u32 0, .string (⟨#[]⟩ : ByteArray), .int .u32 2, .string (⟨#[97]⟩ : ByteArray)]) (ok := fun _ => True) (okp := fun _ => True) ?hr ?hp (fun _ hk => hk) trivial (Below.refl _ _) (Nat.le_refl _) (by simp) ?_; (case hd => rfl); (case hg => rfl); (case hr => first | (go_simp; done) | (go_simp; rfl)); (case hp => exact (Reps.c2 (show Kd.M k26 _ _ _ (⟨3, (⟨#[98]⟩ : ByteArray)⟩ : S26) [.int .u32 3, .string (⟨#[98]⟩ : ByteArray)] from (k26_mkM _ _ _ (⟨3, (⟨#[98]⟩ : ByteArray)⟩ : S26) )) (Reps.c2 (show Kd.M k26 _ _ _ (⟨0, (⟨#[]⟩ : ByteArray)⟩ : S26) [.int .u32 0, .string (⟨#[]⟩ : ByteArray)] from (k26_mkM _ _ _ (⟨0, (⟨#[]⟩ : ByteArray)⟩ : S26) )) (Reps.c2 (show Kd.M k26 _ _ _ (⟨2, (⟨#[97]⟩ : ByteArray)⟩ : S26) [.int .u32 2, .string (⟨#[97]⟩ : ByteArray)] from (k26_mkM _ _ _ (⟨2, (⟨#[97]⟩ : ByteArray)⟩ : S26) )) (Reps.none _ _))))); intro v102 w6 ho7 hb hg_ hnew_; clear hg_ hnew_; (first | rw [← Ny101.out] at ho7 | (simp only [Int.reduceToNat] at ho7; rw [← Ny101.out] at ho7)); have n0_ := Aside0.mk (Kd.R_lower ho7 (below_size (by repeat (first | (with_reducible first | exact HB.out | apply below_alloc | apply pw_below_drewN | apply below_drew1) | exact HB.out)))); have n1_ := Aside0.mk (below_step (by repeat (first | (with_reducible first | exact HB.out | apply below_alloc | apply pw_below_drewN | apply below_drew1) | exact HB.out)) hb); clear HB; have HO103 := n0_; have HB := n1_; clear n0_ n1_; clear hb ho7; obtain ⟨Ao8, co8, eo8⟩ := Kd.R_slice HO103.out; subst eo8) | ((with_reducible refine gate_callee (f := 7) rfl ?_); refine goesL_ (some 6) rfl rfl Tryd.func7 (by kernel_rfl) rfl #[.slice Ao8 y101.length co8] rfl (by (try simp only [List.map_toArray, List.map_cons, List.map_nil]); first | done | rfl | (simp only [List.length_drop, List.length_take]; rfl)) ?_; (with_reducible refine (dirent_Names.calls _ _ y101 t104 _ ?side1 ?side2 A1.out).mono ?_); (case side1 => repeat (first | exact (Kd.R_reads' HO103.out).2.2 | (with_reducible refine Kd.C_alloc ?_ _) | (with_reducible refine Kd.C_drewN ?_ _) | (with_reducible refine Kd.C_drew ?_))); (case side2 => exact (Kd.R_reads' HO103.out).2.1); rintro e w9 ⟨v105, rfl, ho0, hb⟩; refine ⟨_, rfl, ?_⟩; have n0_ := Aside0.mk (Kd.R_below (by (with_reducible repeat (first | apply Kd.R_alloc | apply Kd.R_drewN | apply Kd.R_drew)); exact HO103.out) hb); have n1_ := Aside0.mk (Kd.R_lower ho0 (below_size (by repeat (first | (with_reducible first | exact HB.out | apply below_alloc | apply pw_below_drewN | apply below_drew1) | exact HB.out)))); have n2_ := Aside0.mk (below_step (by repeat (first | (with_reducible first | exact HB.out | apply below_alloc | apply pw_below_drewN | apply below_drew1) | exact HB.out)) hb); clear HO103; clear HB; have HO103 := n0_; have HO106 := n1_; have HB := n2_; clear n0_ n1_ n2_; (try clear hb); (try clear hb2); (try clear hk); (try clear hi); (try clear ho0); obtain ⟨Ao10, co10, eo10⟩ := Kd.R_slice HO106.out; subst eo10; have p107 : 0 ≤ (0 : Int) := (by omega); have q107 : 0 < (t104.length : Int) := of_decide_eq_true (by first | (with_reducible assumption) | assumption); obtain ⟨ad107, e107, hx107_0⟩ := Kd.at_string (Kd.R_reads' HO106.out).2.2 0 p107 q107; cases e107; have qi107 : (0 < t104.length) = True := eq_true (by omega); (try rw [show ((0 : Int)).toNat = 0 from rfl] at hx107_0); (try rw [Addr.add_zero'] at hx107_0); replace p107 := eq_true p107; replace q107 := eq_true q107; have p108 : 0 ≤ (1 : Int) := (by omega); have q108 : 1 < (t104.length : Int) := of_decide_eq_true (by first | (with_reducible assumption) | assumption); obtain ⟨ad108, e108, hx108_0⟩ := Kd.at_string (Kd.R_reads' HO106.out).2.2 1 p108 q108; obtain rfl : ad107 = ad108 := (by injection e108); (try simp only [show (1 : Int).toNat = 1 from rfl, Nat.reduceMul, Nat.reduceEqDiff, Go.Addr.add, ↓reduceIte] at hx108_0); have qi108 : (1 < t104.length) = True := eq_true (by omega); (try rw [show ((1 : Int)).toNat = 1 from rfl] at hx108_0); replace p108 := eq_true p108; replace q108 := eq_true q108))
          go_ret
          exact ⟨by first | rfl | (simp [errW_none, errW_some] <;> rfl) | (simp [*, errW_none, errW_some] <;> rfl), by repeat (first | (with_reducible first | exact HB.out | apply below_alloc | apply pw_below_drewN | apply below_drew1) | exact HB.out)⟩
        · rw [if_neg c5] at H
          exact absurd H (by simp)
      · rw [if_neg c4] at H
        have c4b0 : ((rdOf ByteArray.empty t104 0).toList == ([97] : List UInt8)) = false := beq_eq_false_iff_ne.mpr c4
        have c4b1 : ((rdOf ByteArray.empty t104 0).toList != ([97] : List UInt8)) = true := bne_iff_ne.mpr c4
        obtain rfl := Option.some.inj H
        go_enter Tryd.func4, Tryd.ntmps4
        go_wp2_with (first | ((with_reducible refine gate_dst (N := 5) rfl ?_); refine Kd.R_lit k26 _ 26 ?hg (N := 5) ?hd (xs := ([(⟨3, (⟨#[98]⟩ : ByteArray)⟩ : S26), (⟨0, (⟨#[]⟩ : ByteArray)⟩ : S26), (⟨2, (⟨#[97]⟩ : ByteArray)⟩ : S26)] : List (S26))) (inner := [.int .u32 3, .string (⟨#[98]⟩ : ByteArray), .int .u32 0, .string (⟨#[]⟩ : ByteArray), .int .u32 2, .string (⟨#[97]⟩ : ByteArray)]) (ok := fun _ => True) (okp := fun _ => True) ?hr ?hp (fun _ hk => hk) trivial (Below.refl _ _) (Nat.le_refl _) (by simp) ?_; (case hd => rfl); (case hg => rfl); (case hr => first | (go_simp; done) | (go_simp; rfl)); (case hp => exact (Reps.c2 (show Kd.M k26 _ _ _ (⟨3, (⟨#[98]⟩ : ByteArray)⟩ : S26) [.int .u32 3, .string (⟨#[98]⟩ : ByteArray)] from (k26_mkM _ _ _ (⟨3, (⟨#[98]⟩ : ByteArray)⟩ : S26) )) (Reps.c2 (show Kd.M k26 _ _ _ (⟨0, (⟨#[]⟩ : ByteArray)⟩ : S26) [.int .u32 0, .string (⟨#[]⟩ : ByteArray)] from (k26_mkM _ _ _ (⟨0, (⟨#[]⟩ : ByteArray)⟩ : S26) )) (Reps.c2 (show Kd.M k26 _ _ _ (⟨2, (⟨#[97]⟩ : ByteArray)⟩ : S26) [.int .u32 2, .string (⟨#[97]⟩ : ByteArray)] from (k26_mkM _ _ _ (⟨2, (⟨#[97]⟩ : ByteArray)⟩ : S26) )) (Reps.none _ _))))); intro v102 w11 ho12 hb hg_ hnew_; clear hg_ hnew_; (first | rw [← Ny101.out] at ho12 | (simp only [Int.reduceToNat] at ho12; rw [← Ny101.out] at ho12)); have n0_ := Aside0.mk (Kd.R_lower ho12 (below_size (by repeat (first | (with_reducible first | exact HB.out | apply below_alloc | apply pw_below_drewN | apply below_drew1) | exact HB.out)))); have n1_ := Aside0.mk (below_step (by repeat (first | (with_reducible first | exact HB.out | apply below_alloc | apply pw_below_drewN | apply below_drew1) | exact HB.out)) hb); clear HB; have HO103 := n0_; have HB := n1_; clear n0_ n1_; clear hb ho12; obtain ⟨Ao13, co13, eo13⟩ := Kd.R_slice HO103.out; subst eo13) | ((with_reducible refine gate_callee (f := 7) rfl ?_); refine goesL_ (some 6) rfl rfl Tryd.func7 (by kernel_rfl) rfl #[.slice Ao13 y101.length co13] rfl (by (try simp only [List.map_toArray, List.map_cons, List.map_nil]); first | done | rfl | (simp only [List.length_drop, List.length_take]; rfl)) ?_; (with_reducible refine (dirent_Names.calls _ _ y101 t104 _ ?side1 ?side2 A1.out).mono ?_); (case side1 => repeat (first | exact (Kd.R_reads' HO103.out).2.2 | (with_reducible refine Kd.C_alloc ?_ _) | (with_reducible refine Kd.C_drewN ?_ _) | (with_reducible refine Kd.C_drew ?_))); (case side2 => exact (Kd.R_reads' HO103.out).2.1); rintro e w14 ⟨v105, rfl, ho0, hb⟩; refine ⟨_, rfl, ?_⟩; have n0_ := Aside0.mk (Kd.R_below (by (with_reducible repeat (first | apply Kd.R_alloc | apply Kd.R_drewN | apply Kd.R_drew)); exact HO103.out) hb); have n1_ := Aside0.mk (Kd.R_lower ho0 (below_size (by repeat (first | (with_reducible first | exact HB.out | apply below_alloc | apply pw_below_drewN | apply below_drew1) | exact HB.out)))); have n2_ := Aside0.mk (below_step (by repeat (first | (with_reducible first | exact HB.out | apply below_alloc | apply pw_below_drewN | apply below_drew1) | exact HB.out)) hb); clear HO103; clear HB; have HO103 := n0_; have HO106 := n1_; have HB := n2_; clear n0_ n1_ n2_; (try clear hb); (try clear hb2); (try clear hk); (try clear hi); (try clear ho0); obtain ⟨Ao15, co15, eo15⟩ := Kd.R_slice HO106.out; subst eo15; have p107 : 0 ≤ (0 : Int) := (by omega); have q107 : 0 < (t104.length : Int) := of_decide_eq_true (by first | (with_reducible assumption) | assumption); obtain ⟨ad107, e107, hx107_0⟩ := Kd.at_string (Kd.R_reads' HO106.out).2.2 0 p107 q107; cases e107; have qi107 : (0 < t104.length) = True := eq_true (by omega); (try rw [show ((0 : Int)).toNat = 0 from rfl] at hx107_0); (try rw [Addr.add_zero'] at hx107_0); replace p107 := eq_true p107; replace q107 := eq_true q107))
        go_ret
        exact ⟨by first | rfl | (simp [errW_none, errW_some] <;> rfl) | (simp [*, errW_none, errW_some] <;> rfl), by repeat (first | (with_reducible first | exact HB.out | apply below_alloc | apply pw_below_drewN | apply below_drew1) | exact HB.out)⟩
    · rw [if_neg c3] at H
      exact absurd H (by simp)
  · rw [if_neg c2] at H
    have c2b0 : ((t104.length : Int) == 2) = false := beq_eq_false_iff_ne.mpr c2
    have c2b1 : ((t104.length : Int) != 2) = true := bne_iff_ne.mpr c2
    obtain rfl := Option.some.inj H
    go_enter Tryd.func4, Tryd.ntmps4
    go_wp2_with (first | ((with_reducible refine gate_dst (N := 5) rfl ?_); refine Kd.R_lit k26 _ 26 ?hg (N := 5) ?hd (xs := ([(⟨3, (⟨#[98]⟩ : ByteArray)⟩ : S26), (⟨0, (⟨#[]⟩ : ByteArray)⟩ : S26), (⟨2, (⟨#[97]⟩ : ByteArray)⟩ : S26)] : List (S26))) (inner := [.int .u32 3, .string (⟨#[98]⟩ : ByteArray), .int .u32 0, .string (⟨#[]⟩ : ByteArray), .int .u32 2, .string (⟨#[97]⟩ : ByteArray)]) (ok := fun _ => True) (okp := fun _ => True) ?hr ?hp (fun _ hk => hk) trivial (Below.refl _ _) (Nat.le_refl _) (by simp) ?_; (case hd => rfl); (case hg => rfl); (case hr => first | (go_simp; done) | (go_simp; rfl)); (case hp => exact (Reps.c2 (show Kd.M k26 _ _ _ (⟨3, (⟨#[98]⟩ : ByteArray)⟩ : S26) [.int .u32 3, .string (⟨#[98]⟩ : ByteArray)] from (k26_mkM _ _ _ (⟨3, (⟨#[98]⟩ : ByteArray)⟩ : S26) )) (Reps.c2 (show Kd.M k26 _ _ _ (⟨0, (⟨#[]⟩ : ByteArray)⟩ : S26) [.int .u32 0, .string (⟨#[]⟩ : ByteArray)] from (k26_mkM _ _ _ (⟨0, (⟨#[]⟩ : ByteArray)⟩ : S26) )) (Reps.c2 (show Kd.M k26 _ _ _ (⟨2, (⟨#[97]⟩ : ByteArray)⟩ : S26) [.int .u32 2, .string (⟨#[97]⟩ : ByteArray)] from (k26_mkM _ _ _ (⟨2, (⟨#[97]⟩ : ByteArray)⟩ : S26) )) (Reps.none _ _))))); intro v102 w16 ho17 hb hg_ hnew_; clear hg_ hnew_; (first | rw [← Ny101.out] at ho17 | (simp only [Int.reduceToNat] at ho17; rw [← Ny101.out] at ho17)); have n0_ := Aside0.mk (Kd.R_lower ho17 (below_size (by repeat (first | (with_reducible first | exact HB.out | apply below_alloc | apply pw_below_drewN | apply below_drew1) | exact HB.out)))); have n1_ := Aside0.mk (below_step (by repeat (first | (with_reducible first | exact HB.out | apply below_alloc | apply pw_below_drewN | apply below_drew1) | exact HB.out)) hb); clear HB; have HO103 := n0_; have HB := n1_; clear n0_ n1_; clear hb ho17; obtain ⟨Ao18, co18, eo18⟩ := Kd.R_slice HO103.out; subst eo18) | ((with_reducible refine gate_callee (f := 7) rfl ?_); refine goesL_ (some 6) rfl rfl Tryd.func7 (by kernel_rfl) rfl #[.slice Ao18 y101.length co18] rfl (by (try simp only [List.map_toArray, List.map_cons, List.map_nil]); first | done | rfl | (simp only [List.length_drop, List.length_take]; rfl)) ?_; (with_reducible refine (dirent_Names.calls _ _ y101 t104 _ ?side1 ?side2 A1.out).mono ?_); (case side1 => repeat (first | exact (Kd.R_reads' HO103.out).2.2 | (with_reducible refine Kd.C_alloc ?_ _) | (with_reducible refine Kd.C_drewN ?_ _) | (with_reducible refine Kd.C_drew ?_))); (case side2 => exact (Kd.R_reads' HO103.out).2.1); rintro e w19 ⟨v105, rfl, ho0, hb⟩; refine ⟨_, rfl, ?_⟩; have n0_ := Aside0.mk (Kd.R_below (by (with_reducible repeat (first | apply Kd.R_alloc | apply Kd.R_drewN | apply Kd.R_drew)); exact HO103.out) hb); have n1_ := Aside0.mk (Kd.R_lower ho0 (below_size (by repeat (first | (with_reducible first | exact HB.out | apply below_alloc | apply pw_below_drewN | apply below_drew1) | exact HB.out)))); have n2_ := Aside0.mk (below_step (by repeat (first | (with_reducible first | exact HB.out | apply below_alloc | apply pw_below_drewN | apply below_drew1) | exact HB.out)) hb); clear HO103; clear HB; have HO103 := n0_; have HO106 := n1_; have HB := n2_; clear n0_ n1_ n2_; (try clear hb); (try clear hb2); (try clear hk); (try clear hi); (try clear ho0); obtain ⟨Ao20, co20, eo20⟩ := Kd.R_slice HO106.out; subst eo20))
    go_ret
    exact ⟨by first | rfl | (simp [errW_none, errW_some] <;> rfl) | (simp [*, errW_none, errW_some] <;> rfl), by repeat (first | (with_reducible first | exact HB.out | apply below_alloc | apply pw_below_drewN | apply below_drew1) | exact HB.out)⟩

-- NOT PRINTED: function 8 (cursor_Read)


/-! ### names_Check: function 13 (of this session's own) -/
def names_Check.f (a0 : ByteArray) : Option (Int) := some (chkS a0)
set_option maxHeartbeats 4000000 in
set_option maxRecDepth 100000 in
theorem names_Check.calls (a0 : ByteArray) (r : Int) (w : World) (h : names_Check.f a0 = some r) (hgt : GT w) :
    Calls Tryd.prog 13 #[.string a0] w fun e w' => e = .returned (.int .i64 r) ∧ Below w.heap.size w w' := by
  have hr : chkS a0 = r := Option.some.inj h
  clear h
  by_cases e1 : a0.toList = []
  · have b1 : (a0.toList == ([] : List UInt8)) = true := by simp [e1]
    rw [chkS, if_pos (.inl e1)] at hr
    subst hr
    clear e1
    go_enter Tryd.func13, Tryd.ntmps13
    go_wp2
    go_ret
    exact ⟨rfl, Below.refl _ _⟩
  have b1 : (a0.toList == ([] : List UInt8)) = false := by simp [e1]
  by_cases e2 : a0.toList = [46]
  · have b2 : (a0.toList == ([46] : List UInt8)) = true := by simp [e2]
    rw [chkS, if_pos (.inr (.inl e2))] at hr
    subst hr
    clear e1 e2
    go_enter Tryd.func13, Tryd.ntmps13
    go_wp2
    go_ret
    exact ⟨rfl, Below.refl _ _⟩
  have b2 : (a0.toList == ([46] : List UInt8)) = false := by simp [e2]
  by_cases e3 : a0.toList = [46, 46]
  · have b3 : (a0.toList == ([46, 46] : List UInt8)) = true := by simp [e3]
    rw [chkS, if_pos (.inr (.inr e3))] at hr
    subst hr
    clear e1 e2 e3
    go_enter Tryd.func13, Tryd.ntmps13
    go_wp2
    go_ret
    exact ⟨rfl, Below.refl _ _⟩
  have b3 : (a0.toList == ([46, 46] : List UInt8)) = false := by simp [e3]
  rw [chkS, if_neg (by rintro (h | h | h); exact e1 h; exact e2 h; exact e3 h)] at hr
  clear e1 e2 e3
  by_cases c : 24 < a0.size
  · rw [if_pos c] at hr
    subst hr
    have cI : (24 : Int) < (a0.size : Int) := by omega
    clear c
    go_enter Tryd.func13, Tryd.ntmps13
    go_wp2
    go_ret
    exact ⟨rfl, Below.refl _ _⟩
  rw [if_neg c] at hr
  have cI : (a0.size : Int) ≤ 24 := by omega
  have HR := Lib.hid hr
  have HG := Lib.hid hgt
  clear c hr hgt
  cases hv : allF a0 a0.size 0 with
  | false =>
    rw [hv, if_pos rfl] at HR
    go_enter Tryd.func13, Tryd.ntmps13
    go_wp2_with fail
    refine (Valid_any a0 w (by omega) HG.out).mono ?_
    rw [hv]
    rintro e w1 ⟨rfl, hb⟩
    have HB := Lib.hid hb
    clear hb
    go_wp2_with fail
    go_ret
    exact ⟨by rw [← HR.out]; rfl, HB.out⟩
  | true =>
    rw [hv, if_neg (by simp)] at HR
    go_enter Tryd.func13, Tryd.ntmps13
    go_wp2_with fail
    refine (Valid_any a0 w (by omega) HG.out).mono ?_
    rw [hv]
    rintro e w1 ⟨rfl, hb⟩
    have HB := Lib.hid hb
    clear hb hv
    go_wp2_with fail
    go_loopw [2] (fun v wr => v = .int .i64 0 ∧ ∃ pos b : Nat, wr = w1.iter a0 pos ∧ a0.size ≤ pos + b ∧ Hid ((runesF a0 b pos).any badR = (runes a0).any badR)) (fun _ wr => a0.size - wr.iterPos w1.heap.size)
    case atStart => exact ⟨rfl, 0, a0.size, rfl, by omega, Lib.hid rfl⟩
    case round =>
      obtain ⟨rfl, pos, b, rfl, hpb, HE⟩ := hrel
      have BI : Hid (Below w.heap.size w (w1.iter a0 pos)) := Lib.hid (bl_seq_ HB.out (below_alloc (Below.refl _ _) _))
      by_cases hp : pos < a0.size
      · have hnx : ∀ ty, (Instr.next (.pointer (some ⟨w1.heap.size, 0, none⟩)) true ty).run Tryd.prog (w1.iter a0 pos) = _ := fun ty => run_next_any w1 a0 pos ty hp
        have hwd := Lib.decode_width_pos a0 pos hp
        have hst := runesF_step a0 b pos hp hpb
        obtain ⟨x, hx⟩ : ∃ x, (Utf8.decode a0 pos).1 = x := ⟨_, rfl⟩
        obtain ⟨wd, hwd0⟩ : ∃ wd, (Utf8.decode a0 pos).2 = wd := ⟨_, rfl⟩
        rw [hx, hwd0] at hnx hst
        rw [hwd0] at hwd
        have HST := Lib.hid hst
        clear hst hx hwd0
        by_cases d1 : x = 47
        · have f1 : ((x : Int) == 47) = true := by simp [d1]
          have HA : Hid ((runes a0).any badR = true) := Lib.hid (by rw [← HE.out, HST.out, List.any_cons]; simp [badR, d1])
          rw [HA.out, if_pos rfl] at HR
          clear HST HE
          go_wp2
          go_ret
          exact ⟨by rw [← HR.out]; rfl, (bl_seq_ HB.out (below_alloc (Below.refl _ _) _))⟩
        have f1 : ((x : Int) == 47) = false := by simp; omega
        by_cases d2 : x < 32
        · have f2 : decide ((x : Int) < 32) = true := by simp; omega
          have f2n : decide (x < 32) = true := by simp [d2]
          have HA : Hid ((runes a0).any badR = true) := Lib.hid (by rw [← HE.out, HST.out, List.any_cons]; simp [badR, d2])
          rw [HA.out, if_pos rfl] at HR
          clear HST HE
          go_wp2
          go_ret
          exact ⟨by rw [← HR.out]; rfl, (bl_seq_ HB.out (below_alloc (Below.refl _ _) _))⟩
        have f2 : decide ((x : Int) < 32) = false := by simp; omega
        have f2n : decide (x < 32) = false := by simp; omega
        by_cases d3 : x = 127
        · have f3 : ((x : Int) == 127) = true := by simp [d3]
          have HA : Hid ((runes a0).any badR = true) := Lib.hid (by rw [← HE.out, HST.out, List.any_cons]; simp [badR, d3])
          rw [HA.out, if_pos rfl] at HR
          clear HST HE
          go_wp2
          go_ret
          exact ⟨by rw [← HR.out]; rfl, (bl_seq_ HB.out (below_alloc (Below.refl _ _) _))⟩
        have f3 : ((x : Int) == 127) = false := by simp; omega
        have HN : Hid ((runesF a0 b (pos + wd)).any badR = (runes a0).any badR) := Lib.hid (by
          have h_ := HE.out
          rw [HST.out, List.any_cons] at h_
          rw [← h_]
          simp [badR, d1, d2, d3])
        clear HST HE d1 d2 d3
        go_wp2
        go_roundw
        case rel => exact ⟨rfl, pos + wd, b, rfl, by omega, HN⟩
        case measure => simp; omega
      · have hnx : ∀ ty, (Instr.next (.pointer (some ⟨w1.heap.size, 0, none⟩)) true ty).run Tryd.prog (w1.iter a0 pos) = _ := fun ty => run_next_end w1 a0 pos ty hp
        have HA : Hid ((runes a0).any badR = false) := Lib.hid (by rw [← HE.out, runesF_end a0 b pos hp]; rfl)
        rw [HA.out, if_neg (by simp)] at HR
        clear HE
        go_wp2
        go_ret
        exact ⟨by rw [← HR.out]; rfl, BI.out⟩

/-! ### dirent_Decode: function 5 (of this session's own) -/

/-! ### gabionref01_Num: function 14 -/
def gabionref01_Num.l0 : Nat → List Int → Int → Int → Int → Int → Int → Option (Int)
  | 0, _, _, _, _, _, _ => none
  | k + 1, x0, x1, x2, x7, x8, x9 => if x9 < x2 then (if 0 ≤ (wrap64 (x1 + x9)) then (if (wrap64 (x1 + x9)) < (x0.length : Int) then (gabionref01_Num.l0 k x0 x1 x2 (IntKind.u64.wrap (x7 + (IntKind.u64.wrap ((IntKind.u64.wrap (rd x0 (wrap64 (x1 + x9)))) * x8)))) (IntKind.u64.wrap (x8 * 256)) (wrap64 (x9 + 1))) else (none)) else (none)) else (some x7)
def gabionref01_Num.f (k : Nat) (l0 : List Int) (a1 : Int) (a2 : Int) : Option (Int) := gabionref01_Num.l0 k l0 a1 a2 0 1 0
theorem gabionref01_Num.mono_l : ∀ k, (∀ y0 y1 y2 y3 y4 y5, LeO (gabionref01_Num.l0 k y0 y1 y2 y3 y4 y5) (gabionref01_Num.l0 (k + 1) y0 y1 y2 y3 y4 y5))
  | 0 => fun _ _ _ _ _ _ r h => by simp [gabionref01_Num.l0] at h
  | k + 1 => by
    have ih0 := gabionref01_Num.mono_l k
    · intro y0 y1 y2 y3 y4 y5
      unfold gabionref01_Num.l0
      repeat' first
      | (with_reducible exact ih0 _ _ _ _ _ _)
      | (with_reducible exact LeO.refl _)
      | (with_reducible exact LeO.none _)
      | (with_reducible refine LeO.ite ?_ ?_)
      | (with_reducible refine LeO.bind ?_ (fun _ => ?_))
      | exact ih0 _ _ _ _ _ _
      | exact LeO.none _
      | refine LeO.ite ?_ ?_
      | refine LeO.bind ?_ (fun _ => ?_)
theorem gabionref01_Num.mono : ∀ a0 a1 a2 k, LeO (gabionref01_Num.f k a0 a1 a2) (gabionref01_Num.f (k + 1) a0 a1 a2) := by
  intro a0 a1 a2 k
  have ih0 := gabionref01_Num.mono_l k
  unfold gabionref01_Num.f
  repeat' first
      | (with_reducible exact ih0 _ _ _ _ _ _)
      | (with_reducible exact LeO.refl _)
      | (with_reducible exact LeO.none _)
      | (with_reducible refine LeO.ite ?_ ?_)
      | (with_reducible refine LeO.bind ?_ (fun _ => ?_))
      | exact ih0 _ _ _ _ _ _
      | exact LeO.none _
      | refine LeO.ite ?_ ?_
      | refine LeO.bind ?_ (fun _ => ?_)
set_option maxHeartbeats 8000000 in
set_option maxRecDepth 100000 in
theorem gabionref01_Num.calls (k : Nat) (A0 : Option Addr) (c0 : Nat) (l0 : List Int) (a1 : Int) (a2 : Int) (r : Int) (w : World) (hr0 : Kd.C (Kd.int .u8) w A0 l0.length l0) (hc0 : l0.length ≤ c0) (h : gabionref01_Num.f k l0 a1 a2 = some r) :
    Calls Tryd.prog 14 #[.slice A0 l0.length c0, .int .i64 a1, .int .i64 a2] w fun e w' => e = .returned (.int .u64 r) ∧ Drawn0 w w' := by
  have HR0 := Aside0.mk hr0
  have HC0 := Aside0.mk hc0
  clear hr0 hc0
  have H : (gabionref01_Num.l0 k l0 a1 a2 0 1 0) = some r := h
  clear h
  have H' := Aside0.mk H
  clear H
  go_enter Tryd.func14, Tryd.ntmps14
  go_wp2
  go_loopg [7, 8, 9] k (fun kq v7 v8 v9 w' => ∃ (x7_1 : Int) (x8_1 : Int) (x9_1 : Int), v7 = .int .u64 x7_1 ∧ v8 = .int .u64 x8_1 ∧ v9 = .int .i64 x9_1 ∧ Aside0 (gabionref01_Num.l0 kq l0 a1 a2 x7_1 x8_1 x9_1 = some r) ∧ Aside0 (kq ≤ k) ∧ Drawn0 w w')
  case atStart => exact ⟨(0), (1), (0), (by first | rfl | (simp; done) | (simp [*]; done)), (by first | rfl | (simp; done) | (simp [*]; done)), (by first | rfl | (simp; done) | (simp [*]; done)), H', ⟨Nat.le_refl _⟩, by repeat (first | exact Drawn0.refl _ | apply Drawn0.step)⟩
  case round =>
    clear H'
    try clear c1
    try clear p2
    obtain ⟨x7_1, x8_1, x9_1, rfl, rfl, rfl, HA, HK1, ⟨m1, rfl⟩⟩ := hrel
    cases gk with
    | zero => exact absurd HA.out (by simp [gabionref01_Num.l0])
    | succ k1 =>
      have H := HA.out
      clear HA
      simp only [gabionref01_Num.l0] at H
      by_cases c4 : x9_1 < a2
      · rw [if_pos c4] at H
        have c4b0 : decide (x9_1 < a2) = true := decide_eq_true c4
        clear c4
        obtain ⟨ji5, hji5⟩ : ∃ j_ : Int, (wrap64 (a1 + x9_1)) = j_ := ⟨_, rfl⟩
        replace H : (if 0 ≤ (ji5) then (if (ji5) < (l0.length : Int) then (gabionref01_Num.l0 k1 l0 a1 a2 (IntKind.u64.wrap (x7_1 + (IntKind.u64.wrap ((IntKind.u64.wrap (rd l0 (ji5))) * x8_1)))) (IntKind.u64.wrap (x8_1 * 256)) (wrap64 (x9_1 + 1))) else (none)) else (none)) = some r := by first | (rw [hji5] at H; exact H) | (simp only [hji5] at H ⊢; exact H)
        have hji5w : (IntKind.i64.wrap (a1 + x9_1)) = ji5 := (i64_w _).trans hji5
        by_cases c6 : 0 ≤ (ji5)
        · rw [if_pos c6] at H
          have c6b0 : decide (0 ≤ (ji5)) = true := decide_eq_true c6
          clear c6
          by_cases c7 : (ji5) < (l0.length : Int)
          · rw [if_pos c7] at H
            have c7b0 : decide ((ji5) < (l0.length : Int)) = true := decide_eq_true c7
            clear c7
            have H' := Aside0.mk H
            clear H
            have p116 : 0 ≤ ((ji5) : Int) := of_decide_eq_true (by first | (with_reducible assumption) | assumption)
            have q116 : (ji5) < (l0.length : Int) := of_decide_eq_true (by first | (with_reducible assumption) | assumption)
            obtain ⟨ad116, e116, hx116_0⟩ := Kd.at_int HR0.out (ji5) p116 q116
            cases e116
            replace p116 := eq_true p116
            replace q116 := eq_true q116
            go_wp2
            go_roundg k1
            case measure => have := HK1.out; omega
            case rel => exact ⟨(IntKind.u64.wrap (x7_1 + (IntKind.u64.wrap ((IntKind.u64.wrap (rd l0 (ji5))) * x8_1)))), (IntKind.u64.wrap (x8_1 * 256)), (wrap64 (x9_1 + 1)), (by first | rfl | (simp; done) | (simp only [← hji5] <;> (first | rfl | simp)) | (simp [*]; done)), (by first | rfl | (simp; done) | (simp [*]; done)), (by first | rfl | (simp; done) | (simp [*]; done)), H', ⟨by have := HK1.out; omega⟩, by repeat (first | exact Drawn0.refl _ | apply Drawn0.step)⟩
          · rw [if_neg c7] at H
            exact absurd H (by simp)
        · rw [if_neg c6] at H
          exact absurd H (by simp)
      · rw [if_neg c4] at H
        have c4b0 : decide (x9_1 < a2) = false := decide_eq_false c4
        clear c4
        obtain rfl := Option.some.inj H
        go_wp2
        go_ret
        exact ⟨by first | rfl | (simp; done) | (simp [*]; done), by repeat (first | exact Drawn0.refl _ | apply Drawn0.step)⟩

/-! ### gabionref01_IsZero: function 15 -/
def gabionref01_IsZero.l0 : Nat → List Int → Int → Option (Bool)
  | 0, _, _ => none
  | k + 1, x0, x3 => if x3 < (x0.length : Int) then (if 0 ≤ x3 then (if (rd x0 x3) = 0 then (gabionref01_IsZero.l0 k x0 (wrap64 (x3 + 1))) else (some false)) else (none)) else (some true)
def gabionref01_IsZero.f (k : Nat) (l0 : List Int) : Option (Bool) := gabionref01_IsZero.l0 k l0 0
theorem gabionref01_IsZero.mono_l : ∀ k, (∀ y0 y1, LeO (gabionref01_IsZero.l0 k y0 y1) (gabionref01_IsZero.l0 (k + 1) y0 y1))
  | 0 => fun _ _ r h => by simp [gabionref01_IsZero.l0] at h
  | k + 1 => by
    have ih0 := gabionref01_IsZero.mono_l k
    · intro y0 y1
      unfold gabionref01_IsZero.l0
      repeat' first
      | (with_reducible exact ih0 _ _)
      | (with_reducible exact LeO.refl _)
      | (with_reducible exact LeO.none _)
      | (with_reducible refine LeO.ite ?_ ?_)
      | (with_reducible refine LeO.bind ?_ (fun _ => ?_))
      | exact ih0 _ _
      | exact LeO.none _
      | refine LeO.ite ?_ ?_
      | refine LeO.bind ?_ (fun _ => ?_)
theorem gabionref01_IsZero.mono : ∀ a0 k, LeO (gabionref01_IsZero.f k a0) (gabionref01_IsZero.f (k + 1) a0) := by
  intro a0 k
  have ih0 := gabionref01_IsZero.mono_l k
  unfold gabionref01_IsZero.f
  repeat' first
      | (with_reducible exact ih0 _ _)
      | (with_reducible exact LeO.refl _)
      | (with_reducible exact LeO.none _)
      | (with_reducible refine LeO.ite ?_ ?_)
      | (with_reducible refine LeO.bind ?_ (fun _ => ?_))
      | exact ih0 _ _
      | exact LeO.none _
      | refine LeO.ite ?_ ?_
      | refine LeO.bind ?_ (fun _ => ?_)
set_option maxHeartbeats 8000000 in
set_option maxRecDepth 100000 in
theorem gabionref01_IsZero.calls (k : Nat) (A0 : Option Addr) (c0 : Nat) (l0 : List Int) (r : Bool) (w : World) (hr0 : Kd.C (Kd.int .u8) w A0 l0.length l0) (hc0 : l0.length ≤ c0) (h : gabionref01_IsZero.f k l0 = some r) :
    Calls Tryd.prog 15 #[.slice A0 l0.length c0] w fun e w' => e = .returned (.bool r) ∧ Drawn0 w w' := by
  have HR0 := Aside0.mk hr0
  have HC0 := Aside0.mk hc0
  clear hr0 hc0
  have H : (gabionref01_IsZero.l0 k l0 0) = some r := h
  clear h
  have H' := Aside0.mk H
  clear H
  go_enter Tryd.func15, Tryd.ntmps15
  go_wp2
  go_loopg [3] k (fun kq v3 w' => ∃ (x3_1 : Int), v3 = .int .i64 x3_1 ∧ Aside0 (gabionref01_IsZero.l0 kq l0 x3_1 = some r) ∧ Aside0 (kq ≤ k) ∧ Drawn0 w w')
  case atStart => exact ⟨(0), (by first | rfl | (simp; done) | (simp [*]; done)), H', ⟨Nat.le_refl _⟩, by repeat (first | exact Drawn0.refl _ | apply Drawn0.step)⟩
  case round =>
    clear H'
    try clear c1
    obtain ⟨x3_1, rfl, HA, HK1, ⟨m1, rfl⟩⟩ := hrel
    cases gk with
    | zero => exact absurd HA.out (by simp [gabionref01_IsZero.l0])
    | succ k1 =>
      have H := HA.out
      clear HA
      simp only [gabionref01_IsZero.l0] at H
      by_cases c2 : x3_1 < (l0.length : Int)
      · rw [if_pos c2] at H
        have c2b0 : decide (x3_1 < (l0.length : Int)) = true := decide_eq_true c2
        clear c2
        by_cases c3 : 0 ≤ x3_1
        · rw [if_pos c3] at H
          have c3b0 : decide (0 ≤ x3_1) = true := decide_eq_true c3
          clear c3
          by_cases c4 : (rd l0 x3_1) = 0
          · rw [if_pos c4] at H
            have c4b0 : ((rd l0 x3_1) == 0) = true := beq_iff_eq.mpr c4
            have c4b1 : ((rd l0 x3_1) != 0) = false := bne_eq_false_iff_eq.mpr c4
            clear c4
            have H' := Aside0.mk H
            clear H
            have p117 : 0 ≤ (x3_1 : Int) := of_decide_eq_true (by first | (with_reducible assumption) | assumption)
            have q117 : x3_1 < (l0.length : Int) := of_decide_eq_true (by first | (with_reducible assumption) | assumption)
            obtain ⟨ad117, e117, hx117_0⟩ := Kd.at_int HR0.out x3_1 p117 q117
            cases e117
            replace p117 := eq_true p117
            replace q117 := eq_true q117
            go_wp2
            go_roundg k1
            case measure => have := HK1.out; omega
            case rel => exact ⟨(wrap64 (x3_1 + 1)), (by first | rfl | (simp; done) | (simp [*]; done)), H', ⟨by have := HK1.out; omega⟩, by repeat (first | exact Drawn0.refl _ | apply Drawn0.step)⟩
          · rw [if_neg c4] at H
            have c4b0 : ((rd l0 x3_1) == 0) = false := beq_eq_false_iff_ne.mpr c4
            have c4b1 : ((rd l0 x3_1) != 0) = true := bne_iff_ne.mpr c4
            obtain rfl := Option.some.inj H
            have p117 : 0 ≤ (x3_1 : Int) := of_decide_eq_true (by first | (with_reducible assumption) | assumption)
            have q117 : x3_1 < (l0.length : Int) := of_decide_eq_true (by first | (with_reducible assumption) | assumption)
            obtain ⟨ad117, e117, hx117_0⟩ := Kd.at_int HR0.out x3_1 p117 q117
            cases e117
            replace p117 := eq_true p117
            replace q117 := eq_true q117
            go_wp2
            go_ret
            exact ⟨by first | rfl | (simp; done) | (simp [*]; done), by repeat (first | exact Drawn0.refl _ | apply Drawn0.step)⟩
        · rw [if_neg c3] at H
          exact absurd H (by simp)
      · rw [if_neg c2] at H
        have c2b0 : decide (x3_1 < (l0.length : Int)) = false := decide_eq_false c2
        clear c2
        obtain rfl := Option.some.inj H
        go_wp2
        go_ret
        exact ⟨by first | rfl | (simp; done) | (simp [*]; done), by repeat (first | exact Drawn0.refl _ | apply Drawn0.step)⟩

end Go.Proofs.YtaomgddfkpcdhaaDoor.XDir
