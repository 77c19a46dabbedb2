/- For every two headers and every list of bytes the law ParityOne of the given program returns true and leaves its arguments as they were. No condition. -/
import Derived.Test.YtkbjndfmbimjiaaPone
import Derived.Test.YtkbjndfmbimjiaaOpen
import Derived.SizedLaws
import Derived.ProofKit
import Derived.OpenShut
import Derived.ShutString
import Derived.ChangeOld
import Derived.Below
namespace Go.Proofs.Ytkbjndfmbimjiaa.lawParityOne
open Go.ChangeShapes Go.WideShapes Go.ChangeAt Go.RowKit
open Go.ChangeMaps (open_string shut_string)
set_option linter.unusedVariables false

theorem own : ownKnob Try.prog.godebug = none := by kernel_rfl
theorem laidOut : laidOutB Try.prog = true := by kernel_rfl
set_option maxRecDepth 100000 in
theorem lifted (os : Os) (started : os.Started) (H : Type) (enc : TypeId × Value → H) :
    ReturnsInHanded {} Try.checked os 8 .any (Rows.parityOneSpec.pre6 enc Try.prog Try.f8 Rows.parityOneRow.domain false) (Rows.parityOneSpec.post enc Try.prog Try.f8 false true false false) := by
  refine returnsInHanded_of_change_sized (C := Try.checked) own started (by kernel_rfl) Try.func8
    (ChangeSpec.witness6 (enc := enc) (C := Try.checked) false ⟨#[], #[.agg #[.int .u8 0, .int .u32 0, .int .u32 0, .int .u16 0, .int .u16 0, .int .u32 0, .int .u32 0], .agg #[.int .u8 0, .int .u32 0, .int .u32 0, .int .u16 0, .int .u16 0, .int .u32 0, .int .u32 0], .slice none 0 0], []⟩ 8 (by kernel_rfl) (by kernel_rfl) (by kernel_rfl) (by kernel_rfl)) ?_
  intro W base args ds gs before hval0 hW hcnd hsz0 _
  have hsz : (DataW.weightsEach Try.prog (Try.f8.params.toList ++ Rows.parityOneSpec.plain.varTypes Try.prog) (ds ++ gs)).all (· ≤ reachBytes) = true := hsz0
  have hval : ∀ (j : Nat) t v, Try.f8.params[j]? = some t → args[j]? = some v → Value.okWide Try.prog W .any base t v := hval0
  have hW' := hW
  obtain ⟨p, q, hA0, hV, rfl, hfz, hnd⟩ := hW
  have hA : DataW.TrodAll enc Try.prog W 0 (fun _ => true) true Try.f8.params.toList args.toList ds p := hA0
  rw [Try.params8] at hA hval hsz
  obtain ⟨v0, vs0, d0, ds0, p0, q0, hargs, rfl, rfl, h0, r0⟩ := trodAll_cons hA
  obtain ⟨v1, vs1, d1, ds1, p1, q1, rfl, rfl, rfl, h1, r1⟩ := trodAll_cons r0
  obtain ⟨v2, vs2, d2, ds2, p2, q2, rfl, rfl, rfl, h2, r2⟩ := trodAll_cons r1
  obtain ⟨rfl, rfl, rfl⟩ := trodAll_nil r2
  obtain rfl : args = #[v0, v1, v2] := by cases args; simp_all
  obtain ⟨rfl, rfl⟩ := trodVars_none hV
  have k0 := h0
  have lt0 : ∀ x ∈ p0, x.block < W.heap.size := by obtain ⟨m, hm⟩ := k0; exact DataW.trod_lt m _ _ _ hm
  have k1 := h1
  have lt1 : ∀ x ∈ p1, x.block < W.heap.size := by obtain ⟨m, hm⟩ := k1; exact DataW.trod_lt m _ _ _ hm
  have k2 := h2
  have lt2 : ∀ x ∈ p2, x.block < W.heap.size := by obtain ⟨m, hm⟩ := k2; exact DataW.trod_lt m _ _ _ hm
  have z0 := fits_each hsz
  have F0 := z0.1
  have z1 := fits_each z0.2
  have F1 := z1.1
  have z2 := fits_each z1.2
  have F2 := z2.1
  clear hsz hsz0 z0 z1 z2
  obtain ⟨cs0, rfl, hn0⟩ := okWide_struct Try.underlying35 (hval 0 35 v0 rfl rfl)
  obtain ⟨s0_0, s0_1, s0_2, s0_3, s0_4, s0_5, s0_6, rfl⟩ := arr7 (hn0.trans (show Try.prog.cellsOf 35 = 7 from by kernel_rfl))
  obtain ⟨fu0, hf0⟩ := h0
  obtain ⟨_, fl0⟩ := op_struct Try.underlying35 hf0 F0
  obtain ⟨y0_0, g0_0, t0_0, f0_0⟩ := fl0 0 _ rfl
  obtain ⟨a0_0, e0_0, wf0_0⟩ := op_int Try.underlying5 t0_0
  have q0_0 : List.take (Try.prog.cellsOf 5) (List.drop 0 [_, _, _, _, _, _, _]) = _ := e0_0
  rw [show Try.prog.cellsOf 5 = 1 from by kernel_rfl] at q0_0
  simp at q0_0
  subst q0_0
  obtain ⟨y0_1, g0_1, t0_1, f0_1⟩ := fl0 1 _ rfl
  obtain ⟨a0_1, e0_1, wf0_1⟩ := op_int Try.underlying32 t0_1
  have q0_1 : List.take (Try.prog.cellsOf 32) (List.drop 1 [_, _, _, _, _, _, _]) = _ := e0_1
  rw [show Try.prog.cellsOf 32 = 1 from by kernel_rfl] at q0_1
  simp at q0_1
  subst q0_1
  obtain ⟨y0_2, g0_2, t0_2, f0_2⟩ := fl0 2 _ rfl
  obtain ⟨a0_2, e0_2, wf0_2⟩ := op_int Try.underlying32 t0_2
  have q0_2 : List.take (Try.prog.cellsOf 32) (List.drop 2 [_, _, _, _, _, _, _]) = _ := e0_2
  rw [show Try.prog.cellsOf 32 = 1 from by kernel_rfl] at q0_2
  simp at q0_2
  subst q0_2
  obtain ⟨y0_3, g0_3, t0_3, f0_3⟩ := fl0 3 _ rfl
  obtain ⟨a0_3, e0_3, wf0_3⟩ := op_int Try.underlying33 t0_3
  have q0_3 : List.take (Try.prog.cellsOf 33) (List.drop 3 [_, _, _, _, _, _, _]) = _ := e0_3
  rw [show Try.prog.cellsOf 33 = 1 from by kernel_rfl] at q0_3
  simp at q0_3
  subst q0_3
  obtain ⟨y0_4, g0_4, t0_4, f0_4⟩ := fl0 4 _ rfl
  obtain ⟨a0_4, e0_4, wf0_4⟩ := op_int Try.underlying33 t0_4
  have q0_4 : List.take (Try.prog.cellsOf 33) (List.drop 4 [_, _, _, _, _, _, _]) = _ := e0_4
  rw [show Try.prog.cellsOf 33 = 1 from by kernel_rfl] at q0_4
  simp at q0_4
  subst q0_4
  obtain ⟨y0_5, g0_5, t0_5, f0_5⟩ := fl0 5 _ rfl
  obtain ⟨a0_5, e0_5, wf0_5⟩ := op_int Try.underlying32 t0_5
  have q0_5 : List.take (Try.prog.cellsOf 32) (List.drop 5 [_, _, _, _, _, _, _]) = _ := e0_5
  rw [show Try.prog.cellsOf 32 = 1 from by kernel_rfl] at q0_5
  simp at q0_5
  subst q0_5
  obtain ⟨y0_6, g0_6, t0_6, f0_6⟩ := fl0 6 _ rfl
  obtain ⟨a0_6, e0_6, wf0_6⟩ := op_int Try.underlying32 t0_6
  have q0_6 : List.take (Try.prog.cellsOf 32) (List.drop 6 [_, _, _, _, _, _, _]) = _ := e0_6
  rw [show Try.prog.cellsOf 32 = 1 from by kernel_rfl] at q0_6
  simp at q0_6
  subst q0_6
  obtain ⟨cs1, rfl, hn1⟩ := okWide_struct Try.underlying35 (hval 1 35 v1 rfl rfl)
  obtain ⟨s1_0, s1_1, s1_2, s1_3, s1_4, s1_5, s1_6, rfl⟩ := arr7 (hn1.trans (show Try.prog.cellsOf 35 = 7 from by kernel_rfl))
  obtain ⟨fu1, hf1⟩ := h1
  obtain ⟨_, fl1⟩ := op_struct Try.underlying35 hf1 F1
  obtain ⟨y1_0, g1_0, t1_0, f1_0⟩ := fl1 0 _ rfl
  obtain ⟨a1_0, e1_0, wf1_0⟩ := op_int Try.underlying5 t1_0
  have q1_0 : List.take (Try.prog.cellsOf 5) (List.drop 0 [_, _, _, _, _, _, _]) = _ := e1_0
  rw [show Try.prog.cellsOf 5 = 1 from by kernel_rfl] at q1_0
  simp at q1_0
  subst q1_0
  obtain ⟨y1_1, g1_1, t1_1, f1_1⟩ := fl1 1 _ rfl
  obtain ⟨a1_1, e1_1, wf1_1⟩ := op_int Try.underlying32 t1_1
  have q1_1 : List.take (Try.prog.cellsOf 32) (List.drop 1 [_, _, _, _, _, _, _]) = _ := e1_1
  rw [show Try.prog.cellsOf 32 = 1 from by kernel_rfl] at q1_1
  simp at q1_1
  subst q1_1
  obtain ⟨y1_2, g1_2, t1_2, f1_2⟩ := fl1 2 _ rfl
  obtain ⟨a1_2, e1_2, wf1_2⟩ := op_int Try.underlying32 t1_2
  have q1_2 : List.take (Try.prog.cellsOf 32) (List.drop 2 [_, _, _, _, _, _, _]) = _ := e1_2
  rw [show Try.prog.cellsOf 32 = 1 from by kernel_rfl] at q1_2
  simp at q1_2
  subst q1_2
  obtain ⟨y1_3, g1_3, t1_3, f1_3⟩ := fl1 3 _ rfl
  obtain ⟨a1_3, e1_3, wf1_3⟩ := op_int Try.underlying33 t1_3
  have q1_3 : List.take (Try.prog.cellsOf 33) (List.drop 3 [_, _, _, _, _, _, _]) = _ := e1_3
  rw [show Try.prog.cellsOf 33 = 1 from by kernel_rfl] at q1_3
  simp at q1_3
  subst q1_3
  obtain ⟨y1_4, g1_4, t1_4, f1_4⟩ := fl1 4 _ rfl
  obtain ⟨a1_4, e1_4, wf1_4⟩ := op_int Try.underlying33 t1_4
  have q1_4 : List.take (Try.prog.cellsOf 33) (List.drop 4 [_, _, _, _, _, _, _]) = _ := e1_4
  rw [show Try.prog.cellsOf 33 = 1 from by kernel_rfl] at q1_4
  simp at q1_4
  subst q1_4
  obtain ⟨y1_5, g1_5, t1_5, f1_5⟩ := fl1 5 _ rfl
  obtain ⟨a1_5, e1_5, wf1_5⟩ := op_int Try.underlying32 t1_5
  have q1_5 : List.take (Try.prog.cellsOf 32) (List.drop 5 [_, _, _, _, _, _, _]) = _ := e1_5
  rw [show Try.prog.cellsOf 32 = 1 from by kernel_rfl] at q1_5
  simp at q1_5
  subst q1_5
  obtain ⟨y1_6, g1_6, t1_6, f1_6⟩ := fl1 6 _ rfl
  obtain ⟨a1_6, e1_6, wf1_6⟩ := op_int Try.underlying32 t1_6
  have q1_6 : List.take (Try.prog.cellsOf 32) (List.drop 6 [_, _, _, _, _, _, _]) = _ := e1_6
  rw [show Try.prog.cellsOf 32 = 1 from by kernel_rfl] at q1_6
  simp at q1_6
  subst q1_6
  obtain ⟨a2, len2, cap2, rfl⟩ := okWide_slice Try.underlying24 (hval 2 24 v2 rfl rfl)
  obtain ⟨fu2, hf2⟩ := h2
  obtain ⟨A2, c2, xs2, e2, lc2, lb2, rd2, wf2⟩ := op_ints Try.underlying24 Try.underlying5 (by kernel_rfl) (B := 1) (by kernel_rfl) hf2 F2
  simp [Value.cells] at e2
  obtain ⟨rfl, rfl, rfl⟩ := e2
  have hmin : IntKind.i64.min = -9223372036854775808 := rfl
  have hmax : IntKind.i64.max = 9223372036854775807 := rfl
  have hmin2 : IntKind.u32.min = 0 := rfl
  have hmax2 : IntKind.u32.max = 4294967295 := rfl
  clear hA0 hval0
  refine (pone_walk ⟨a0_0, a0_1, a0_2, a0_3, a0_4, a0_5, a0_6⟩ ⟨a1_0, a1_1, a1_2, a1_3, a1_4, a1_5, a1_6⟩ a2 cap2 _ xs2 W (show Hd.ok ⟨a0_0, a0_1, a0_2, a0_3, a0_4, a0_5, a0_6⟩ from ⟨(wf_u8 wf0_0).1, (wf_u8 wf0_0).2, (wf_u32 wf0_1).1, (wf_u32 wf0_1).2, (wf_u32 wf0_2).1, (wf_u32 wf0_2).2, (wf_u16 wf0_3).1, (wf_u16 wf0_3).2, (wf_u16 wf0_4).1, (wf_u16 wf0_4).2, (wf_u32 wf0_5).1, (wf_u32 wf0_5).2, (wf_u32 wf0_6).1, (wf_u32 wf0_6).2⟩) (show Hd.ok ⟨a1_0, a1_1, a1_2, a1_3, a1_4, a1_5, a1_6⟩ from ⟨(wf_u8 wf1_0).1, (wf_u8 wf1_0).2, (wf_u32 wf1_1).1, (wf_u32 wf1_1).2, (wf_u32 wf1_2).1, (wf_u32 wf1_2).2, (wf_u16 wf1_3).1, (wf_u16 wf1_3).2, (wf_u16 wf1_4).1, (wf_u16 wf1_4).2, (wf_u32 wf1_5).1, (wf_u32 wf1_5).2, (wf_u32 wf1_6).1, (wf_u32 wf1_6).2⟩) rd2 lc2 (fun x h => wf_u8 (wf2 x h))).mono fun e W' ⟨he, bel⟩ => ?_
  subst he
  exact ⟨_, rfl, _, _, _, [], _, [], hW', trodAll_mk1 (shut_bool Try.underlying4 _), (trodAll_cons_mk (Below.trod laidOut (by kernel_rfl) (of_decide_eq_true (by kernel_rfl)) k0 bel lt0) (trodAll_cons_mk (Below.trod laidOut (by kernel_rfl) (of_decide_eq_true (by kernel_rfl)) k1 bel lt1) (trodAll_cons_mk (Below.trod laidOut (by kernel_rfl) (of_decide_eq_true (by kernel_rfl)) k2 bel lt2) trodAll_mk0))), rfl, bel.frame _, fun h => by cases h⟩
theorem over : Rows.parityOneRow.holds Try.pinned (OpenSpec.ofChange Rows.parityOneSpec) :=
  OpenClaim.holds_of_wide 8 Try.f8 rfl rfl rfl rfl rfl rfl rfl ⟨rfl, rfl, rfl, rfl, rfl⟩ rfl rfl rfl rfl rfl (by kernel_rfl) Try.func8 (by kernel_rfl)
    (of_decide_eq_true (by kernel_rfl)) (by unfold Func.isWrapper; first | (rw [if_pos (by decide +kernel)]; kernel_rfl) | (rw [if_neg (by decide +kernel)]; exact ⟨rfl, rfl⟩))
    (fun os started H enc _ => lifted os started H enc)
theorem proved : Rows.ParityOneSaid := over
#print axioms proved
end Go.Proofs.Ytkbjndfmbimjiaa.lawParityOne
