/- For every header the law RecordTells of the given program returns true and leaves its argument as it was. No condition. -/
import Derived.Test.YtkmfdnoklabndaaRtells
import Derived.Test.YtkmfdnoklabndaaOpen
import Derived.SizedLaws
import Derived.ProofKit
import Derived.OpenShut
import Derived.ShutString
import Derived.ChangeOld
import Derived.Below
namespace Go.Proofs.Ytkmfdnoklabndaa.lawRecordTells
open Go.ChangeShapes Go.WideShapes Go.ChangeAt Go.RowKit
open Go.ChangeMaps (open_string shut_string)
set_option linter.unusedVariables false

theorem own : ownKnob Try.prog.godebug = none := by kernel_rfl
theorem laidOut : laidOutB Try.prog = true := by kernel_rfl
set_option maxRecDepth 100000 in
theorem lifted (os : Os) (started : os.Started) (H : Type) (enc : TypeId × Value → H) :
    ReturnsInHanded {} Try.checked os 9 .any (Rows.recordTellsSpec.pre6 enc Try.prog Try.f9 Rows.recordTellsRow.domain false) (Rows.recordTellsSpec.post enc Try.prog Try.f9 false true false false) := by
  refine returnsInHanded_of_change_sized (C := Try.checked) own started (by kernel_rfl) Try.func9
    (ChangeSpec.witness6 (enc := enc) (C := Try.checked) false ⟨#[], #[.agg #[.int .u8 0, .int .u32 0, .int .u32 0, .int .u16 0, .int .u16 0, .int .u32 0, .int .u32 0]], []⟩ 8 (by kernel_rfl) (by kernel_rfl) (by kernel_rfl) (by kernel_rfl)) ?_
  intro W base args ds gs before hval0 hW hcnd hsz0 _
  have hsz : (DataW.weightsEach Try.prog (Try.f9.params.toList ++ Rows.recordTellsSpec.plain.varTypes Try.prog) (ds ++ gs)).all (· ≤ reachBytes) = true := hsz0
  have hval : ∀ (j : Nat) t v, Try.f9.params[j]? = some t → args[j]? = some v → Value.okWide Try.prog W .any base t v := hval0
  have hW' := hW
  obtain ⟨p, q, hA0, hV, rfl, hfz, hnd⟩ := hW
  have hA : DataW.TrodAll enc Try.prog W 0 (fun _ => true) true Try.f9.params.toList args.toList ds p := hA0
  rw [Try.params9] at hA hval hsz
  obtain ⟨v0, vs0, d0, ds0, p0, q0, hargs, rfl, rfl, h0, r0⟩ := trodAll_cons hA
  obtain ⟨rfl, rfl, rfl⟩ := trodAll_nil r0
  obtain rfl : args = #[v0] := by cases args; simp_all
  obtain ⟨rfl, rfl⟩ := trodVars_none hV
  have k0 := h0
  have lt0 : ∀ x ∈ p0, x.block < W.heap.size := by obtain ⟨m, hm⟩ := k0; exact DataW.trod_lt m _ _ _ hm
  have z0 := fits_each hsz
  have F0 := z0.1
  clear hsz hsz0 z0
  obtain ⟨cs0, rfl, hn0⟩ := okWide_struct Try.underlying25 (hval 0 25 v0 rfl rfl)
  obtain ⟨s0_0, s0_1, s0_2, s0_3, s0_4, s0_5, s0_6, rfl⟩ := arr7 (hn0.trans (show Try.prog.cellsOf 25 = 7 from by kernel_rfl))
  obtain ⟨fu0, hf0⟩ := h0
  obtain ⟨_, fl0⟩ := op_struct Try.underlying25 hf0 F0
  obtain ⟨y0_0, g0_0, t0_0, f0_0⟩ := fl0 0 _ rfl
  obtain ⟨a0_0, e0_0, wf0_0⟩ := op_int Try.underlying5 t0_0
  have q0_0 : List.take (Try.prog.cellsOf 5) (List.drop 0 [_, _, _, _, _, _, _]) = _ := e0_0
  rw [show Try.prog.cellsOf 5 = 1 from by kernel_rfl] at q0_0
  simp at q0_0
  subst q0_0
  obtain ⟨y0_1, g0_1, t0_1, f0_1⟩ := fl0 1 _ rfl
  obtain ⟨a0_1, e0_1, wf0_1⟩ := op_int Try.underlying22 t0_1
  have q0_1 : List.take (Try.prog.cellsOf 22) (List.drop 1 [_, _, _, _, _, _, _]) = _ := e0_1
  rw [show Try.prog.cellsOf 22 = 1 from by kernel_rfl] at q0_1
  simp at q0_1
  subst q0_1
  obtain ⟨y0_2, g0_2, t0_2, f0_2⟩ := fl0 2 _ rfl
  obtain ⟨a0_2, e0_2, wf0_2⟩ := op_int Try.underlying22 t0_2
  have q0_2 : List.take (Try.prog.cellsOf 22) (List.drop 2 [_, _, _, _, _, _, _]) = _ := e0_2
  rw [show Try.prog.cellsOf 22 = 1 from by kernel_rfl] at q0_2
  simp at q0_2
  subst q0_2
  obtain ⟨y0_3, g0_3, t0_3, f0_3⟩ := fl0 3 _ rfl
  obtain ⟨a0_3, e0_3, wf0_3⟩ := op_int Try.underlying23 t0_3
  have q0_3 : List.take (Try.prog.cellsOf 23) (List.drop 3 [_, _, _, _, _, _, _]) = _ := e0_3
  rw [show Try.prog.cellsOf 23 = 1 from by kernel_rfl] at q0_3
  simp at q0_3
  subst q0_3
  obtain ⟨y0_4, g0_4, t0_4, f0_4⟩ := fl0 4 _ rfl
  obtain ⟨a0_4, e0_4, wf0_4⟩ := op_int Try.underlying23 t0_4
  have q0_4 : List.take (Try.prog.cellsOf 23) (List.drop 4 [_, _, _, _, _, _, _]) = _ := e0_4
  rw [show Try.prog.cellsOf 23 = 1 from by kernel_rfl] at q0_4
  simp at q0_4
  subst q0_4
  obtain ⟨y0_5, g0_5, t0_5, f0_5⟩ := fl0 5 _ rfl
  obtain ⟨a0_5, e0_5, wf0_5⟩ := op_int Try.underlying22 t0_5
  have q0_5 : List.take (Try.prog.cellsOf 22) (List.drop 5 [_, _, _, _, _, _, _]) = _ := e0_5
  rw [show Try.prog.cellsOf 22 = 1 from by kernel_rfl] at q0_5
  simp at q0_5
  subst q0_5
  obtain ⟨y0_6, g0_6, t0_6, f0_6⟩ := fl0 6 _ rfl
  obtain ⟨a0_6, e0_6, wf0_6⟩ := op_int Try.underlying22 t0_6
  have q0_6 : List.take (Try.prog.cellsOf 22) (List.drop 6 [_, _, _, _, _, _, _]) = _ := e0_6
  rw [show Try.prog.cellsOf 22 = 1 from by kernel_rfl] at q0_6
  simp at q0_6
  subst q0_6
  have hmin : IntKind.i64.min = -9223372036854775808 := rfl
  have hmax : IntKind.i64.max = 9223372036854775807 := rfl
  have hmin2 : IntKind.u32.min = 0 := rfl
  have hmax2 : IntKind.u32.max = 4294967295 := rfl
  clear hA0 hval0
  refine (rtells_walk ⟨a0_0, a0_1, a0_2, a0_3, a0_4, a0_5, a0_6⟩ W (show Hd.ok ⟨a0_0, a0_1, a0_2, a0_3, a0_4, a0_5, a0_6⟩ from ⟨(wf_u8 wf0_0).1, (wf_u8 wf0_0).2, (wf_u32 wf0_1).1, (wf_u32 wf0_1).2, (wf_u32 wf0_2).1, (wf_u32 wf0_2).2, (wf_u16 wf0_3).1, (wf_u16 wf0_3).2, (wf_u16 wf0_4).1, (wf_u16 wf0_4).2, (wf_u32 wf0_5).1, (wf_u32 wf0_5).2, (wf_u32 wf0_6).1, (wf_u32 wf0_6).2⟩)).mono fun e W' ⟨he, bel⟩ => ?_
  subst he
  exact ⟨_, rfl, _, _, _, [], _, [], hW', trodAll_mk1 (shut_bool Try.underlying4 _), (trodAll_cons_mk (Below.trod laidOut (by kernel_rfl) (of_decide_eq_true (by kernel_rfl)) k0 bel lt0) trodAll_mk0), rfl, bel.frame _, fun h => by cases h⟩
theorem over : Rows.recordTellsRow.holds Try.pinned (OpenSpec.ofChange Rows.recordTellsSpec) :=
  OpenClaim.holds_of_wide 9 Try.f9 rfl rfl rfl rfl rfl rfl rfl ⟨rfl, rfl, rfl, rfl, rfl⟩ rfl rfl rfl rfl rfl (by kernel_rfl) Try.func9 (by kernel_rfl)
    (of_decide_eq_true (by kernel_rfl)) (by unfold Func.isWrapper; first | (rw [if_pos (by decide +kernel)]; kernel_rfl) | (rw [if_neg (by decide +kernel)]; exact ⟨rfl, rfl⟩))
    (fun os started H enc _ => lifted os started H enc)
theorem proved : Rows.RecordTellsSaid := over
#print axioms proved
end Go.Proofs.Ytkmfdnoklabndaa.lawRecordTells
