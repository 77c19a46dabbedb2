/- For every row of writes, every list of failing blocks, every moment and all bytes left the law TopSealed of the given program returns true and leaves its argument as it was. No condition. -/
import Derived.Test.YtffalemndjampaaQbc
import Derived.Test.YtffalemndjampaaQbd
import Derived.SizedLaws
import Derived.ProofKit
import Derived.OpenShut
import Derived.ShutString
import Derived.ChangeOld
import Derived.Below
namespace Go.Proofs.Ytffalemndjampaa.lawTopSealed
open Go.ChangeShapes Go.WideShapes Go.ChangeAt Go.RowKit
open Go.ChangeMaps (open_string shut_string)
set_option linter.unusedVariables false

theorem own : ownKnob Try.prog.godebug = none := by kernel_rfl
theorem laidOut : laidOutB Try.prog = true := by kernel_rfl
set_option maxRecDepth 100000 in
theorem lifted (os : Os) (started : os.Started) (H : Type) (enc : TypeId × Value → H) :
    ReturnsInHanded {} Try.checked os 4 .any (Rows.topSealedSpec.pre6 enc Try.prog Try.f4 Rows.topSealedRow.domain false) (Rows.topSealedSpec.post enc Try.prog Try.f4 false true false false) := by
  refine returnsInHanded_of_change_sized (C := Try.checked) own started (by kernel_rfl) Try.func4
    (ChangeSpec.witness6 (enc := enc) (C := Try.checked) false ⟨#[], #[.agg #[.slice none 0 0, .slice none 0 0, .int .i64 0, .slice none 0 0]], []⟩ 8 (by kernel_rfl) (by kernel_rfl) (by kernel_rfl) (by kernel_rfl)) ?_
  intro W base args ds gs before hval0 hW hcnd hsz0 _
  have hsz : (DataW.weightsEach Try.prog (Try.f4.params.toList ++ Rows.topSealedSpec.plain.varTypes Try.prog) (ds ++ gs)).all (· ≤ reachBytes) = true := hsz0
  have hval : ∀ (j : Nat) t v, Try.f4.params[j]? = some t → args[j]? = some v → Value.okWide Try.prog W .any base t v := hval0
  have hW' := hW
  obtain ⟨p, q, hA0, hV, rfl, hfz, hnd⟩ := hW
  have hA : DataW.TrodAll enc Try.prog W 0 (fun _ => true) true Try.f4.params.toList args.toList ds p := hA0
  rw [Try.params4] at hA hval hsz
  obtain ⟨v0, vs0, d0, ds0, p0, q0, hargs, rfl, rfl, h0, r0⟩ := trodAll_cons hA
  obtain ⟨rfl, rfl, rfl⟩ := trodAll_nil r0
  obtain rfl : args = #[v0] := by cases args; simp_all
  obtain ⟨rfl, rfl⟩ := trodVars_none hV
  have k0 := h0
  have lt0 : ∀ x ∈ p0, x.block < W.heap.size := by obtain ⟨m, hm⟩ := k0; exact DataW.trod_lt m _ _ _ hm
  have z0 := fits_each hsz
  have F0 := z0.1
  clear hsz hsz0 z0
  obtain ⟨cs0, rfl, hn0⟩ := okWide_struct Try.underlying48 (hval 0 48 v0 rfl rfl)
  obtain ⟨s0_0, s0_1, s0_2, s0_3, rfl⟩ := arr4 (hn0.trans (show Try.prog.cellsOf 48 = 4 from by kernel_rfl))
  obtain ⟨fu0, hf0⟩ := h0
  obtain ⟨_, fl0⟩ := op_struct Try.underlying48 hf0 F0
  obtain ⟨y0_0, g0_0, t0_0, f0_0⟩ := fl0 0 _ rfl
  obtain ⟨A0_0, n0_0, c0_0, rs0_0, e0_0, hl0_0, hm0_0, rd0_0⟩ := op_writes t0_0 f0_0
  have q0_0 : List.take (Try.prog.cellsOf 45) (List.drop 0 [_, _, _, _]) = _ := e0_0
  rw [show Try.prog.cellsOf 45 = 1 from by kernel_rfl] at q0_0
  simp at q0_0
  subst q0_0
  obtain ⟨y0_1, g0_1, t0_1, f0_1⟩ := fl0 1 _ rfl
  obtain ⟨A0_1, c0_1, xs0_1, e0_1, lc0_1, lb0_1, rd0_1, wf0_1⟩ := op_ints Try.underlying46 Try.underlying3 (by kernel_rfl) (B := 8) (by kernel_rfl) t0_1 f0_1
  have q0_1 : List.take (Try.prog.cellsOf 46) (List.drop 1 [_, _, _, _]) = _ := e0_1
  rw [show Try.prog.cellsOf 46 = 1 from by kernel_rfl] at q0_1
  simp at q0_1
  subst q0_1
  obtain ⟨y0_2, g0_2, t0_2, f0_2⟩ := fl0 2 _ rfl
  obtain ⟨a0_2, e0_2, wf0_2⟩ := op_int Try.underlying3 t0_2
  have q0_2 : List.take (Try.prog.cellsOf 3) (List.drop 2 [_, _, _, _]) = _ := e0_2
  rw [show Try.prog.cellsOf 3 = 1 from by kernel_rfl] at q0_2
  simp at q0_2
  subst q0_2
  obtain ⟨y0_3, g0_3, t0_3, f0_3⟩ := fl0 3 _ rfl
  obtain ⟨A0_3, c0_3, xs0_3, e0_3, lc0_3, lb0_3, rd0_3, wf0_3⟩ := op_ints Try.underlying27 Try.underlying5 (by kernel_rfl) (B := 1) (by kernel_rfl) t0_3 f0_3
  have q0_3 : List.take (Try.prog.cellsOf 27) (List.drop 3 [_, _, _, _]) = _ := e0_3
  rw [show Try.prog.cellsOf 27 = 1 from by kernel_rfl] at q0_3
  simp at q0_3
  subst q0_3
  have hmin : IntKind.i64.min = -9223372036854775808 := rfl
  have hmax : IntKind.i64.max = 9223372036854775807 := rfl
  have hmin2 : IntKind.u32.min = 0 := rfl
  have hmax2 : IntKind.u32.max = 4294967295 := rfl
  clear hA0 hval0
  refine (law_walk A0_0 A0_1 A0_3 n0_0 c0_0 xs0_1.length c0_1 xs0_3.length c0_3 a0_2 rs0_0 xs0_1 xs0_3 W hl0_0 rd0_0 rd0_1 rd0_3 (fun n hn => wf_u8 (wf0_3 n hn)) hm0_0 (by omega)).mono fun e W' ⟨he, bel⟩ => ?_
  subst he
  exact ⟨_, rfl, _, _, _, [], _, [], hW', trodAll_mk1 (shut_bool Try.underlying4 _), (trodAll_cons_mk (Below.trod laidOut (by kernel_rfl) (of_decide_eq_true (by kernel_rfl)) k0 bel lt0) trodAll_mk0), rfl, bel.frame _, fun h => by cases h⟩
theorem over : Rows.topSealedRow.holds Try.pinned (OpenSpec.ofChange Rows.topSealedSpec) :=
  OpenClaim.holds_of_wide 4 Try.f4 rfl rfl rfl rfl rfl rfl rfl ⟨rfl, rfl, rfl, rfl, rfl⟩ rfl rfl rfl rfl rfl (by kernel_rfl) Try.func4 (by kernel_rfl)
    (of_decide_eq_true (by kernel_rfl)) (by unfold Func.isWrapper; first | (rw [if_pos (by decide +kernel)]; kernel_rfl) | (rw [if_neg (by decide +kernel)]; exact ⟨rfl, rfl⟩))
    (fun os started H enc _ => lifted os started H enc)
theorem proved : Rows.TopSealedSaid := over
#print axioms proved
end Go.Proofs.Ytffalemndjampaa.lawTopSealed
