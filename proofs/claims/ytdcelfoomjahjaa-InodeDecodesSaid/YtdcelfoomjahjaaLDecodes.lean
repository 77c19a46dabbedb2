/- For every case the law InodeDecodes of the given program returns true and leaves its argument as it was. No condition. -/
import Derived.Test.YtdcelfoomjahjaaIdecs
import Derived.Test.YtdcelfoomjahjaaOpn
import Derived.Test.YtdcelfoomjahjaaFar
import Derived.SizedLaws
import Derived.ProofKit
import Derived.OpenShut
import Derived.ShutString
import Derived.ChangeOld
import Derived.Below
namespace Go.Proofs.Ytdcelfoomjahjaa.lawInodeDecodes
open Go.ChangeShapes Go.WideShapes Go.ChangeAt Go.RowKit
open Go.ChangeMaps (open_string shut_string)
set_option linter.unusedVariables false
theorem arr16 {cs : Array Value} (h : cs.size = 16) : ∃ c0 c1 c2 c3 c4 c5 c6 c7 c8 c9 c10 c11 c12 c13 c14 c15, cs = #[c0, c1, c2, c3, c4, c5, c6, c7, c8, c9, c10, c11, c12, c13, c14, c15] := by
  obtain ⟨l⟩ := cs
  match l, h with
  | [c0, c1, c2, c3, c4, c5, c6, c7, c8, c9, c10, c11, c12, c13, c14, c15], _ => exact ⟨c0, c1, c2, c3, c4, c5, c6, c7, c8, c9, c10, c11, c12, c13, c14, c15, rfl⟩

theorem own : ownKnob Try.prog.godebug = none := by kernel_rfl
theorem laidOut : laidOutB Try.prog = true := by kernel_rfl
set_option maxRecDepth 100000 in
theorem lifted (os : Os) (started : os.Started) (H : Type) (enc : TypeId × Value → H) :
    ReturnsInHanded {} Try.checked os 8 .any (Rows.inodeDecodesSpec.pre6 enc Try.prog Try.f8 Rows.inodeDecodesRow.domain false) (Rows.inodeDecodesSpec.post enc Try.prog Try.f8 false true false false) := by
  refine returnsInHanded_of_change_sized (C := Try.checked) own started (by kernel_rfl) Try.func8
    (ChangeSpec.witness6 (enc := enc) (C := Try.checked) false ⟨#[], #[.agg #[.slice none 0 0, .int .u8 0, .int .u16 0, .int .u32 0, .int .u32 0, .int .u32 0, .int .u32 0, .int .u32 0, .int .u32 0, .int .u32 0, .int .u32 0, .int .u32 0, .int .u32 0, .int .u32 0, .slice none 0 0, .slice none 0 0]], []⟩ 8 (by kernel_rfl) (by kernel_rfl) (by kernel_rfl) (by kernel_rfl)) ?_
  intro W base args ds gs before hval0 hW hcnd hsz0 _
  have hsz : (DataW.weightsEach Try.prog (Try.f8.params.toList ++ Rows.inodeDecodesSpec.plain.varTypes Try.prog) (ds ++ gs)).all (· ≤ reachBytes) = true := hsz0
  have hval : ∀ (j : Nat) t v, Try.f8.params[j]? = some t → args[j]? = some v → Value.okWide Try.prog W .any base t v := hval0
  have hW' := hW
  obtain ⟨p, q, hA0, hV, rfl, hfz, hnd⟩ := hW
  have hA : DataW.TrodAll enc Try.prog W 0 (fun _ => true) true Try.f8.params.toList args.toList ds p := hA0
  rw [Try.params8] at hA hval hsz
  obtain ⟨v0, vs0, d0, ds0, p0, q0, hargs, rfl, rfl, h0, r0⟩ := trodAll_cons hA
  obtain ⟨rfl, rfl, rfl⟩ := trodAll_nil r0
  obtain rfl : args = #[v0] := by cases args; simp_all
  obtain ⟨rfl, rfl⟩ := trodVars_none hV
  have k0 := h0
  have lt0 : ∀ x ∈ p0, x.block < W.heap.size := by obtain ⟨m, hm⟩ := k0; exact DataW.trod_lt m _ _ _ hm
  have z0 := fits_each hsz
  have F0 := z0.1
  clear hsz hsz0 z0
  obtain ⟨cs0, rfl, hn0⟩ := okWide_struct Try.underlying62 (hval 0 62 v0 rfl rfl)
  obtain ⟨c0, c1, c2, c3, c4, c5, c6, c7, c8, c9, c10, c11, c12, c13, c14, c15, rfl⟩ := arr16 (hn0.trans (show Try.prog.cellsOf 62 = 16 from by kernel_rfl))
  obtain ⟨fu0, hf0⟩ := h0
  obtain ⟨_, fl0⟩ := op_struct Try.underlying62 hf0 F0
  obtain ⟨y0, g0, t0, f0⟩ := fl0 0 _ rfl
  obtain ⟨A0, q0, xs0, e0, lc0, lb0, rd0, wf0⟩ := op_ints Try.underlying49 Try.underlying5 (by kernel_rfl) (B := 1) (by kernel_rfl) t0 f0
  have z0 : List.take (Try.prog.cellsOf 49) (List.drop 0 [_, _, _, _, _, _, _, _, _, _, _, _, _, _, _, _]) = _ := e0
  rw [show Try.prog.cellsOf 49 = 1 from by kernel_rfl] at z0
  simp at z0
  subst z0
  obtain ⟨y1, g1, t1, f1⟩ := fl0 1 _ rfl
  obtain ⟨k, l, s, d, a, b, e1, kb, lb, sb, db, ab, bb⟩ := op_ino t1 f1
  have z1 : List.take (Try.prog.cellsOf 48) (List.drop 1 [_, _, _, _, _, _, _, _, _, _, _, _, _, _, _, _]) = _ := e1
  rw [show Try.prog.cellsOf 48 = 13 from by kernel_rfl] at z1
  simp [decA] at z1
  obtain ⟨rfl, rfl, rfl, rfl, rfl, rfl, rfl, rfl, rfl, rfl, rfl, rfl, rfl⟩ := z1
  obtain ⟨y2, g2, t2, f2⟩ := fl0 2 _ rfl
  obtain ⟨A2, q2, xs2, e2, lc2, lb2, rd2, wf2⟩ := op_ints Try.underlying60 Try.underlying3 (by kernel_rfl) (B := 8) (by kernel_rfl) t2 f2
  have z2 : List.take (Try.prog.cellsOf 60) (List.drop 14 [_, _, _, _, _, _, _, _, _, _, _, _, _, _, _, _]) = _ := e2
  rw [show Try.prog.cellsOf 60 = 1 from by kernel_rfl] at z2
  simp at z2
  subst z2
  obtain ⟨y3, g3, t3, f3⟩ := fl0 3 _ rfl
  obtain ⟨A3, q3, xs3, e3, lc3, lb3, rd3, wf3⟩ := op_ints Try.underlying49 Try.underlying5 (by kernel_rfl) (B := 1) (by kernel_rfl) t3 f3
  have z3 : List.take (Try.prog.cellsOf 49) (List.drop 15 [_, _, _, _, _, _, _, _, _, _, _, _, _, _, _, _]) = _ := e3
  rw [show Try.prog.cellsOf 49 = 1 from by kernel_rfl] at z3
  simp at z3
  subst z3
  have fA := okWide_far_in (i := 0) Try.underlying62 (hval 0 62 _ rfl rfl) rfl (u := 49) (by kernel_rfl) Try.underlying49
  clear hA0 hval0
  refine (idec_walk xs0 xs2 xs3 A0 A2 A3 q0 q2 q3 k l s d a b W kb.1 kb.2 lb.1 lb.2 sb.1 sb.2 db ab.1 ab.2 bb.1 bb.2 rd0 (fun x h => wf_u8 (wf0 x h)) lc0 fA rd2 rd3 (fun x h => wf_u8 (wf3 x h)) (fun x h => wf_i64 (wf2 x h))).mono fun e W' ⟨he, bel⟩ => ?_
  subst he
  exact ⟨_, rfl, _, _, _, [], _, [], hW', trodAll_mk1 (shut_bool Try.underlying4 _), (trodAll_cons_mk (Below.trod laidOut (by kernel_rfl) (of_decide_eq_true (by kernel_rfl)) k0 bel lt0) trodAll_mk0), rfl, bel.frame _, fun h => by cases h⟩
theorem over : Rows.inodeDecodesRow.holds Try.pinned (OpenSpec.ofChange Rows.inodeDecodesSpec) :=
  OpenClaim.holds_of_wide 8 Try.f8 rfl rfl rfl rfl rfl rfl rfl ⟨rfl, rfl, rfl, rfl, rfl⟩ rfl rfl rfl rfl rfl (by kernel_rfl) Try.func8 (by kernel_rfl)
    (of_decide_eq_true (by kernel_rfl)) (by unfold Func.isWrapper; first | (rw [if_pos (by decide +kernel)]; kernel_rfl) | (rw [if_neg (by decide +kernel)]; exact ⟨rfl, rfl⟩))
    (fun os started H enc _ => lifted os started H enc)
theorem proved : Rows.InodeDecodesSaid := over
#print axioms proved
end Go.Proofs.Ytdcelfoomjahjaa.lawInodeDecodes
