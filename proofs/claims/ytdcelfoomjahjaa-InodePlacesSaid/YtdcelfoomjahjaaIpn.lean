import Derived.Test.YtdcelfoomjahjaaInexts
/-! The law InodePlaces: its walk. Printed by gen_places.py. -/
set_option linter.unusedVariables false
set_option linter.unusedSimpArgs false
namespace Go.Proofs.Ytdcelfoomjahjaa
open Go.RowKit Go.Proofs.YtdcelfoomjahjaaW.PrintWords
abbrev BitC (x1 x2 x3 x4 x5 n p i c : Int) : Prop := ∀ w, Calls Try.prog 14 #[.agg #[.int .i64 x1, .int .i64 x2, .int .i64 x3, .int .i64 x4, .int .i64 x5], .int .u32 n] w fun e w' => e = .returned (.tuple #[.int .i64 p, .int .i64 i, .int .u64 c]) ∧ Below w.heap.size w w'
set_option maxHeartbeats 4000000 in
set_option maxRecDepth 100000 in
theorem iplaces_none (a0 a1 a2 a3 B J : Int) (w : World) (hB : (IntKind.u64.wrap a0).tmod 5000 = B) (B0 : 0 ≤ B) (B1 : B < 5000) (hJ : (IntKind.u64.wrap a1).tmod 13 = J) (J0 : 0 ≤ J) (J1 : J < 13) (hc : Hid (LayC (40 + B) (256 + 64 * J) 0 0 0 0 0 28)) :
    Calls Try.prog 6 #[.agg #[.int .i64 a0, .int .i64 a1, .int .u32 a2, .int .u32 a3]] w fun e w' => e = .returned (.bool true) ∧ Below w.heap.size w w' := by
  go_enter Try.func6, Try.ntmps6
  go_wp2_with fail
  go_quiet (fail)
  go_wp2_with fail
  refine (hc.out _).mono ?_
  rintro e w1 ⟨rfl, hb1⟩
  have H1 : Hid (Below w.heap.size w w1) := Lib.hid (bl_seq (bl_drewN (bl_alloc (Below.refl _ _) _) _) hb1)
  clear hb1
  go_wp2_with fail
  refine (laid_any _).mono ?_
  rintro e w2 ⟨rfl, hb2⟩
  have H2 := Lib.hid hb2
  clear hb2
  go_wp2_with fail
  refine (laid_any _).mono ?_
  rintro e w3 ⟨rfl, hb3⟩
  have H3 := Lib.hid hb3
  clear hb3
  go_wp2_with fail
  go_ret
  exact ⟨by first | rfl | simp, bl_seq (bl_seq (bl_alloc H1.out _) H2.out) H3.out⟩
end Go.Proofs.Ytdcelfoomjahjaa
