import Derived.Test.YtaomgddfkpcdhaaDoorTake
import Derived.Laws.Pointers
/-! The cursor's reader: numbers; cursor.Read. -/
set_option linter.unusedVariables false
set_option linter.unusedSimpArgs false
namespace Go.Proofs.YtaomgddfkpcdhaaDoor
open Go.RowKit Go.Proofs.YtaomgddfkpcdhaaDoorW.PrintWords
theorem catch_idle (p : Addr) (w : World) :
    CallsD Tryd.prog 18 #[.pointer (some p)] .returning w fun e u' w' => e = .returned (.tuple #[]) ∧ u' = .returning ∧ w' = w := by
  refine callsD_of_wpS Tryd.func18 rfl fun c₀ cs hu => ?_
  apply wpS_seq
  apply wpS_region
  simp [wpOpsS, go_sem, recoverD, hu, Tryd.ntmps18, Exit.thenS]
  refine wpS_of_wp ?_
  go_wp2
  cases c₀
  simp_all [bodyPostS, results, Tryd.results18]
theorem assert_short (k : Int) (w : World) : (Instr.typeAssert (.iface 49 (.agg #[.int .i64 k])) 20 49 true).run Tryd.prog w = .ok (.tuple #[.agg #[.int .i64 k], .bool true]) w := by
  kernel_rfl
set_option maxHeartbeats 2000000 in
theorem catch_panicking (p : Nat) (x : Int) (k : Int) (w : World) (hb : w.heap[p]? = some (.cells #[.int .i64 x] 27 (0, 0))) :
    CallsD Tryd.prog 18 #[.pointer (some ⟨p, 0, none⟩)] (.panicking (shortP k)) w fun e u' w' =>
      e = .returned (.tuple #[]) ∧ u' = .panicking [{ v := .iface 49 (.agg #[.int .i64 k]), recovered := true }] ∧ ∃ o, w' = (w.setCell ⟨p, 0, none⟩ (.int .i64 62)).alloc o := by
  refine callsD_of_wpS Tryd.func18 rfl fun c₀ cs hu => ?_
  rw [show (#[Value.pointer (some ⟨p, 0, none⟩)] ++ Array.replicate (Tryd.f18.ntmps - (#[Value.pointer (some ⟨p, 0, none⟩)]).size) undef) = #[.pointer (some ⟨p, 0, none⟩), undef, undef, undef, undef, undef, undef, undef, undef, undef, undef, undef, undef, undef, undef] from by rw [Tryd.ntmps18]; rfl]
  apply wpS_seq
  apply wpS_region
  simp [wpOpsS, go_sem, recoverD, hu, Exit.thenS]
  have has := assert_short k
  have hc := (blk_cell hb 0).trans rfl
  have hz := blk_frozen hb 0
  have hlt := blk_lt hb
  have hne : ¬ p = w.heap.size := by omega
  have hne2 : ¬ w.heap.size = p := by omega
  have hc2 : ∀ o, (w.alloc o).cell? ⟨p, 0, none⟩ = some (.int .i64 x) := fun o => (blk_cell (blk_alloc hb o) 0).trans rfl
  have hz2 : ∀ o, (w.alloc o).frozen? ⟨p, 0, none⟩ = false := fun o => blk_frozen (blk_alloc hb o) 0
  refine wpS_of_wp ?_
  go_wp2
  simp [bodyPostS, results, Tryd.results18]
  exact ⟨_, rfl⟩
end Go.Proofs.YtaomgddfkpcdhaaDoor
