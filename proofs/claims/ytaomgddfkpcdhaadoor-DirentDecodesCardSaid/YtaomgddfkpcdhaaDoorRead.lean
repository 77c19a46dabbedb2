import Derived.Test.YtaomgddfkpcdhaaDoorRds
import Derived.Test.YtaomgddfkpcdhaaDoorWLast
/-! cursor.Read, by its closure's contract. -/
set_option linter.unusedVariables false
set_option linter.unusedSimpArgs false
namespace Go.Proofs.YtaomgddfkpcdhaaDoor
open Go.RowKit Go.Proofs.YtaomgddfkpcdhaaDoorW.PrintWords Go.Proofs.YtaomgddfkpcdhaaDoorW.PrintLast
set_option maxHeartbeats 2000000 in
set_option maxRecDepth 100000 in
theorem read_any (A : Option Addr) (n c g : Nat) (cap : Array Value) (w : World) (R1 R2 : World → Prop) (fn : Func) (hf : Tryd.prog.funcs[g]? = some fn) (hname : (fn.name == "runtime.NumGoroutine") = false) (hbody : fn.body.isSome = true)
    (hcall : Hid (Calls Tryd.prog g (#[.pointer (some ⟨w.heap.size + 1, 0, none⟩)] ++ cap) ((w.alloc (.cells #[.int .i64 0] 27)).alloc (.cells #[.slice A n c, .int .i64 0] 52)) fun e w' => w'.heap[w.heap.size]? = some (.cells #[.int .i64 0] 27 (0, 0)) ∧ ((e = .returned (.tuple #[]) ∧ R1 w') ∨ ∃ k, e = .panicked (shortP k) ∧ R2 w'))) :
    Calls Tryd.prog 8 #[.slice A n c, .func (.func g) #[] cap] w fun e w' => (∃ w1, R1 w1 ∧ e = .returned (.int .i64 0) ∧ w' = w1.setCell ⟨w.heap.size, 0, none⟩ (.int .i64 0)) ∨ (∃ w1 o, R2 w1 ∧ e = .returned (.int .i64 62) ∧ w' = (w1.setCell ⟨w.heap.size, 0, none⟩ (.int .i64 62)).alloc o) := by
  have hmf : ∀ (fn : Fn) (first cap : Array Value) (w : World), (Instr.makeFunc fn first cap).run Tryd.prog w = .ok (.func fn first cap) w := fun _ _ _ _ => rfl
  have heq : ∀ w : World, (binOp .eql 42 (.func (.func g) #[] cap) .nilFunc).run Tryd.prog w = .ok (.bool false) w := fun w => by first | rfl | kernel_rfl
  have hen : ∀ (args : Array Value) (w : World), (callFunc g args).run Tryd.prog w = .ok (.enter g args) w := enters_ hf hname hbody
  go_enter_defers Tryd.func8, Tryd.ntmps8
  go_wp2_with fail
  refine hcall.out.mono ?_
  rintro e w1 ⟨hb, ⟨rfl, hR⟩ | ⟨k, rfl, hR⟩⟩
  · have hc := (blk_cell hb 0).trans rfl
    have hz := blk_frozen hb 0
    go_wp2_with fail
    refine leaves_cons (f := 18) (args := #[.pointer (some ⟨w.heap.size, 0, none⟩)]) (by simp) (by simp [go_sem]) ?_
    refine (catch_idle ⟨w.heap.size, 0, none⟩ _).mono ?_
    rintro e u' w'' ⟨rfl, rfl, rfl⟩
    simp [Leaves, settle, results, Tryd.results8, go_sem, hc, hz]
    exact ⟨w1, hR, rfl⟩
  · go_wp2_with fail
    refine leaves_cons (f := 18) (args := #[.pointer (some ⟨w.heap.size, 0, none⟩)]) (by simp) (by simp [go_sem]) ?_
    refine (catch_panicking w.heap.size 0 k _ hb).mono ?_
    rintro e u' w'' ⟨rfl, rfl, o, rfl⟩
    have hc := (blk_cell (blk_alloc (blk_set hb 0 (.int .i64 62)) o) 0).trans rfl
    simp [Leaves, settle, results, Tryd.results8, go_sem, hc]
    exact ⟨w1, hR, o, rfl⟩
end Go.Proofs.YtaomgddfkpcdhaaDoor
