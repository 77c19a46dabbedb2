import Derived.Test.YtaomgddfkpcdhaaDoorRead
/-! What a reader's call leaves: its own block turns, the rest is as it was. -/
set_option linter.unusedVariables false
set_option linter.unusedSimpArgs false
namespace Go.Proofs.YtaomgddfkpcdhaaDoor
open Go.RowKit Go.Proofs.YtaomgddfkpcdhaaDoorW.PrintWords
/-- Only blocks of S may have turned; new ones may have come. -/
structure Mods (S : Nat → Prop) (w w' : World) : Prop where
  os : w'.os = w.os
  tape : w'.tape = w.tape
  output : w'.output = w.output
  size : w.heap.size ≤ w'.heap.size
  block : ∀ k, k < w.heap.size → ¬ S k → w'.heap[k]? = w.heap[k]?
section
variable {S T : Nat → Prop} {w w1 w2 : World}
theorem Mods.refl (S : Nat → Prop) (w : World) : Mods S w w := ⟨rfl, rfl, rfl, Nat.le_refl _, fun _ _ _ => rfl⟩
theorem Mods.trans (h : Mods S w w1) (k : Mods S w1 w2) : Mods S w w2 :=
  ⟨k.os.trans h.os, k.tape.trans h.tape, k.output.trans h.output, Nat.le_trans h.size k.size, fun i hi hs => (k.block i (Nat.lt_of_lt_of_le hi h.size) hs).trans (h.block i hi hs)⟩
theorem Mods.mono (h : Mods S w w1) (hs : ∀ i, S i → T i) : Mods T w w1 := ⟨h.os, h.tape, h.output, h.size, fun i hi ht => h.block i hi fun e => ht (hs i e)⟩
/-- What is new may turn besides. -/
theorem Mods.less (h : Mods T w w1) (hs : ∀ i, T i → S i ∨ w.heap.size ≤ i) : Mods S w w1 := ⟨h.os, h.tape, h.output, h.size, fun i hi ht => h.block i hi fun e => by rcases hs i e with e | e; exact ht e; omega⟩
theorem Mods.of_below (h : Below w.heap.size w w1) : Mods S w w1 := ⟨h.os, h.tape, h.output, h.size, fun i hi _ => h.block i hi⟩
theorem Mods.drewN (h : Mods S w w1) (n : Nat) : Mods S w (w1.drewN n) := ⟨h.os, h.tape, h.output, h.size, h.block⟩
theorem Mods.set (h : Mods S w w1) {p : Addr} (hp : S p.block ∨ w.heap.size ≤ p.block) (u : Value) : Mods S w (w1.setCell p u) :=
  ⟨h.os, h.tape, h.output, by simpa [World.setCell] using h.size, fun i hi hs => (Below.heap_setCell w1 p u i (fun e => by subst e; rcases hp with hp | hp; exact hs hp; omega)).trans (h.block i hi hs)⟩
theorem Mods.at_ (h : Mods S w w1) {p : Nat} (hp : S p ∨ w.heap.size ≤ p) (j : Nat) (u : Value) : Mods S w (w1.setCell ⟨p, j, none⟩ u) := Mods.set h (p := ⟨p, j, none⟩) hp u
theorem Mods.alloc (h : Mods S w w1) (o : Obj) : Mods S w (w1.alloc o) := h.trans (Mods.of_below (bl_alloc (Below.refl _ _) o))
theorem Mods.blk (h : Mods S w w1) {g : Nat} {o : Obj} (hb : w.heap[g]? = some o) (hs : ¬ S g) : w1.heap[g]? = some o := (h.block g (blk_lt hb) hs).trans hb
theorem Mods.below (h : Mods S w w1) {B : Nat} (hB : B ≤ w.heap.size) (hs : ∀ i, S i → B ≤ i) : Below B w w1 :=
  ⟨h.os, h.tape, h.output, h.size, fun i hi => h.block i (by omega) fun e => by have := hs i e; omega⟩
theorem Mods.reads (h : Mods S w w1) {k : IntKind} {A : Option Addr} {n : Nat} {xs : List Int} (hr : ReadsInt w k A n xs) (hs : ∀ a, A = some a → ¬ S a.block) : ReadsInt w1 k A n xs :=
  ⟨hr.1, hr.2.1, fun hn => by
    obtain ⟨ad, e, hc⟩ := hr.2.2 hn
    refine ⟨ad, e, fun j hj => ?_⟩
    have hb : ((ad.add j).block) = ad.block := by unfold Addr.add; split <;> rfl
    have hlt := World.block_lt_of_cell? w _ (hc j hj)
    rw [World.cell?_of_block (w := w) (h.block _ hlt (by rw [hb]; exact hs ad e))]
    exact hc j hj⟩
theorem Mods.own (h : Mods S w w1) {base : Nat} {e : TypeId} {size n : Nat} {v : Value} {xs : List Value} (ho : w.ownsRow base e size v n xs) (hs : ∀ k, v.ownBlock = some k → ¬ S k) : w1.ownsRow base e size v n xs :=
  own_move ho fun k hk => h.block k (ho.lt k hk).2 (hs k hk)
theorem Mods.keep {p : Nat} (h : Mods (fun i => i = p) w w1) : KeepBut w w1 p none := ⟨h.size, fun i hi hp _ => h.block i hi hp⟩
end
theorem mU8_yes (p : Nat) (A : Option Addr) (m c : Nat) (k : Nat) (xs : List Int) (w : World) (h : RdV w p A m c k) (hr : ReadsInt w .u8 A m xs) (hb : Byt xs) (hc : m ≤ c) (hkn : k + 1 ≤ m) (hne : ∀ a, A = some a → a.block ≠ p) :
    Calls Tryd.prog 21 #[.pointer (some ⟨p, 0, none⟩)] w fun e w' => e = .returned (.int .u8 (num ((xs.drop k).take 1))) ∧ RdV w' p A m c ((k + 1 : Nat) : Int) ∧ Mods (fun i => i = p) w w' := by
  refine (rdU8_yes p A m c k xs w h hr hb hc hkn hne).mono ?_
  rintro e w' ⟨he, q, rfl⟩
  exact ⟨he, blk_put (blk_drewN h q) 1 _ (by simp), Mods.at_ (S := fun i => i = p) ((Mods.refl _ w).drewN q) (.inl rfl) 1 _⟩
theorem mU8_no (p : Nat) (A : Option Addr) (m c : Nat) (k : Nat) (w : World) (h : RdV w p A m c k) (hkm : k ≤ m) (hm : m ≤ 9223372036854775807) (hn : m < k + 1) :
    Calls Tryd.prog 21 #[.pointer (some ⟨p, 0, none⟩)] w fun e w' => e = .panicked (shortP k) ∧ Mods (fun i => i = p) w w' := by
  refine (rdU8_no p A m c k w h (by omega) (by omega) hm (by omega)).mono ?_
  rintro e w' ⟨he, q, rfl⟩
  exact ⟨he, (Mods.refl _ w).drewN q⟩
theorem mU32_yes (p : Nat) (A : Option Addr) (m c : Nat) (k : Nat) (xs : List Int) (w : World) (h : RdV w p A m c k) (hr : ReadsInt w .u8 A m xs) (hb : Byt xs) (hc : m ≤ c) (hkn : k + 4 ≤ m) (hne : ∀ a, A = some a → a.block ≠ p) :
    Calls Tryd.prog 10 #[.pointer (some ⟨p, 0, none⟩)] w fun e w' => e = .returned (.int .u32 (num ((xs.drop k).take 4))) ∧ RdV w' p A m c ((k + 4 : Nat) : Int) ∧ Mods (fun i => i = p) w w' := by
  refine (rdU32_yes p A m c k xs w h hr hb hc hkn hne).mono ?_
  rintro e w' ⟨he, q, rfl⟩
  exact ⟨he, blk_put (blk_drewN h q) 1 _ (by simp), Mods.at_ (S := fun i => i = p) ((Mods.refl _ w).drewN q) (.inl rfl) 1 _⟩
theorem mU32_no (p : Nat) (A : Option Addr) (m c : Nat) (k : Nat) (w : World) (h : RdV w p A m c k) (hkm : k ≤ m) (hm : m ≤ 9223372036854775807) (hn : m < k + 4) :
    Calls Tryd.prog 10 #[.pointer (some ⟨p, 0, none⟩)] w fun e w' => e = .panicked (shortP k) ∧ Mods (fun i => i = p) w w' := by
  refine (rdU32_no p A m c k w h (by omega) (by omega) hm (by omega)).mono ?_
  rintro e w' ⟨he, q, rfl⟩
  exact ⟨he, (Mods.refl _ w).drewN q⟩
theorem Mods.err {S : Nat → Prop} {w w1 : World} {B : Nat} (h : Mods S w w1) (hB : w.heap.size ≤ B) (v : Value) : Mods S w (w1.setCell ⟨B, 0, none⟩ v) := h.set (.inr hB) v
set_option maxHeartbeats 1000000 in
/-- cursor.Read, by its closure's contract: what may turn is told by blocks. -/
theorem read_mods (A : Option Addr) (n c g : Nat) (cap : Array Value) (w : World) (S : Nat → Prop) (P1 P2 : World → Prop) (fn : Func) (hf : Tryd.prog.funcs[g]? = some fn) (hname : (fn.name == "runtime.NumGoroutine") = false) (hbody : fn.body.isSome = true)
    (hS : ∀ i, S i → i < w.heap.size) (hP1 : ∀ w1 w2, P1 w1 → KeepBut w1 w2 w.heap.size none → P1 w2) (hP2 : ∀ w1 w2, P2 w1 → KeepBut w1 w2 w.heap.size none → P2 w2)
    (hcall : ∀ w2 : World, w2.heap[w.heap.size]? = some (.cells #[.int .i64 0] 27 (0, 0)) → RdV w2 (w.heap.size + 1) A n c ((0 : Nat) : Int) → Below w.heap.size w w2 → w2.heap.size = w.heap.size + 2 →
      Calls Tryd.prog g (#[.pointer (some ⟨w.heap.size + 1, 0, none⟩)] ++ cap) w2 fun e w' => Mods (fun i => i = w.heap.size + 1 ∨ S i) w2 w' ∧ ((e = .returned (.tuple #[]) ∧ P1 w') ∨ ∃ k, e = .panicked (shortP k) ∧ P2 w')) :
    Calls Tryd.prog 8 #[.slice A n c, .func (.func g) #[] cap] w fun e w' => Mods S w w' ∧ ((e = .returned (.int .i64 0) ∧ P1 w') ∨ (e = .returned (.int .i64 62) ∧ P2 w')) := by
  have hb0 : ((w.alloc (.cells #[.int .i64 0] 27)).alloc (.cells #[.slice A n c, .int .i64 0] 52)).heap[w.heap.size]? = some (.cells #[.int .i64 0] 27 (0, 0)) := blk_alloc (heap_alloc_new w _) _
  have hb1 : ((w.alloc (.cells #[.int .i64 0] 27)).alloc (.cells #[.slice A n c, .int .i64 0] 52)).heap[w.heap.size + 1]? = some (.cells #[.slice A n c, .int .i64 ((0 : Nat) : Int)] 52 (0, 0)) := by
    have h_ := heap_alloc_new (w.alloc (.cells #[.int .i64 0] 27)) (.cells #[.slice A n c, .int .i64 0] 52)
    simpa using h_
  have hbl : Below w.heap.size w ((w.alloc (.cells #[.int .i64 0] 27)).alloc (.cells #[.slice A n c, .int .i64 0] 52)) := bl_alloc (bl_alloc (Below.refl _ _) _) _
  have hz : ((w.alloc (.cells #[.int .i64 0] 27)).alloc (.cells #[.slice A n c, .int .i64 0] 52)).heap.size = w.heap.size + 2 := by simp
  have hm := hcall _ hb0 hb1 hbl hz
  obtain ⟨W2, hW2⟩ : ∃ W2, (w.alloc (.cells #[.int .i64 0] 27)).alloc (.cells #[.slice A n c, .int .i64 0] 52) = W2 := ⟨_, rfl⟩
  have key := read_any A n c g cap w (fun w' => Mods (fun i => i = w.heap.size + 1 ∨ S i) W2 w' ∧ P1 w') (fun w' => Mods (fun i => i = w.heap.size + 1 ∨ S i) W2 w' ∧ P2 w') fn hf hname hbody (by
    refine Lib.hid (hm.mono ?_)
    rintro e w' ⟨h1, h2⟩
    rw [hW2] at h1 hb0
    refine ⟨h1.blk hb0 (fun e => ?_), ?_⟩
    · rcases e with e | e
      · omega
      · have := hS _ e; omega
    · rcases h2 with ⟨a, b⟩ | ⟨k, a, b⟩
      · exact .inl ⟨a, h1, b⟩
      · exact .inr ⟨k, a, h1, b⟩)
  rw [hW2] at hbl hz
  refine key.mono ?_
  have tm : ∀ w1, Mods (fun i => i = w.heap.size + 1 ∨ S i) W2 w1 → Mods S w w1 := by
    intro w1 h1
    refine ⟨h1.os.trans hbl.os, h1.tape.trans hbl.tape, h1.output.trans hbl.output, Nat.le_trans hbl.size h1.size, fun i hi hs => (h1.block i (by omega) ?_).trans (hbl.block i hi)⟩
    rintro (e | e)
    · omega
    · exact hs e
  rintro e w' (⟨w1, ⟨h1, h2⟩, he, rfl⟩ | ⟨w1, o, ⟨h1, h2⟩, he, rfl⟩)
  · exact ⟨(tm w1 h1).set (.inr (Nat.le_refl _)) _, .inl ⟨he, hP1 _ _ h2 ((KeepBut.refl w1 w.heap.size none).set_ 0 _)⟩⟩
  · refine ⟨((tm w1 h1).set (.inr (Nat.le_refl _)) _).alloc o, .inr ⟨he, hP2 _ _ h2 ?_⟩⟩
    have k1 := (KeepBut.refl w1 w.heap.size none).set_ 0 (.int .i64 62)
    exact k1.trans (KeepBut.of_below (bl_alloc (Below.refl _ _) o) _ none) (.inl rfl)
end Go.Proofs.YtaomgddfkpcdhaaDoor
