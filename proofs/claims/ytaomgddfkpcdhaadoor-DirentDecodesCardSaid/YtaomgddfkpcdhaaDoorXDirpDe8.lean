import Derived.Test.YtaomgddfkpcdhaaDoorXDirpDec8
/-! dirent.Decode. -/
set_option linter.unusedVariables false
set_option linter.unusedSimpArgs false
namespace Go.Proofs.YtaomgddfkpcdhaaDoor.XDir
open Go.RowKit Go.Proofs.YtaomgddfkpcdhaaDoorW.PrintWords Go.Proofs.YtaomgddfkpcdhaaDoorW.PrintLast Go.Proofs.YtaomgddfkpcdhaaDoorW.PrintMore
def ndX (xs : List Int) : Int := num ((xs.drop 0).take 4)
def nX (xs : List Int) : Nat := (num ((xs.drop 4).take 1)).toNat
def nmX (xs : List Int) : ByteArray := strOfNums ((xs.drop 5).take (nX xs))
def zX (xs : List Int) : Bool := (xs.drop (5 + nX xs)).all (· == 0)
/-- Are bytes an entry? -/
def entB (xs : List Int) : Bool := decide (xs.length = 32) && decide (nX xs ≤ 27) && zX xs && ((ndX xs == 0) == (nX xs == 0)) && ((ndX xs == 0) || (chkS (nmX xs) == 0))
def DeP (w : World) (xs : List Int) (e : Ending) (w' : World) : Prop :=
  Below w.heap.size w w' ∧ ((entB xs = true ∧ e = .returned (.tuple #[.agg #[.int .u32 (ndX xs), .string (nmX xs)], .int .i64 0])) ∨ (entB xs = false ∧ e = .returned (.tuple #[.agg #[.int .u32 0, .string ⟨#[]⟩], .int .i64 62])))
theorem mk8_ (fn : Fn) (first cap : Array Value) (w : World) : (Instr.makeFunc fn first cap).run Tryd.prog w = .ok (.func fn first cap) w := rfl
theorem alloc3_ (w : World) (c1 c2 c3 : Array Value) (t1 t2 t3 : TypeId) : (((w.alloc (.cells c1 t1)).alloc (.cells c2 t2)).alloc (.cells c3 t3)).heap[w.heap.size]? = some (.cells c1 t1 (0, 0)) ∧ (((w.alloc (.cells c1 t1)).alloc (.cells c2 t2)).alloc (.cells c3 t3)).heap[w.heap.size + 1]? = some (.cells c2 t2 (0, 0)) ∧
    (((w.alloc (.cells c1 t1)).alloc (.cells c2 t2)).alloc (.cells c3 t3)).heap[w.heap.size + 1 + 1]? = some (.cells c3 t3 (0, 0)) ∧ Below w.heap.size w (((w.alloc (.cells c1 t1)).alloc (.cells c2 t2)).alloc (.cells c3 t3)) ∧ (((w.alloc (.cells c1 t1)).alloc (.cells c2 t2)).alloc (.cells c3 t3)).heap.size = w.heap.size + 3 := by
  have h2 := heap_alloc_new (w.alloc (.cells c1 t1)) (.cells c2 t2)
  have h3 := heap_alloc_new ((w.alloc (.cells c1 t1)).alloc (.cells c2 t2)) (.cells c3 t3)
  simp only [World.size_alloc] at h2 h3
  exact ⟨blk_alloc (blk_alloc (heap_alloc_new w _) _) _, blk_alloc h2 _, h3, bl_alloc (bl_alloc (bl_alloc (Below.refl _ _) _) _) _, by simp⟩
theorem nm_size (xs : List Int) (k n : Nat) (h : k + n ≤ xs.length) : (strOfNums ((xs.drop k).take n)).size = n := by
  have h1 : (strOfNums ((xs.drop k).take n)).size = ((xs.drop k).take n).length := by simp [strOfNums, ByteArray.size]
  rw [h1, List.length_take, List.length_drop]
  omega
theorem nil_of_size (s : ByteArray) : (s.toList == ([] : List UInt8)) = (s.size == 0) := by
  have h : s.toList.length = s.size := by rw [ByteArray.toList_eq]; exact Array.length_toList
  cases hs : s.toList with
  | nil => rw [hs] at h; rw [← h]; rfl
  | cons a l => rw [hs] at h; rw [← h]; rfl
set_option maxHeartbeats 8000000 in
set_option maxRecDepth 100000 in
theorem decode_any (A : Option Addr) (c : Nat) (xs : List Int) (w : World) (hr : ReadsInt w .u8 A xs.length xs) (hb : Byt xs) (hc : xs.length ≤ c) (hA : ∀ a, A = some a → a.block < w.heap.size) (hg : GT w) :
    Calls Tryd.prog 5 #[.slice A xs.length c] w (DeP w xs) := by
  have HR := Lib.hid hr
  have HB := Lib.hid hb
  have HA := Lib.hid hA
  have HG := Lib.hid hg
  have hm := hr.2.1
  have hmf := mk8_
  clear hr hb hA hg
  go_enter Tryd.func5, Tryd.ntmps5
  go_wp2_with fail
  have h3 := alloc3_ w #[.int .u32 0, .string ⟨#[]⟩] #[.int .u32 0, .string ⟨#[]⟩] #[.bool false] 26 26 4
  obtain ⟨W, hW⟩ : ∃ W, (((w.alloc (.cells #[.int .u32 0, .string ⟨#[]⟩] 26)).alloc (.cells #[.int .u32 0, .string ⟨#[]⟩] 26)).alloc (.cells #[.bool false] 4)) = W := ⟨_, rfl⟩
  rw [hW] at h3 ⊢
  have HW := Lib.hid h3
  clear hW h3
  refine (read_mods A xs.length c 9 #[.pointer (some ⟨w.heap.size + 1, 0, none⟩), .pointer (some ⟨w.heap.size + 1 + 1, 0, none⟩)] W (fun i => i = w.heap.size + 1 ∨ i = w.heap.size + 1 + 1)
    (fun w' => ∃ n : Nat, num ((xs.drop 4).take 1) = n ∧ 5 + n ≤ xs.length ∧ w'.heap[w.heap.size + 1]? = some (.cells #[.int .u32 (num ((xs.drop 0).take 4)), .string (strOfNums ((xs.drop 5).take n))] 26 (0, 0)) ∧ w'.heap[w.heap.size + 1 + 1]? = some (.cells #[.bool ((xs.drop (5 + n)).all (· == 0))] 4 (0, 0)))
    (fun _ => xs.length < 5 ∨ ∃ n : Nat, num ((xs.drop 4).take 1) = n ∧ xs.length < 5 + n)
    Tryd.f9 Tryd.func9 (by kernel_rfl) (by kernel_rfl) (by have h_ := HW.out.2.2.2.2; rintro i (rfl | rfl) <;> omega) (fun wa wb h k => by have h_ := HW.out.2.2.2.2; obtain ⟨n, a1, a2, a3, a4⟩ := h; exact ⟨n, a1, a2, k.blk a3 (by omega) (by simp), k.blk a4 (by omega) (by simp)⟩) (fun _ _ h _ => h) ?_).mono ?_
  · intro w2 he hrd hbl hsz
    have h_ := HW.out.2.2.2.2
    refine (dec1_any (W.heap.size + 1) (w.heap.size + 1) (w.heap.size + 1 + 1) A xs.length c xs w2 hrd ((HR.out.below HW.out.2.2.2.1).below hbl) HB.out hc (fun a ha => by have := HA.out a ha; omega) (blk_below HW.out.2.1 hbl) (blk_below HW.out.2.2.1 hbl) (by omega) (by omega) (by omega)).mono ?_
    rintro e w' ⟨hM, ⟨he2, hq⟩ | ⟨⟨k, he2⟩, hq⟩⟩
    · exact ⟨hM, .inl ⟨he2, hq⟩⟩
    · exact ⟨hM, .inr ⟨k, he2, hq⟩⟩
  · rintro e w5 ⟨hM, ⟨rfl, nn, hnn, hle, hP1, hP2⟩ | ⟨rfl, hno⟩⟩
    · have hR5 := hM.blk HW.out.1 (by rintro (e | e) <;> omega)
      have T5 : Hid (Below w.heap.size w w5) := Lib.hid (HW.out.2.2.2.1.trans (hM.below (B := w.heap.size) (by have h_ := HW.out.2.2.2.2; omega) (by rintro i (rfl | rfl) <;> omega)))
      have hnx : nX xs = nn := by rw [nX, hnn]; exact Int.toNat_natCast _
      have hent : entB xs = (decide (xs.length = 32) && decide (nn ≤ 27) && (xs.drop (5 + nn)).all (· == 0) && ((num ((xs.drop 0).take 4) == 0) == (nn == 0)) && ((num ((xs.drop 0).take 4) == 0) || (chkS (strOfNums ((xs.drop 5).take nn)) == 0))) := by
        rw [entB, zX, nmX, hnx]; rfl
      have hsz := nm_size xs 5 nn hle
      have hnil := nil_of_size (strOfNums ((xs.drop 5).take nn))
      rw [hsz] at hnil
      have HND : Hid (ndX xs = num ((xs.drop 0).take 4) ∧ nmX xs = strOfNums ((xs.drop 5).take nn)) := Lib.hid ⟨rfl, by rw [nmX, hnx]⟩
      obtain ⟨nd, hnd⟩ : ∃ nd, num ((xs.drop 0).take 4) = nd := ⟨_, rfl⟩
      obtain ⟨nm, hnm⟩ : ∃ nm, strOfNums ((xs.drop 5).take nn) = nm := ⟨_, rfl⟩
      obtain ⟨bz, hbz⟩ : ∃ bz, (xs.drop (5 + nn)).all (· == 0) = bz := ⟨_, rfl⟩
      rw [hnd, hnm, hbz] at hent
      rw [hnm] at hnil hsz
      rw [hnd, hnm] at HND hP1
      rw [hbz] at hP2
      have HP := Lib.hid (And.intro hR5 (And.intro hP1 hP2))
      have HE := Lib.hid hent
      have HS := Lib.hid hsz
      clear hM hP1 hP2 hR5 hent hnd hnm hbz hsz hnn hnx
      have zr : w5.cell? ⟨w.heap.size + 1 + 1, 0, none⟩ = some (.bool bz) := (blk_cell HP.out.2.2 0).trans rfl
      have zx0 : w5.cell? ⟨w.heap.size + 1, 0, none⟩ = some (.int .u32 nd) := (blk_cell HP.out.2.1 0).trans rfl
      have zx1 : w5.cell? ⟨w.heap.size + 1, 1, none⟩ = some (.string nm) := (blk_cell HP.out.2.1 1).trans rfl
      have y0 := (blk_cell HP.out.1 0).trans rfl
      have q0 := blk_frozen HP.out.1 0
      have y1 := (blk_cell HP.out.1 1).trans rfl
      have q1 := blk_frozen HP.out.1 1
      by_cases h32 : xs.length = 32
      · have hnle : nn ≤ 27 := by omega
        have HNL := Lib.hid hnle
        have hE1 : entB xs = (bz && ((nd == 0) == (nn == 0)) && ((nd == 0) || (chkS nm == 0))) := by rw [HE.out]; simp [h32, hnle]
        have HE1 := Lib.hid hE1
        have HL := Lib.hid hle
        clear HE hnle hE1 hle
        have h32b : ((xs.length : Int) != 32) = false := by rw [h32]; rfl
        cases bz with
        | false =>
          have HD : Hid (entB xs = false) := Lib.hid (by rw [HE1.out]; rfl)
          go_wp2_with fail
          have hf := blk_put (blk_put HP.out.1 0 (.int .u32 0) (cs' := #[(.int .u32 0), .string ⟨#[]⟩]) (by simp)) 1 (.string ⟨#[]⟩) (cs' := #[(.int .u32 0), (.string ⟨#[]⟩)]) (by simp)
          have T9 := bl_set (bl_set T5.out (p := ⟨w.heap.size, 0, none⟩) (Nat.le_refl _) (.int .u32 0)) (p := ⟨w.heap.size, 1, none⟩) (Nat.le_refl _) (.string ⟨#[]⟩)
          obtain ⟨w9, hw9⟩ : ∃ w9, ((w5.setCell ⟨w.heap.size, 0, none⟩ (.int .u32 0)).setCell ⟨w.heap.size, 1, none⟩ (.string ⟨#[]⟩)) = w9 := ⟨_, rfl⟩
          rw [hw9] at hf T9 ⊢
          have c0 : w9.cell? ⟨w.heap.size, 0, none⟩ = some (.int .u32 0) := (blk_cell hf 0).trans rfl
          have c1 : w9.cell? ⟨w.heap.size, 1, none⟩ = some (.string ⟨#[]⟩) := (blk_cell hf 1).trans rfl
          refine bodyPost_ret (v := .tuple #[.agg #[.int .u32 0, .string ⟨#[]⟩], .int .i64 62]) (by simp [results, Tryd.results5, go_sem, c0, c1]) rfl ⟨T9, .inr ⟨HD.out, rfl⟩⟩
        | true =>
          obtain ⟨d0, hd0⟩ : ∃ d0, (nd == 0) = d0 := ⟨_, rfl⟩
          obtain ⟨d1, hd1⟩ : ∃ d1, (nn == 0) = d1 := ⟨_, rfl⟩
          rw [hd0, hd1] at HE1
          rw [hd1] at hnil
          have hd0n : (nd != 0) = !d0 := by rw [← hd0]; rfl
          cases d0 with
          | true =>
            cases d1 with
            | true =>
              have HD : Hid (entB xs = true) := Lib.hid (by rw [HE1.out]; rfl)
              go_wp2_with fail
              have hf := blk_put (blk_put HP.out.1 0 (.int .u32 nd) (cs' := #[(.int .u32 nd), .string ⟨#[]⟩]) (by simp)) 1 (.string nm) (cs' := #[(.int .u32 nd), (.string nm)]) (by simp)
              have T9 := bl_set (bl_set T5.out (p := ⟨w.heap.size, 0, none⟩) (Nat.le_refl _) (.int .u32 nd)) (p := ⟨w.heap.size, 1, none⟩) (Nat.le_refl _) (.string nm)
              obtain ⟨w9, hw9⟩ : ∃ w9, ((w5.setCell ⟨w.heap.size, 0, none⟩ (.int .u32 nd)).setCell ⟨w.heap.size, 1, none⟩ (.string nm)) = w9 := ⟨_, rfl⟩
              rw [hw9] at hf T9 ⊢
              have c0 : w9.cell? ⟨w.heap.size, 0, none⟩ = some (.int .u32 nd) := (blk_cell hf 0).trans rfl
              have c1 : w9.cell? ⟨w.heap.size, 1, none⟩ = some (.string nm) := (blk_cell hf 1).trans rfl
              refine bodyPost_ret (v := .tuple #[.agg #[.int .u32 nd, .string nm], .int .i64 0]) (by simp [results, Tryd.results5, go_sem, c0, c1]) rfl ⟨T9, .inl ⟨HD.out, by rw [HND.out.1, HND.out.2]⟩⟩
            | false =>
              have HD : Hid (entB xs = false) := Lib.hid (by rw [HE1.out]; rfl)
              go_wp2_with fail
              have hf := blk_put (blk_put HP.out.1 0 (.int .u32 0) (cs' := #[(.int .u32 0), .string ⟨#[]⟩]) (by simp)) 1 (.string ⟨#[]⟩) (cs' := #[(.int .u32 0), (.string ⟨#[]⟩)]) (by simp)
              have T9 := bl_set (bl_set T5.out (p := ⟨w.heap.size, 0, none⟩) (Nat.le_refl _) (.int .u32 0)) (p := ⟨w.heap.size, 1, none⟩) (Nat.le_refl _) (.string ⟨#[]⟩)
              obtain ⟨w9, hw9⟩ : ∃ w9, ((w5.setCell ⟨w.heap.size, 0, none⟩ (.int .u32 0)).setCell ⟨w.heap.size, 1, none⟩ (.string ⟨#[]⟩)) = w9 := ⟨_, rfl⟩
              rw [hw9] at hf T9 ⊢
              have c0 : w9.cell? ⟨w.heap.size, 0, none⟩ = some (.int .u32 0) := (blk_cell hf 0).trans rfl
              have c1 : w9.cell? ⟨w.heap.size, 1, none⟩ = some (.string ⟨#[]⟩) := (blk_cell hf 1).trans rfl
              refine bodyPost_ret (v := .tuple #[.agg #[.int .u32 0, .string ⟨#[]⟩], .int .i64 62]) (by simp [results, Tryd.results5, go_sem, c0, c1]) rfl ⟨T9, .inr ⟨HD.out, rfl⟩⟩
          | false =>
            cases d1 with
            | true =>
              have HD : Hid (entB xs = false) := Lib.hid (by rw [HE1.out]; rfl)
              go_wp2_with fail
              have hf := blk_put (blk_put HP.out.1 0 (.int .u32 0) (cs' := #[(.int .u32 0), .string ⟨#[]⟩]) (by simp)) 1 (.string ⟨#[]⟩) (cs' := #[(.int .u32 0), (.string ⟨#[]⟩)]) (by simp)
              have T9 := bl_set (bl_set T5.out (p := ⟨w.heap.size, 0, none⟩) (Nat.le_refl _) (.int .u32 0)) (p := ⟨w.heap.size, 1, none⟩) (Nat.le_refl _) (.string ⟨#[]⟩)
              obtain ⟨w9, hw9⟩ : ∃ w9, ((w5.setCell ⟨w.heap.size, 0, none⟩ (.int .u32 0)).setCell ⟨w.heap.size, 1, none⟩ (.string ⟨#[]⟩)) = w9 := ⟨_, rfl⟩
              rw [hw9] at hf T9 ⊢
              have c0 : w9.cell? ⟨w.heap.size, 0, none⟩ = some (.int .u32 0) := (blk_cell hf 0).trans rfl
              have c1 : w9.cell? ⟨w.heap.size, 1, none⟩ = some (.string ⟨#[]⟩) := (blk_cell hf 1).trans rfl
              refine bodyPost_ret (v := .tuple #[.agg #[.int .u32 0, .string ⟨#[]⟩], .int .i64 62]) (by simp [results, Tryd.results5, go_sem, c0, c1]) rfl ⟨T9, .inr ⟨HD.out, rfl⟩⟩
            | false =>
              have HCK := Lib.hid (names_Check.calls nm (chkS nm) w5 rfl (HG.out.below T5.out))
              obtain ⟨ck, hck⟩ : ∃ ck, chkS nm = ck := ⟨_, rfl⟩
              rw [hck] at HE1 HCK
              clear hck
              have HE2 : Hid (entB xs = (ck == 0)) := Lib.hid (by rw [HE1.out]; simp)
              go_wp2_with fail
              refine HCK.out.mono ?_
              rintro e w6 ⟨rfl, hb6⟩
              have T6 := Lib.hid (bl_seq_ T5.out hb6)
              have HP6 := Lib.hid (And.intro (blk_below HP.out.1 hb6) (And.intro (blk_below HP.out.2.1 hb6) (blk_below HP.out.2.2 hb6)))
              clear hb6 zx0 zx1 y0 q0 y1 q1 zr
              have zx0 : w6.cell? ⟨w.heap.size + 1, 0, none⟩ = some (.int .u32 nd) := (blk_cell HP6.out.2.1 0).trans rfl
              have zx1 : w6.cell? ⟨w.heap.size + 1, 1, none⟩ = some (.string nm) := (blk_cell HP6.out.2.1 1).trans rfl
              have y0 := (blk_cell HP6.out.1 0).trans rfl
              have q0 := blk_frozen HP6.out.1 0
              have y1 := (blk_cell HP6.out.1 1).trans rfl
              have q1 := blk_frozen HP6.out.1 1
              by_cases hz : ck = 0
              · have hz1 : (ck != 0) = false := by rw [hz]; rfl
                have HD : Hid (entB xs = true) := Lib.hid (by rw [HE2.out, hz]; rfl)
                clear hz
                go_wp2_with fail
                have hf := blk_put (blk_put HP6.out.1 0 (.int .u32 nd) (cs' := #[(.int .u32 nd), .string ⟨#[]⟩]) (by simp)) 1 (.string nm) (cs' := #[(.int .u32 nd), (.string nm)]) (by simp)
                have T9 := bl_set (bl_set T6.out (p := ⟨w.heap.size, 0, none⟩) (Nat.le_refl _) (.int .u32 nd)) (p := ⟨w.heap.size, 1, none⟩) (Nat.le_refl _) (.string nm)
                obtain ⟨w9, hw9⟩ : ∃ w9, ((w6.setCell ⟨w.heap.size, 0, none⟩ (.int .u32 nd)).setCell ⟨w.heap.size, 1, none⟩ (.string nm)) = w9 := ⟨_, rfl⟩
                rw [hw9] at hf T9 ⊢
                have c0 : w9.cell? ⟨w.heap.size, 0, none⟩ = some (.int .u32 nd) := (blk_cell hf 0).trans rfl
                have c1 : w9.cell? ⟨w.heap.size, 1, none⟩ = some (.string nm) := (blk_cell hf 1).trans rfl
                refine bodyPost_ret (v := .tuple #[.agg #[.int .u32 nd, .string nm], .int .i64 0]) (by simp [results, Tryd.results5, go_sem, c0, c1]) rfl ⟨T9, .inl ⟨HD.out, by rw [HND.out.1, HND.out.2]⟩⟩
              · have hz1 : (ck != 0) = true := by simpa using hz
                have HD : Hid (entB xs = false) := Lib.hid (by rw [HE2.out]; simpa using hz)
                clear hz
                go_wp2_with fail
                have hf := blk_put (blk_put HP6.out.1 0 (.int .u32 0) (cs' := #[(.int .u32 0), .string ⟨#[]⟩]) (by simp)) 1 (.string ⟨#[]⟩) (cs' := #[(.int .u32 0), (.string ⟨#[]⟩)]) (by simp)
                have T9 := bl_set (bl_set T6.out (p := ⟨w.heap.size, 0, none⟩) (Nat.le_refl _) (.int .u32 0)) (p := ⟨w.heap.size, 1, none⟩) (Nat.le_refl _) (.string ⟨#[]⟩)
                obtain ⟨w9, hw9⟩ : ∃ w9, ((w6.setCell ⟨w.heap.size, 0, none⟩ (.int .u32 0)).setCell ⟨w.heap.size, 1, none⟩ (.string ⟨#[]⟩)) = w9 := ⟨_, rfl⟩
                rw [hw9] at hf T9 ⊢
                have c0 : w9.cell? ⟨w.heap.size, 0, none⟩ = some (.int .u32 0) := (blk_cell hf 0).trans rfl
                have c1 : w9.cell? ⟨w.heap.size, 1, none⟩ = some (.string ⟨#[]⟩) := (blk_cell hf 1).trans rfl
                refine bodyPost_ret (v := .tuple #[.agg #[.int .u32 0, .string ⟨#[]⟩], .int .i64 62]) (by simp [results, Tryd.results5, go_sem, c0, c1]) rfl ⟨T9, .inr ⟨HD.out, rfl⟩⟩
      · have HD : Hid (entB xs = false) := Lib.hid (by rw [HE.out]; simp [h32])
        have h32b : ((xs.length : Int) != 32) = true := by simp; omega
        go_wp2_with fail
        have hf := blk_put (blk_put HP.out.1 0 (.int .u32 0) (cs' := #[(.int .u32 0), .string ⟨#[]⟩]) (by simp)) 1 (.string ⟨#[]⟩) (cs' := #[(.int .u32 0), (.string ⟨#[]⟩)]) (by simp)
        have T9 := bl_set (bl_set T5.out (p := ⟨w.heap.size, 0, none⟩) (Nat.le_refl _) (.int .u32 0)) (p := ⟨w.heap.size, 1, none⟩) (Nat.le_refl _) (.string ⟨#[]⟩)
        obtain ⟨w9, hw9⟩ : ∃ w9, ((w5.setCell ⟨w.heap.size, 0, none⟩ (.int .u32 0)).setCell ⟨w.heap.size, 1, none⟩ (.string ⟨#[]⟩)) = w9 := ⟨_, rfl⟩
        rw [hw9] at hf T9 ⊢
        have c0 : w9.cell? ⟨w.heap.size, 0, none⟩ = some (.int .u32 0) := (blk_cell hf 0).trans rfl
        have c1 : w9.cell? ⟨w.heap.size, 1, none⟩ = some (.string ⟨#[]⟩) := (blk_cell hf 1).trans rfl
        refine bodyPost_ret (v := .tuple #[.agg #[.int .u32 0, .string ⟨#[]⟩], .int .i64 62]) (by simp [results, Tryd.results5, go_sem, c0, c1]) rfl ⟨T9, .inr ⟨HD.out, rfl⟩⟩
    · have hR5 := hM.blk HW.out.1 (by rintro (e | e) <;> omega)
      have T5 : Hid (Below w.heap.size w w5) := Lib.hid (HW.out.2.2.2.1.trans (hM.below (B := w.heap.size) (by have h_ := HW.out.2.2.2.2; omega) (by rintro i (rfl | rfl) <;> omega)))
      have HD : Hid (entB xs = false) := Lib.hid (by
        rw [entB]
        by_cases h32 : xs.length = 32
        · rcases hno with hno | ⟨nn, hnn, hno⟩
          · omega
          · have hnx : nX xs = nn := by rw [nX, hnn]; exact Int.toNat_natCast _
            have : ¬ nX xs ≤ 27 := by omega
            simp [this]
        · simp [h32])
      have HP := Lib.hid (And.intro hR5 True.intro)
      clear hM hR5 hno
      have y0 := (blk_cell HP.out.1 0).trans rfl
      have q0 := blk_frozen HP.out.1 0
      have y1 := (blk_cell HP.out.1 1).trans rfl
      have q1 := blk_frozen HP.out.1 1
      go_wp2_with fail
      have hf := blk_put (blk_put HP.out.1 0 (.int .u32 0) (cs' := #[(.int .u32 0), .string ⟨#[]⟩]) (by simp)) 1 (.string ⟨#[]⟩) (cs' := #[(.int .u32 0), (.string ⟨#[]⟩)]) (by simp)
      have T9 := bl_set (bl_set T5.out (p := ⟨w.heap.size, 0, none⟩) (Nat.le_refl _) (.int .u32 0)) (p := ⟨w.heap.size, 1, none⟩) (Nat.le_refl _) (.string ⟨#[]⟩)
      obtain ⟨w9, hw9⟩ : ∃ w9, ((w5.setCell ⟨w.heap.size, 0, none⟩ (.int .u32 0)).setCell ⟨w.heap.size, 1, none⟩ (.string ⟨#[]⟩)) = w9 := ⟨_, rfl⟩
      rw [hw9] at hf T9 ⊢
      have c0 : w9.cell? ⟨w.heap.size, 0, none⟩ = some (.int .u32 0) := (blk_cell hf 0).trans rfl
      have c1 : w9.cell? ⟨w.heap.size, 1, none⟩ = some (.string ⟨#[]⟩) := (blk_cell hf 1).trans rfl
      refine bodyPost_ret (v := .tuple #[.agg #[.int .u32 0, .string ⟨#[]⟩], .int .i64 62]) (by simp [results, Tryd.results5, go_sem, c0, c1]) rfl ⟨T9, .inr ⟨HD.out, rfl⟩⟩
end Go.Proofs.YtaomgddfkpcdhaaDoor.XDir
