import Derived.Test.YthmhbnpaalgdfaaCtexts
import Derived.Test.YthmhbnpaalgdfaaLight
import Derived.Deep.RegionHeld3
import Derived.Deep.DrawnRows
/-! The law CursorBack: what was laid is taken; its closure. -/
set_option linter.unusedVariables false
set_option linter.unusedSimpArgs false
namespace Go.Proofs.Ythmhbnpaalgdfaa
open Go.RowKit Go.Proofs.YthmhbnpaalgdfaaW.PrintWords
attribute [local go_sem ↓] Go.wp_at_zero Go.wp_at_succ
/-- What an item lays; noughts are left out. -/
def pieceL (r : It) : List Int := if r.k = 6 then [] else layL [] r.k r.n r.l
def backL (rs : List It) : List Int := rs.flatMap pieceL
theorem backL_at {rs : List It} {i : Nat} (h : i < rs.length) : ∃ Q, backL rs = backL (rs.take i) ++ (pieceL (rs.getD i default) ++ Q) ∧ backL (rs.take (i + 1)) = backL (rs.take i) ++ pieceL (rs.getD i default) := by
  have e : rs.getD i default = rs[i] := by rw [List.getD_eq_getElem?_getD, List.getElem?_eq_getElem h]; rfl
  refine ⟨backL (rs.drop (i + 1)), ?_, ?_⟩
  · conv => lhs; rw [← List.take_append_drop i rs, List.drop_eq_getElem_cons h]
    rw [e, backL, List.flatMap_append, List.flatMap_cons]; rfl
  · rw [backL, List.take_succ_eq_append_getElem h, List.flatMap_append, e, List.flatMap_cons, List.flatMap_nil, List.append_nil]; rfl
theorem num_lem (x : Int) (n : Nat) (m : Int) (h : m = 256 ^ n) : num (le x n) = x % m := by
  have hp : (0 : Int) < 256 ^ n := Int.pow_pos (by omega)
  rw [← le_mod x n m h, num_le _ _ (Int.emod_nonneg _ (by omega)) (by rw [h]; exact Int.emod_lt_of_pos _ hp)]
theorem taken {B P piece Q : List Int} {k n : Nat} (h : B = P ++ (piece ++ Q)) (hk : P.length = k) (hn : piece.length = n) : (B.drop k).take n = piece := by
  subst hk hn h
  rw [List.drop_left' rfl, List.take_left' rfl]
section
variable {w w0 wr w' : World} {p qs qe : Nat} {A : Option Addr} {m c : Nat}
def setB (p qs qe : Nat) : Nat → Prop := fun i => i = p ∨ i = qs ∨ i = qe
structure BG (w : World) (p qs qe : Nat) (A : Option Addr) (m c : Nat) (k : Nat) (wr : World) : Prop where
  rd : RdV wr p A m c (k : Int)
  mods : Mods (setB p qs qe) w wr
  bs : wr.heap[qs]? = some (.cells #[.bool true] 4 (0, 0))
  be : wr.heap[qe]? = some (.cells #[.int .i64 (-1)] 3 (0, 0))
theorem BG.step {k k' : Nat} (h : BG w p qs qe A m c k wr) (n1 : qs ≠ p) (n2 : qe ≠ p) (h1 : RdV w' p A m c (k' : Int)) (h2 : Mods (fun i => i = p) wr w') : BG w p qs qe A m c k' w' :=
  ⟨h1, h.mods.trans (h2.mono (fun i e => .inl e)), h2.blk h.bs n1, h2.blk h.be n2⟩
theorem BG.below {k : Nat} (h : BG w p qs qe A m c k wr) (hb : Below wr.heap.size wr w') : BG w p qs qe A m c k w' :=
  ⟨blk_below h.rd hb, h.mods.trans (Mods.of_below hb), blk_below h.bs hb, blk_below h.be hb⟩
theorem BG.put {k : Nat} (h : BG w p qs qe A m c k wr) (n1 : qs ≠ p) (n3 : qe ≠ qs) : BG w p qs qe A m c k (wr.setCell ⟨qs, 0, none⟩ (.bool true)) :=
  ⟨blk_far h.rd (p := ⟨qs, 0, none⟩) (Ne.symm n1) _, h.mods.at_ (.inl (.inr (.inl rfl))) 0 _, blk_put h.bs 0 _ (by simp), blk_far h.be (p := ⟨qs, 0, none⟩) n3 _⟩
end
def BackP (w : World) (p qs qe : Nat) (e : Ending) (w' : World) : Prop :=
  Mods (setB p qs qe) w w' ∧ e = .returned (.tuple #[]) ∧ w'.heap[qs]? = some (.cells #[.bool true] 4 (0, 0)) ∧ w'.heap[qe]? = some (.cells #[.int .i64 0] 3 (0, 0))
theorem same_self (xs : List Int) (A B : Option Addr) (n m c d : Nat) (w : World) (hx : ReadsInt w .u8 A n xs) (hy : ReadsInt w .u8 B m xs) (hb : Byt xs) :
    Calls Try.prog 16 #[.slice A n c, .slice B m d] w fun e w' => e = .returned (.bool true) ∧ Drawn0 w w' := by
  refine (rSame_any xs xs A B n m c d w hx hy hb hb).mono ?_
  rintro e w' ⟨he, hd⟩
  exact ⟨by rw [he]; simp, hd⟩
set_option maxHeartbeats 16000000 in
set_option maxRecDepth 100000 in
theorem back1_any (rs : List It) (w w0 : World) (p ql qs qe : Nat) (A Al : Option Addr) (m c cl : Nat) (hR : RdIts w0 Al rs) (hw : Below w0.heap.size w0 w) (hp : w0.heap.size ≤ p) (hs : w0.heap.size ≤ qs) (he : w0.heap.size ≤ qe) (h400 : ∀ r ∈ rs, r.l.length ≤ 400)
    (hb : ReadsInt w .u8 A m (backL rs)) (hy : Byt (backL rs)) (hc : m ≤ c) (hm : m ≤ 100000) (fA : ∀ a, A = some a → a.block ≠ p ∧ a.block ≠ qs ∧ a.block ≠ qe) (n1 : qs ≠ p) (n2 : qe ≠ p) (n3 : qe ≠ qs) (l1 : ql ≠ p) (l2 : ql ≠ qs) (l3 : ql ≠ qe)
    (bl : w.heap[ql]? = some (.cells #[.slice Al rs.length cl] 43 (0, 0))) (hg : BG w p qs qe A m c 0 w) :
    Calls Try.prog 39 #[.pointer (some ⟨p, 0, none⟩), .pointer (some ⟨ql, 0, none⟩), .pointer (some ⟨qs, 0, none⟩), .pointer (some ⟨qe, 0, none⟩)] w (BackP w p qs qe) := by
  have hlen := hR.1
  have HI := Lib.hid (And.intro hR (And.intro hw (And.intro h400 (And.intro hb (And.intro hy bl)))))
  have HM : Hid (m = (backL rs).length) := Lib.hid hb.1.symm
  have FA := Lib.hid fA
  have KR : Hid (∀ wr, Mods (setB p qs qe) w wr → RdIts wr Al rs ∧ ReadsInt wr .u8 A m (backL rs) ∧ wr.heap[ql]? = some (.cells #[.slice Al rs.length cl] 43 (0, 0))) := Lib.hid (fun wr hmm => by
    refine ⟨hR.below ((hw).trans (hmm.below (B := w0.heap.size) hw.size (by rintro i (rfl | rfl | rfl) <;> assumption))), hmm.reads hb (fun a ha e => ?_), hmm.blk bl ?_⟩
    · have := fA a ha
      rcases e with e | e | e <;> omega
    · rintro (e | e | e) <;> omega)
  have GS := Lib.hid hg
  have dA : Hid (∀ a, A = some a → a.block ≠ p) := Lib.hid (fun a ha => (fA a ha).1)
  clear hR hw h400 hb hy bl fA hg
  go_enter Try.func39, Try.ntmps39
  go_wp2
  go_loopw [5] (fun a wr => ∃ i : Nat, i ≤ rs.length ∧ a = .int .i64 (i : Int) ∧ Hid (BG w p qs qe A m c (backL (rs.take i)).length wr)) (fun a _ => rs.length - (intOf a).toNat)
  case atStart => exact ⟨0, Nat.zero_le _, rfl, GS⟩
  case round =>
    clear GS
    obtain ⟨i, hi, rfl, G⟩ := hrel
    have K1 := Lib.hid (KR.out wr G.out.mods)
    have zl : wr.cell? ⟨ql, 0, none⟩ = some (.slice Al rs.length cl) := (blk_cell K1.out.2.2 0).trans rfl
    by_cases hlt : i < rs.length
    · obtain ⟨ad, he, h1, h2, h3, h4, h5, h6, h7, h8⟩ := K1.out.1.2 i hlt
      obtain rfl := he
      obtain ⟨Q, hQ, hS⟩ := backL_at hlt
      have hr4 := HI.out.2.2.1 (rs.getD i default) (by rw [List.getD_eq_getElem?_getD, List.getElem?_eq_getElem hlt]; simp)
      obtain ⟨r0, hr0⟩ : ∃ r0, rs.getD i default = r0 := ⟨_, rfl⟩
      rw [hr0] at h1 h2 h3 h4 h5 h6 h7 h8 hr4 hQ hS
      have hr0' := hr0
      obtain ⟨kd, n, Ab, cb, xs⟩ := r0
      simp only at h1 h2 h3 h4 h5 h6 h7 h8 hr4
      have KI : Hid (∀ wr', Mods (setB p qs qe) w wr' → wr'.cell? ⟨(ad.add (i * 3)).block, (ad.add (i * 3)).off + 2, none⟩ = some (.slice Ab xs.length cb) ∧ ReadsInt wr' .u8 Ab xs.length xs) := Lib.hid (fun wr' hm => by
        obtain ⟨ad', he', k1, k2, k3, k4, k5, k6⟩ := (KR.out wr' hm).1.2 i hlt
        obtain rfl := Option.some.inj he'
        rw [hr0', add_field _ _ _ (by omega)] at k3
        rw [hr0'] at k5
        exact ⟨k3, k5⟩)
      clear hr0'
      obtain ⟨k, hk⟩ : ∃ k, (backL (rs.take i)).length = k := ⟨_, rfl⟩
      have HK := Lib.hid hk
      rw [hk] at G
      have HS := Lib.hid hS
      have HQ := Lib.hid hQ
      have hkm : k ≤ m := by have h_ := HM.out; rw [hQ, List.length_append, hk] at h_; omega
      have HX := Lib.hid (And.intro h5 h6)
      rw [add_field _ _ _ (by omega)] at h2 h3
      have zs : wr.cell? ⟨qs, 0, none⟩ = some (.bool true) := (blk_cell G.out.bs 0).trans rfl
      have fs := blk_frozen G.out.bs 0
      clear hr0 hk hS hQ h5 h6
      by_cases hv : kd = 1
      · obtain rfl : kd = 1 := hv
        have hpc : pieceL ⟨1, n, Ab, cb, xs⟩ = le n 1 := by simp [pieceL, layL]
        have hmk : k + 1 ≤ m := by have h_ := HM.out; rw [HQ.out, List.length_append, List.length_append, HK.out, hpc, le_length] at h_; omega
        have HP : Hid ((pieceL ⟨1, n, Ab, cb, xs⟩).length = 1) := Lib.hid (by rw [hpc, le_length])
        have htk : num (((backL rs).drop k).take 1) = n % 256 := by rw [taken HQ.out HK.out (by rw [hpc, le_length]), hpc, num_lem n 1 256 (by decide)]
        obtain ⟨z, hz⟩ : ∃ z, n % 256 = z := ⟨_, rfl⟩
        have hwz : IntKind.u8.wrap n = z := by rw [← hz]; simp [IntKind.wrap, IntKind.bits, IntKind.signed]
        rw [hz] at htk
        have HT := Lib.hid htk
        clear htk hpc hz
        go_wp2_with fail
        have hcal := mU8_yes p A m c k (backL rs) wr G.out.rd K1.out.2.1 HI.out.2.2.2.2.1 hc hmk dA.out
        rw [HT.out] at hcal
        refine hcal.mono ?_
        clear hcal
        rintro e w1 ⟨rfl, g1, g2⟩
        have G1 := Lib.hid (G.out.step n1 n2 g1 g2)
        clear g1 g2 zs fs
        have zs : w1.cell? ⟨qs, 0, none⟩ = some (.bool true) := (blk_cell G1.out.bs 0).trans rfl
        have fs := blk_frozen G1.out.bs 0
        go_wp2_with fail
        go_roundw
        case rel => exact ⟨i + 1, by omega, by go_num, by rw [HS.out, List.length_append, HK.out, HP.out]; exact Lib.hid (G1.out.put n1 n3)⟩
        case measure => simp [intOf]; omega
      have nv1 : (kd == 1) = false := by simpa using hv
      have mv1 := Lib.hid hv
      clear hv
      by_cases hv : kd = 2
      · obtain rfl : kd = 2 := hv
        have hpc : pieceL ⟨2, n, Ab, cb, xs⟩ = le n 2 := by simp [pieceL, layL]
        have hmk : k + 2 ≤ m := by have h_ := HM.out; rw [HQ.out, List.length_append, List.length_append, HK.out, hpc, le_length] at h_; omega
        have HP : Hid ((pieceL ⟨2, n, Ab, cb, xs⟩).length = 2) := Lib.hid (by rw [hpc, le_length])
        have htk : num (((backL rs).drop k).take 2) = n % 65536 := by rw [taken HQ.out HK.out (by rw [hpc, le_length]), hpc, num_lem n 2 65536 (by decide)]
        obtain ⟨z, hz⟩ : ∃ z, n % 65536 = z := ⟨_, rfl⟩
        have hwz : IntKind.u16.wrap n = z := by rw [← hz]; simp [IntKind.wrap, IntKind.bits, IntKind.signed]
        rw [hz] at htk
        have HT := Lib.hid htk
        clear htk hpc hz
        go_wp2_with fail
        have hcal := mU16_yes p A m c k (backL rs) wr G.out.rd K1.out.2.1 HI.out.2.2.2.2.1 hc hmk dA.out
        rw [HT.out] at hcal
        refine hcal.mono ?_
        clear hcal
        rintro e w1 ⟨rfl, g1, g2⟩
        have G1 := Lib.hid (G.out.step n1 n2 g1 g2)
        clear g1 g2 zs fs
        have zs : w1.cell? ⟨qs, 0, none⟩ = some (.bool true) := (blk_cell G1.out.bs 0).trans rfl
        have fs := blk_frozen G1.out.bs 0
        go_wp2_with fail
        go_roundw
        case rel => exact ⟨i + 1, by omega, by go_num, by rw [HS.out, List.length_append, HK.out, HP.out]; exact Lib.hid (G1.out.put n1 n3)⟩
        case measure => simp [intOf]; omega
      have nv2 : (kd == 2) = false := by simpa using hv
      have mv2 := Lib.hid hv
      clear hv
      by_cases hv : kd = 4
      · obtain rfl : kd = 4 := hv
        have hpc : pieceL ⟨4, n, Ab, cb, xs⟩ = le n 4 := by simp [pieceL, layL]
        have hmk : k + 4 ≤ m := by have h_ := HM.out; rw [HQ.out, List.length_append, List.length_append, HK.out, hpc, le_length] at h_; omega
        have HP : Hid ((pieceL ⟨4, n, Ab, cb, xs⟩).length = 4) := Lib.hid (by rw [hpc, le_length])
        have htk : num (((backL rs).drop k).take 4) = n % 4294967296 := by rw [taken HQ.out HK.out (by rw [hpc, le_length]), hpc, num_lem n 4 4294967296 (by decide)]
        obtain ⟨z, hz⟩ : ∃ z, n % 4294967296 = z := ⟨_, rfl⟩
        have hwz : IntKind.u32.wrap n = z := by rw [← hz]; simp [IntKind.wrap, IntKind.bits, IntKind.signed]
        rw [hz] at htk
        have HT := Lib.hid htk
        clear htk hpc hz
        go_wp2_with fail
        have hcal := mU32_yes p A m c k (backL rs) wr G.out.rd K1.out.2.1 HI.out.2.2.2.2.1 hc hmk dA.out
        rw [HT.out] at hcal
        refine hcal.mono ?_
        clear hcal
        rintro e w1 ⟨rfl, g1, g2⟩
        have G1 := Lib.hid (G.out.step n1 n2 g1 g2)
        clear g1 g2 zs fs
        have zs : w1.cell? ⟨qs, 0, none⟩ = some (.bool true) := (blk_cell G1.out.bs 0).trans rfl
        have fs := blk_frozen G1.out.bs 0
        go_wp2_with fail
        go_roundw
        case rel => exact ⟨i + 1, by omega, by go_num, by rw [HS.out, List.length_append, HK.out, HP.out]; exact Lib.hid (G1.out.put n1 n3)⟩
        case measure => simp [intOf]; omega
      have nv4 : (kd == 4) = false := by simpa using hv
      have mv4 := Lib.hid hv
      clear hv
      by_cases hv : kd = 8
      · obtain rfl : kd = 8 := hv
        have hpc : pieceL ⟨8, n, Ab, cb, xs⟩ = le n 8 := by simp [pieceL, layL]
        have hmk : k + 8 ≤ m := by have h_ := HM.out; rw [HQ.out, List.length_append, List.length_append, HK.out, hpc, le_length] at h_; omega
        have HP : Hid ((pieceL ⟨8, n, Ab, cb, xs⟩).length = 8) := Lib.hid (by rw [hpc, le_length])
        have htk : num (((backL rs).drop k).take 8) = n := by rw [taken HQ.out HK.out (by rw [hpc, le_length]), hpc, num_lem n 8 18446744073709551616 (by decide)]; omega
        have HT := Lib.hid htk
        clear htk hpc
        go_wp2_with fail
        have hcal := mU64_yes p A m c k (backL rs) wr G.out.rd K1.out.2.1 HI.out.2.2.2.2.1 hc hmk dA.out
        rw [HT.out] at hcal
        refine hcal.mono ?_
        clear hcal
        rintro e w1 ⟨rfl, g1, g2⟩
        have G1 := Lib.hid (G.out.step n1 n2 g1 g2)
        clear g1 g2 zs fs
        have zs : w1.cell? ⟨qs, 0, none⟩ = some (.bool true) := (blk_cell G1.out.bs 0).trans rfl
        have fs := blk_frozen G1.out.bs 0
        go_wp2_with fail
        go_roundw
        case rel => exact ⟨i + 1, by omega, by go_num, by rw [HS.out, List.length_append, HK.out, HP.out]; exact Lib.hid (G1.out.put n1 n3)⟩
        case measure => simp [intOf]; omega
      have nv8 : (kd == 8) = false := by simpa using hv
      have mv8 := Lib.hid hv
      clear hv
      by_cases hv : kd = 3
      · obtain rfl : kd = 3 := hv
        have hpc : pieceL ⟨3, n, Ab, cb, xs⟩ = xs := by simp [pieceL, layL]
        have hmk : k + xs.length ≤ m := by have h_ := HM.out; rw [HQ.out, List.length_append, List.length_append, HK.out, hpc] at h_; omega
        have HP : Hid ((pieceL ⟨3, n, Ab, cb, xs⟩).length = xs.length) := Lib.hid (by rw [hpc])
        have htk : ((backL rs).drop k).take xs.length = xs := by rw [taken HQ.out HK.out (by rw [hpc]), hpc]
        have HT := Lib.hid htk
        have HB : Hid (Byt xs) := Lib.hid HX.out.2
        clear htk hpc
        have GD := Lib.hid (G.out.below (bl_drew (Below.refl _ wr)))
        have KD := Lib.hid (KR.out wr.drew GD.out.mods)
        have ni1 : ql ≠ qs := l2
        have z3 := (KI.out wr G.out.mods).1
        go_wp2
        go_region_held3 (fun w' => w'.cell? ⟨qs, 0, none⟩ = some (.bool true) ∧ w'.cell? ⟨ql, 0, none⟩ = some (.slice (some ad) rs.length cl) ∧ w'.cell? ⟨(ad.add (i * 3)).block, (ad.add (i * 3)).off + 2, none⟩ = some (.slice Ab xs.length cb)) (first | go_keep | (with_reducible exact ⟨(blk_cell (G2.out.put n1 n3).bs 0).trans rfl, (blk_cell (KR.out _ (G2.out.put n1 n3).mods).2.2 0).trans rfl, (KI.out _ (G2.out.put n1 n3).mods).1⟩) | (exact ⟨(blk_cell (G2.out.put n1 n3).bs 0).trans rfl, (blk_cell (KR.out _ (G2.out.put n1 n3).mods).2.2 0).trans rfl, (KI.out _ (G2.out.put n1 n3).mods).1⟩) | fail)
          (first | (go_at_call 28; refine (mRaw_yes p A m c k xs.length (backL rs) wr.drew GD.out.rd KD.out.2.1 hc hmk (by omega) dA.out).mono ?_; rintro e w13 ⟨v13, rfl, ho13, g1, g2⟩; rw [HT.out] at ho13; obtain ⟨B13, q13, rfl⟩ := own_slice ho13; have R13 := Lib.hid (own_reads' ho13); have G1 := Lib.hid (GD.out.step n1 n2 g1 g2); clear g1 g2 ho13; have u1 : w13.cell? ⟨qs, 0, none⟩ = some (.bool true) := (blk_cell G1.out.bs 0).trans rfl; have u2 : w13.cell? ⟨ql, 0, none⟩ = some (.slice (some ad) rs.length cl) := (blk_cell (KR.out w13 G1.out.mods).2.2 0).trans rfl; have u3 := (KI.out w13 G1.out.mods).1; have u4 := blk_frozen G1.out.bs 0) | (go_at_call 16; refine (same_self xs B13 Ab xs.length xs.length q13 cb w13 R13.out (KI.out w13 G1.out.mods).2 HB.out).mono ?_; rintro e w14 ⟨rfl, hd14⟩; have G2 := Lib.hid (G1.out.below hd14.below); clear hd14; clear u1 u2 u3 u4; have u1 : w14.cell? ⟨qs, 0, none⟩ = some (.bool true) := (blk_cell G2.out.bs 0).trans rfl; have u2 : w14.cell? ⟨ql, 0, none⟩ = some (.slice (some ad) rs.length cl) := (blk_cell (KR.out w14 G2.out.mods).2.2 0).trans rfl; have u3 := (KI.out w14 G2.out.mods).1; have u4 := blk_frozen G2.out.bs 0) | fail)
        clear u1 u2 u3 u4
        go_wp2_with fail
        go_roundw
        case rel => exact ⟨i + 1, by omega, by go_num, by rw [HS.out, List.length_append, HK.out, HP.out]; exact Lib.hid (G2.out.put n1 n3)⟩
        case measure => simp [intOf]; omega
      have nv3 : (kd == 3) = false := by simpa using hv
      have mv3 := Lib.hid hv
      clear hv
      by_cases hv : kd = 5
      · obtain rfl : kd = 5 := hv
        have hpc : pieceL ⟨5, n, Ab, cb, xs⟩ = textL xs := by simp [pieceL, layL]
        obtain ⟨T, hTl⟩ : ∃ T, (xs.take 255).length = T := ⟨_, rfl⟩
        have hT255 : T ≤ 255 := by rw [← hTl, List.length_take]; omega
        have hlT : (textL xs).length = 1 + T := by rw [textL, List.length_cons, hTl]; omega
        have hmk : k + (1 + T) ≤ m := by have h_ := HM.out; rw [HQ.out, List.length_append, List.length_append, HK.out, hpc, hlT] at h_; omega
        have HP : Hid ((pieceL ⟨5, n, Ab, cb, xs⟩).length = 1 + T) := Lib.hid (by rw [hpc, hlT])
        have htk : ((backL rs).drop k).take (1 + T) = textL xs := by rw [taken HQ.out HK.out (by rw [hpc, hlT]), hpc]
        have htk1 : num (((backL rs).drop k).take 1) = (T : Nat) := by
          have h_ := congrArg (List.take 1) htk
          rw [List.take_take, show min 1 (1 + T) = 1 by omega] at h_
          rw [h_, textL, hTl]; simp [num]
        have htk2 : ((backL rs).drop (k + 1)).take T = xs.take 255 := by
          have h_ := congrArg (List.drop 1) htk
          rw [List.drop_take, List.drop_drop, show 1 + T - 1 = T by omega] at h_
          rw [h_, textL]; rfl
        have hbx : Byt xs := HX.out.2
        have hb2 : Byt (xs.take 255) := fun x hx => hbx x (List.mem_of_mem_take hx)
        obtain ⟨t, ht⟩ : ∃ t, strOfNums (xs.take 255) = t := ⟨_, rfl⟩
        obtain ⟨s2, hs2⟩ : ∃ s2, strOfNums xs = s2 := ⟨_, rfl⟩
        have hz1 : t.size = T := by rw [← bytesOf_length, ← ht, bytes_nums hb2, hTl]
        have hz2 : s2.size = xs.length := by rw [← bytesOf_length, ← hs2, bytes_nums hbx]
        have HT1 : Hid (t.size ≤ 1099511627776 ∧ textL (bytesOf t) = textL xs) := Lib.hid ⟨by omega, by rw [← ht, bytes_nums hb2, textL, textL, List.take_take, Nat.min_self]⟩
        have HT2 : Hid (s2.size ≤ 1099511627776 ∧ textL (bytesOf s2) = textL xs) := Lib.hid ⟨by omega, by rw [← hs2, bytes_nums hbx]⟩
        have HB : Hid (Byt (textL xs)) := Lib.hid (textL_byt hbx)
        have KS : Hid (∀ W kk, BG w p qs qe A m c kk W → W.cell? ⟨qs, 0, none⟩ = some (.bool true) ∧ W.cell? ⟨ql, 0, none⟩ = some (.slice (some ad) rs.length cl) ∧ W.cell? ⟨(ad.add (i * 3)).block, (ad.add (i * 3)).off + 2, none⟩ = some (.slice Ab xs.length cb) ∧ (convert 22 9 (.slice Ab xs.length cb)).run Try.prog W = .ok (.string s2) W) := Lib.hid (fun W kk g => ⟨(blk_cell g.bs 0).trans rfl, (blk_cell (KR.out W g.mods).2.2 0).trans rfl, (KI.out W g.mods).1, by rw [← hs2]; exact string_of_reads (P := Try.prog) (c := cb) Try.underlying22 Try.underlying5 Try.underlying9 (KI.out W g.mods).2⟩)
        have GD := Lib.hid (G.out.below (bl_drew (Below.refl _ wr)))
        have KD := Lib.hid (KR.out wr.drew GD.out.mods)
        have hcal := mText_yes p A m c k T (backL rs) wr.drew GD.out.rd KD.out.2.1 HI.out.2.2.2.2.1 hc htk1 (by omega) dA.out
        rw [htk2, ht, show k + 1 + T = k + (1 + T) from by omega] at hcal
        have HC := Lib.hid hcal
        clear hcal htk htk1 htk2 ht hs2 hz1 hz2 hpc hTl hlT hbx hb2
        have u0 := KS.out wr _ G.out
        obtain ⟨u1, u2, u3, u5⟩ := u0
        go_wp2
        clear u1 u2 u3 u5
        go_region_held3 (fun w' => w'.cell? ⟨qs, 0, none⟩ = some (.bool true) ∧ w'.cell? ⟨ql, 0, none⟩ = some (.slice (some ad) rs.length cl) ∧ w'.cell? ⟨(ad.add (i * 3)).block, (ad.add (i * 3)).off + 2, none⟩ = some (.slice Ab xs.length cb) ∧ (convert 22 9 (.slice Ab xs.length cb)).run Try.prog w' = .ok (.string s2) w') (first | (with_reducible exact KS.out _ _ GD.out) | (with_reducible exact KS.out _ _ G1.out) | (with_reducible exact KS.out _ _ G2.out) | (with_reducible exact KS.out _ _ G3.out) | (with_reducible exact KS.out _ _ G4.out) | (with_reducible exact KS.out _ _ (G4.out.put n1 n3)) | fail)
          (first | (go_at_call 23; with_reducible refine HC.out.mono ?_; rintro e w13 ⟨rfl, g1, g2⟩; have G1 := Lib.hid (GD.out.step n1 n2 g1 g2); clear g1 g2; have u0 := KS.out w13 _ G1.out; obtain ⟨u1, u2, u3, u5⟩ := u0; have u4 := blk_frozen G1.out.bs 0) | (go_at_call 40; with_reducible refine (rText_any t w13 HT1.out.1).mono ?_; rintro e w14 ⟨v14, rfl, hn14⟩; rw [HT1.out.2] at hn14; obtain ⟨A14, c14, rfl, hc14⟩ := hn14.slice; have N14 := Lib.hid hn14.reads; have G2 := Lib.hid (G1.out.below hn14.bel); clear hn14 u1 u2 u3 u4 u5; have u0 := KS.out w14 _ G2.out; obtain ⟨u1, u2, u3, u5⟩ := u0; have u4 := blk_frozen G2.out.bs 0) | (go_at_call 40; with_reducible refine (rText_any s2 w14 HT2.out.1).mono ?_; rintro e w15 ⟨v15, rfl, hn15⟩; rw [HT2.out.2] at hn15; obtain ⟨A15, c15, rfl, hc15⟩ := hn15.slice; have N15 := Lib.hid (And.intro (N14.out.below hn15.bel) hn15.reads); have G3 := Lib.hid (G2.out.below hn15.bel); clear hn15 u1 u2 u3 u4 u5; have u0 := KS.out w15 _ G3.out; obtain ⟨u1, u2, u3, u5⟩ := u0; have u4 := blk_frozen G3.out.bs 0) | (go_at_call 16; with_reducible refine (same_self (textL xs) A14 A15 (textL xs).length (textL xs).length c14 c15 w15 N15.out.1 N15.out.2 HB.out).mono ?_; rintro e w16 ⟨rfl, hd16⟩; have G4 := Lib.hid (G3.out.below hd16.below); clear hd16 u1 u2 u3 u4 u5; have u0 := KS.out w16 _ G4.out; obtain ⟨u1, u2, u3, u5⟩ := u0; have u4 := blk_frozen G4.out.bs 0) | fail)
        clear u1 u2 u3 u4 u5
        go_wp2_with fail
        go_roundw
        case rel => exact ⟨i + 1, by omega, by go_num, by rw [HS.out, List.length_append, HK.out, HP.out]; exact Lib.hid (G4.out.put n1 n3)⟩
        case measure => simp [intOf]; omega
      have nv5 : (kd == 5) = false := by simpa using hv
      have mv5 := Lib.hid hv
      clear hv
      have hpc : pieceL ⟨kd, n, Ab, cb, xs⟩ = [] := by
        by_cases h6 : kd = 6
        · simp [pieceL, h6]
        · simp [pieceL, layL, h6, mv1.out, mv2.out, mv3.out, mv4.out, mv5.out, mv8.out]
      have HP : Hid ((pieceL ⟨kd, n, Ab, cb, xs⟩).length = 0) := Lib.hid (by rw [hpc]; rfl)
      clear hpc
      go_wp2_with fail
      refine (mLeft p A m c k wr G.out.rd hkm (by omega)).mono ?_
      rintro e w1 ⟨rfl, q, rfl⟩
      have G1 := Lib.hid (G.out.below (bl_drewN (Below.refl _ _) q))
      have hge : (0 : Int) ≤ (m : Int) - k := by omega
      go_wp2_with fail
      go_roundw
      case rel => exact ⟨i + 1, by omega, by go_num, by rw [HS.out, List.length_append, HK.out, HP.out]; exact Lib.hid (G1.out.put n1 n3)⟩
      case measure => simp [intOf]; omega
    · obtain rfl : i = rs.length := by omega
      rw [List.take_length] at G
      have hkm : (backL rs).length = m := HM.out.symm
      rw [hkm] at G
      clear hkm
      go_wp2_with fail
      refine (mLeft p A m c m wr G.out.rd (Nat.le_refl _) (by omega)).mono ?_
      rintro e w1 ⟨rfl, q, rfl⟩
      have G1 := Lib.hid (G.out.below (bl_drewN (Below.refl _ _) q))
      have ze : (wr.drewN q).cell? ⟨qe, 0, none⟩ = some (.int .i64 (-1)) := (blk_cell G1.out.be 0).trans rfl
      have fe := blk_frozen G1.out.be 0
      have hmm : (m : Int) - m = 0 := by omega
      rw [hmm]
      go_wp2_with fail
      go_end0
      exact ⟨G1.out.mods.at_ (.inl (.inr (.inr rfl))) 0 _, rfl, blk_far G1.out.bs (p := ⟨qe, 0, none⟩) (Ne.symm n3) _, blk_put G1.out.be 0 _ (cs' := #[.int .i64 0]) (by simp)⟩
end Go.Proofs.Ythmhbnpaalgdfaa
