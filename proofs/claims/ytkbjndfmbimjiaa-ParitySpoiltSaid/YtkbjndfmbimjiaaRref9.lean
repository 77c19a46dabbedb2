import Derived.Test.YtkbjndfmbimjiaaMpar
import Derived.Test.YtkbjndfmbimjiaaPrs2
/-! The document's header: its bytes, by the printed functions of gabionref05. -/
set_option linter.unusedVariables false
set_option linter.unusedSimpArgs false
namespace Go.Proofs.Ytkbjndfmbimjiaa
open Go.RowKit Go.Proofs.YtkbjndfmbimjiaaW.PrintWords Go.Proofs.Ytkbjndfmbimjiaa.PParityPages
theorem w64 {i : Int} (h0 : -9223372036854775808 ≤ i) (h1 : i ≤ 9223372036854775807) : wrap64 i = i := by unfold wrap64; omega
theorem wu64 {i : Int} (h0 : 0 ≤ i) (h1 : i < 18446744073709551616) : IntKind.u64.wrap i = i := by rw [IntKind.wrap_u64]; omega
theorem pBytes (n : Nat) : ∀ (k : Nat) (x m : Int) (acc : List Int) (i : Int), n < k → 0 ≤ x → x < 18446744073709551616 → 0 ≤ i → i + n = m → m ≤ 1000 → acc.length ≤ 1000000 - n → gabionref01_Bytes.l0 k x m acc i = some (acc ++ le x n) := by
  induction n with
  | zero =>
    intro k x m acc i hk h0 h1 hi hm hm2 ha
    obtain ⟨k, rfl⟩ : ∃ q, k = q + 1 := ⟨k - 1, by omega⟩
    simp only [gabionref01_Bytes.l0]
    rw [if_neg (by omega), le, List.append_nil]
  | succ n ih =>
    intro k x m acc i hk h0 h1 hi hm hm2 ha
    obtain ⟨k, rfl⟩ : ∃ q, k = q + 1 := ⟨k - 1, by omega⟩
    have e1 : Int.tdiv x 256 = x / 256 := Int.tdiv_eq_ediv_of_nonneg h0
    have e2 : Int.tmod x 256 = x % 256 := Int.tmod_eq_emod_of_nonneg h0
    simp only [gabionref01_Bytes.l0]
    rw [if_pos (by omega), if_pos (by omega), e1, e2, wu64 (by omega) (by omega), w64 (by omega) (by omega), ih k (x / 256) m _ (i + 1) (by omega) (by omega) (by omega) (by omega) (by omega) hm2 (by first | (simp; done) | (simp; omega)), show x % 256 % 256 = x % 256 by omega, le]
    simp
theorem pBytes_f (n k : Nat) (x : Int) (hk : n < k) (h0 : 0 ≤ x) (h1 : x < 18446744073709551616) (hn : n ≤ 1000) : gabionref01_Bytes.f k x (n : Int) = some (le x n) := by
  rw [gabionref01_Bytes.f, pBytes n k x n [] 0 hk h0 h1 (by omega) (by omega) (by omega) (by first | (simp; done) | (simp; omega)), List.nil_append]
theorem pBytesW (n k : Nat) (x : Int) (hk : n < k) (h0 : 0 ≤ x) (h1 : x < 18446744073709551616) (hn : n ≤ 1000) : gabionref01_Bytes.f k (IntKind.u64.wrap x) (n : Int) = some (le x n) := by rw [wu64 h0 h1]; exact pBytes_f n k x hk h0 h1 hn
theorem pPad32 (xs : List Int) (hl : xs.length ≤ 32) : gabionref01_Pad.f xs 32 = some (padL xs 32) := by
  have e0 : wrap64 (0 + (xs.length : Int)) = (xs.length : Int) := by rw [w64 (by omega) (by omega)]; omega
  have e1 : gabionref01_Part.f xs 0 (xs.length : Int) = some xs := by
    have e2 : (xs.take ((xs.length : Int)).toNat).drop (0 : Int).toNat = xs := by simp
    rw [gabionref01_Part.f, e0, if_pos (by omega), if_pos (by omega), if_pos (by omega), e2, if_pos (by simp; omega), List.nil_append]
  rw [gabionref01_Pad.f, e1]
  simp only [Option.bind_some]
  by_cases h : (xs.length : Int) < 32
  · have e3 : wrap64 (32 - (xs.length : Int)) = 32 - (xs.length : Int) := w64 (by omega) (by omega)
    have e4 : ((32 : Int) - (xs.length : Int)).toNat = (32 : Int).toNat - xs.length := by omega
    rw [if_pos h, e3, gabionref01_Zeros.f, if_pos (by omega), if_pos (by omega)]
    simp only [Option.bind_some]
    rw [if_pos (by simp; omega), padL, e4]
  · have e4 : (32 : Int).toNat - xs.length = 0 := by omega
    rw [if_neg h, padL, e4]
    simp
theorem pOfB (x0 : List Int) (i : Int) : ∀ (t k : Nat) (V : BitVec 32), t ≤ 8 → gabionref02_Of.l1 (k + t + 1) x0 (V.toNat : Int) i ((8 - t : Nat) : Int) = gabionref02_Of.l0 k x0 ((crcN t V).toNat : Int) (wrap64 (i + 1))
  | 0, k, V, _ => by
    simp only [gabionref02_Of.l1]
    rw [if_neg (by omega)]
    rfl
  | t + 1, k, V, h => by
    have hV := V.isLt
    have e1 : Int.tdiv (V.toNat : Int) 2 = (V.toNat : Int) / 2 := Int.tdiv_eq_ediv_of_nonneg (by omega)
    have e2 : Int.tmod (V.toNat : Int) 2 = (V.toNat : Int) % 2 := Int.tmod_eq_emod_of_nonneg (by omega)
    have e3 : (V.toNat : Int) / 2 % 4294967296 = (V.toNat : Int) / 2 := by omega
    have hb : V.getLsbD 0 = decide (V.toNat % 2 = 1) := by rw [BitVec.getLsbD, Nat.testBit_zero]
    have e4 : wrap64 (((8 - (t + 1) : Nat) : Int) + 1) = ((8 - t : Nat) : Int) := by rw [w64 (by omega) (by omega)]; omega
    obtain ⟨q, hq⟩ : ∃ q, q = k + t + 1 := ⟨_, rfl⟩
    rw [show k + (t + 1) + 1 = q + 1 by omega]
    simp only [gabionref02_Of.l1]
    rw [hq]
    rw [if_pos (by omega), e1, e2, e3, e4]
    by_cases h2 : V.toNat % 2 = 1
    · rw [if_pos (by omega), crc_odd (by rw [hb]; simp [h2]), pOfB x0 i t k (crcT V) (by omega)]
      rfl
    · rw [if_neg (by omega), crc_even (by rw [hb]; simp [h2]), pOfB x0 i t k (crcT V) (by omega)]
      rfl
theorem pOf (xs : List Int) (hb : Byt xs) (hl : xs.length ≤ 1000000) : ∀ (m k j : Nat) (S : BitVec 32), j + m = xs.length → 10 * m < k → gabionref02_Of.l0 k xs (S.toNat : Int) (j : Int) = some ((4294967295 - ((crcS S (xs.drop j)).toNat : Int)) % 4294967296)
  | 0, k, j, S, h, hk => by
    obtain ⟨k, rfl⟩ : ∃ q, k = q + 1 := ⟨k - 1, by omega⟩
    simp only [gabionref02_Of.l0]
    rw [if_neg (by omega), List.drop_of_length_le (by omega)]
    rfl
  | m + 1, k, j, S, h, hk => by
    obtain ⟨k, rfl⟩ : ∃ q, k = (q + 8 + 1) + 1 := ⟨k - 10, by omega⟩
    have hlt : j < xs.length := by omega
    have hx := hb xs[j] (List.getElem_mem _)
    have e0 : rd xs (j : Int) = xs[j] := by rw [rd_getD, List.getD_eq_getElem?_getD, List.getElem?_eq_getElem hlt]; rfl
    have e1 : xs[j] % 4294967296 = xs[j] := by omega
    simp only [gabionref02_Of.l0]
    rw [if_pos (by omega), if_pos (by omega), e0, e1, crc_in S _ hx]
    have e2 := pOfB xs (j : Int) 8 k (S ^^^ crcV xs[j]) (Nat.le_refl _)
    rw [show ((8 - 8 : Nat) : Int) = 0 from rfl] at e2
    rw [e2, w64 (by omega) (by omega), show (j : Int) + 1 = ((j + 1 : Nat) : Int) by omega, pOf xs hb hl m k (j + 1) _ (by omega) (by omega), List.drop_eq_getElem_cons hlt]
    rfl
theorem pOf_f (xs : List Int) (hb : Byt xs) (hl : xs.length ≤ 1000000) (k : Nat) (hk : 10 * xs.length < k) : gabionref02_Of.f k xs = some (crcOf xs) := by
  have h := pOf xs hb hl xs.length k 0 (~~~ 0#32) (by omega) hk
  rw [List.drop_zero] at h
  have hlt := (crcS (~~~ 0#32) xs).isLt
  rw [gabionref02_Of.f]
  refine h.trans ?_
  rw [crcOf, BitVec.toNat_not]
  congr 1
  omega
theorem seal_assoc (h : Hd) (xs ys : List Int) : (((fieldsL h ++ le (sumL h xs ys) 4) ++ List.replicate 4 0) ++ tailL ys) = sealL h xs ys := by
  rw [sealL]
  simp [le]
theorem pSeal (h : Hd) (xs ys : List Int) (k : Nat) (ho : h.ok) (bx : Byt xs) (by_ : Byt ys) (hl : xs.length ≤ 900000) (hk : 10 * xs.length + 1000 < k) : gabionref05_Seal.f k h.k h.e h.b h.i h.c h.l h.m xs ys = some (sealL h xs ys) := by
  have b1 := pBytes_f 2 k 22356 (by omega) (by omega) (by omega) (by omega)
  have b2 := pBytesW 4 k h.e (by omega) ho.e0 (by have := ho.e1; omega) (by omega)
  have b3 := pBytesW 4 k h.b (by omega) ho.b0 (by have := ho.b1; omega) (by omega)
  have b4 := pBytesW 2 k h.i (by omega) ho.i0 (by have := ho.i1; omega) (by omega)
  have b5 := pBytesW 2 k h.c (by omega) ho.c0 (by have := ho.c1; omega) (by omega)
  have b6 := pBytesW 4 k h.l (by omega) ho.l0 (by have := ho.l1; omega) (by omega)
  have b7 := pBytesW 4 k h.m (by omega) ho.m0 (by have := ho.m1; omega) (by omega)
  have hf : ((((((([] ++ le 22356 2) ++ [h.k % 256, 0]) ++ le h.e 4) ++ le h.b 4) ++ le h.i 2) ++ le h.c 2) ++ le h.l 4) ++ le h.m 4 = fieldsL h := by simp [fieldsL, le]
  have hj : ∀ zs, zs.length ≤ 32 → padL zs 32 = tailL ys → gabionref05_Seal.j0 k xs zs (fieldsL h) = some (sealL h xs ys) := by
    intro zs hz he
    obtain ⟨q, rfl⟩ : ∃ q, k = q + 1 := ⟨k - 1, by omega⟩
    have ht := tailL_length ys
    have p1 := pPad32 zs hz
    rw [he] at p1
    have p2 := pOf_f (fieldsL h ++ xs ++ tailL ys) (byt_append (byt_append (fieldsL_byt h) bx) (tailL_byt by_)) (by simp [fieldsL_length, ht]; omega) q (by simp [fieldsL_length, ht]; omega)
    have hs : 0 ≤ sumL h xs ys ∧ sumL h xs ys < 4294967296 := crcOf_bound _
    have p3 := pBytesW 4 q (sumL h xs ys) (by omega) hs.1 (by omega) (by omega)
    have p4 : gabionref01_Zeros.f 4 = some (List.replicate 4 0) := by rw [gabionref01_Zeros.f, if_pos (by omega), if_pos (by decide)]; rfl
    have hlf := fieldsL_length h
    generalize hF : fieldsL h = F at *
    generalize hT : tailL ys = T at *
    simp only [gabionref05_Seal.j0, p1, Option.bind_some, List.nil_append, List.length_nil, Nat.zero_add]
    rw [if_pos (by omega), if_pos (by omega), if_pos (by simp; omega), p2]
    simp only [Option.bind_some]
    rw [show crcOf (F ++ xs ++ T) = sumL h xs ys by rw [sumL, hF, hT]]
    rw [show (4 : Int) = ((4 : Nat) : Int) from rfl, p3]
    simp only [Option.bind_some]
    rw [if_pos (by rw [le_length]; omega)]
    rw [show (((4 : Nat) : Int)) = 4 from rfl, p4]
    simp only [Option.bind_some]
    rw [if_pos (by simp [le_length]; omega), if_pos (by simp [le_length]; omega)]
    congr 1
    rw [← seal_assoc, hF, hT]
  rw [show ((2 : Nat) : Int) = 2 from rfl] at b1 b4 b5
  rw [show ((4 : Nat) : Int) = 4 from rfl] at b2 b3 b6 b7
  rw [gabionref05_Seal.f]
  simp only [b1, b2, b3, b4, b5, b6, b7, Option.bind_some]
  simp only [List.length_append, le_length, List.length_nil, List.length_cons]
  simp only [show (0 + 2 < 140737488355328) = True from by simp, if_true]
  repeat rw [if_pos (by omega)]
  rw [hf]
  by_cases h32 : (ys.length : Int) > 32
  · rw [if_pos h32, if_pos (by omega)]
    exact hj _ (by rw [List.length_take]; omega) rfl
  · rw [if_neg h32]
    exact hj _ (by omega) (by rw [tailL, List.take_of_length_le (by omega)])
theorem foot_reads {w : World} {A : Option Addr} {n : Nat} {xs : List Int} (h : ReadsInt w .u8 A n xs) : Kd.F (Kd.int .u8) w (fun _ => True) A n xs := by
  intro W' hk
  refine Kd.C_of_reads (h1 := fun _ => rfl) (readsInt_of.1 ⟨h.1, h.2.1, fun hn => ?_⟩)
  obtain ⟨ad, e, hc⟩ := h.2.2 hn
  refine ⟨ad, e, fun j hj => ?_⟩
  have hlt := World.block_lt_of_cell? w _ (hc j hj)
  rw [World.cell?_of_block (w := w) (hk _ trivial hlt)]
  exact hc j hj
set_option maxHeartbeats 1000000 in
theorem rSeal05 (h : Hd) (A B : Option Addr) (c d n m : Nat) (xs ys : List Int) (w : World) (ho : h.ok) (hr : ReadsInt w .u8 A n xs) (hc : n ≤ c) (bx : Byt xs) (hl : n ≤ 900000) (hs : ReadsInt w .u8 B m ys) (hd : m ≤ d) (by_ : Byt ys) :
    Calls Try.prog 21 #[.agg #[.int .i64 h.k, .int .i64 h.e, .int .i64 h.b, .int .i64 h.i, .int .i64 h.c, .int .i64 h.l, .int .i64 h.m], .slice A n c, .slice B m d] w fun e w' => ∃ v, e = .returned v ∧ New w w' v (sealL h xs ys) := by
  have e1 := hr.1
  have e2 := hs.1
  subst e1 e2
  have h := gabionref05_Seal.calls (10 * xs.length + 2000) h.k h.e h.b h.i h.c h.l h.m A c xs (fun _ => True) B d ys (sealL h xs ys) w (Kd.C_of_reads (h1 := fun _ => rfl) (readsInt_of.1 hr)) hc (Kd.V_mk hd (foot_reads hs)) (pSeal h xs ys _ ho bx by_ hl (by omega))
  refine h.mono ?_
  rintro e w' ⟨v, he, hR, hb⟩
  exact ⟨v, he, Kd.own_of_R hR, hb⟩
theorem of05 (h : Hd) (w : World) (ho : h.ok) : Calls Try.prog 17 #[.agg (hdC h)] w fun e w' => e = .returned (.agg #[.int .i64 h.k, .int .i64 h.e, .int .i64 h.b, .int .i64 h.i, .int .i64 h.c, .int .i64 h.l, .int .i64 h.m]) ∧ Below w.heap.size w w' := by
  have e1 := w64 (i := h.k) (by have := ho.k0; omega) (by have := ho.k1; omega)
  have e2 := w64 (i := h.e) (by have := ho.e0; omega) (by have := ho.e1; omega)
  have e3 := w64 (i := h.b) (by have := ho.b0; omega) (by have := ho.b1; omega)
  have e4 := w64 (i := h.i) (by have := ho.i0; omega) (by have := ho.i1; omega)
  have e5 := w64 (i := h.c) (by have := ho.c0; omega) (by have := ho.c1; omega)
  have e6 := w64 (i := h.l) (by have := ho.l0; omega) (by have := ho.l1; omega)
  have e7 := w64 (i := h.m) (by have := ho.m0; omega) (by have := ho.m1; omega)
  exact gabionlaw09_of.calls h.k h.e h.b h.i h.c h.l h.m _ _ _ _ _ _ _ w (by rw [gabionlaw09_of.f, e1, e2, e3, e4, e5, e6, e7])
end Go.Proofs.Ytkbjndfmbimjiaa
