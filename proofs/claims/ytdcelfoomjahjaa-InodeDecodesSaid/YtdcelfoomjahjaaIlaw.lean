import Derived.Test.YtdcelfoomjahjaaIpure
import Derived.Test.YtdcelfoomjahjaaLain
/-! An inode's bytes, and what they are: plain laws; the document's functions by contract. -/
set_option linter.unusedVariables false
set_option linter.unusedSimpArgs false
namespace Go.Proofs.Ytdcelfoomjahjaa
open Go.RowKit Go.Proofs.YtdcelfoomjahjaaW.PrintWords Go.Proofs.Ytdcelfoomjahjaa.PInodeDecodes
/-- An inode's bytes. -/
def encL (k l s : Int) (at' : List Int) : List Int := padL ([k % 256, 0] ++ le l 2 ++ le s 4 ++ les 4 at') 64
theorem inoL_eq (k l s : Int) (d : Nat → Int) (a b : Int) (k0 : 0 ≤ k) (k1 : k < 256) : inoL k l s (d 0) (d 1) (d 2) (d 3) (d 4) (d 5) (d 6) (d 7) a b = encL k l s (ats d a b) := by
  have h1 : les 1 [k, 0] = [k % 256, 0] := by simp [les, le]
  have h2 : ats d a b = [d 0, d 1, d 2, d 3, d 4, d 5, d 6, d 7] ++ [a, b] := rfl
  have h3 : ∀ (n : Nat) (xs ys : List Int), les n (xs ++ ys) = les n xs ++ les n ys := fun n xs ys => by simp [les]
  have h4 : ∀ x : Int, les 2 [x] = le x 2 := fun x => by simp [les]
  have h5 : ∀ x : Int, les 4 [x] = le x 4 := fun x => by simp [les]
  rw [inoL, encL, h1, h2, h3, h4, h5]
  simp only [List.nil_append, List.append_assoc]
theorem at_mid (P Q : List Int) (v : Int) (n : Nat) (h0 : 0 ≤ v) (h1 : v < 256 ^ n) : at_ (P ++ (le v n ++ Q)) P.length n = v := by
  rw [at_, List.drop_left' rfl, List.take_left' (le_length v n), num_le v n h0 h1]
theorem at_les (L : List Int) : ∀ (P Q : List Int) (j : Nat) (hj : j < L.length), (∀ x ∈ L, 0 ≤ x ∧ x < 4294967296) → at_ (P ++ (les 4 L ++ Q)) (P.length + 4 * j) 4 = L[j] := by
  induction L with
  | nil => intro P Q j hj; simp at hj
  | cons x L ih =>
    intro P Q j hj hx
    have hx0 := hx x (by simp)
    rw [les_cons, List.append_assoc]
    cases j with
    | zero => exact at_mid P (les 4 L ++ Q) x 4 hx0.1 (by simpa using hx0.2)
    | succ j =>
      have h := ih (P ++ le x 4) Q j (by simpa using hj) (fun y hy => hx y (by simp [hy]))
      rw [List.length_append, le_length, List.append_assoc] at h
      rw [show P.length + 4 * (j + 1) = P.length + 4 + 4 * j by omega, h]
      rfl
theorem encL_len (k l s : Int) (at' : List Int) (h : at'.length = 10) : (encL k l s at').length = 64 := by
  rw [encL, padL]
  simp only [List.length_append, List.length_replicate, le_length, les_length, h, List.length_cons, List.length_nil]
  rfl
theorem encL_byt (k l s : Int) (at' : List Int) : Byt (encL k l s at') := by
  intro x hx
  rw [encL, padL] at hx
  simp only [List.mem_append, List.mem_cons, List.not_mem_nil, or_false] at hx
  rcases hx with ((((rfl | rfl) | hx) | hx) | hx) | hx
  · omega
  · omega
  · exact le_byt _ _ x hx
  · exact le_byt _ _ x hx
  · rw [les, List.mem_flatMap] at hx
    obtain ⟨y, _, hy⟩ := hx
    exact le_byt _ _ x hy
  · rw [(List.mem_replicate.1 hx).2]; omega
structure EncAt (k l s : Int) (at' xs : List Int) : Prop where
  fk : at_ xs 0 1 = k
  fz : at_ xs 1 1 = 0
  fl : at_ xs 2 2 = l
  fs : at_ xs 4 4 = s
  fa : ∀ (j : Nat) (hj : j < at'.length), at_ xs (8 + 4 * j) 4 = at'[j]
  ft : (xs.drop 48).all (· == 0) = true
theorem encL_at (k l s : Int) (at' : List Int) (k0 : 0 ≤ k) (k1 : k < 256) (l0 : 0 ≤ l) (l1 : l < 65536) (s0 : 0 ≤ s) (s1 : s < 4294967296) (h : at'.length = 10) (hx : ∀ x ∈ at', 0 ≤ x ∧ x < 4294967296) : EncAt k l s at' (encL k l s at') := by
  have hk : k % 256 = k := by omega
  obtain ⟨R, hR⟩ : ∃ R, List.replicate ((64 : Int).toNat - ([k % 256, 0] ++ le l 2 ++ le s 4 ++ les 4 at').length) (0 : Int) = R := ⟨_, rfl⟩
  have e : encL k l s at' = [k, 0] ++ le l 2 ++ le s 4 ++ les 4 at' ++ R := by rw [encL, padL, hR, hk]
  refine ⟨?_, ?_, ?_, ?_, ?_, ?_⟩
  · rw [e]; simp [at_, num]
  · rw [e]; simp [at_, num]
  · have h1 := at_mid [k, 0] (le s 4 ++ (les 4 at' ++ R)) l 2 l0 (by simpa using l1)
    rw [e]; simpa [List.append_assoc] using h1
  · have h1 := at_mid ([k, 0] ++ le l 2) (les 4 at' ++ R) s 4 s0 (by simpa using s1)
    rw [e]
    simpa [List.append_assoc, le_length] using h1
  · intro j hj
    have h1 := at_les at' ([k, 0] ++ le l 2 ++ le s 4) R j hj hx
    rw [e]
    simpa [List.append_assoc, le_length] using h1
  · rw [encL, padL, List.drop_left' (by simp only [List.length_append, le_length, les_length, h, List.length_cons, List.length_nil])]
    simp
theorem at_one (xs : List Int) (i : Nat) (h : i < xs.length) : at_ xs i 1 = rd xs i := by
  rw [rd_get, List.getD_eq_getElem?_getD, List.getElem?_eq_getElem h, at_, List.drop_eq_getElem_cons h]
  simp only [List.take_succ_cons, List.take_zero, num, Option.getD_some]
  omega
theorem ats_get (d : Nat → Int) (a b : Int) : (ats d a b).length = 10 := by simp [ats, dL_len]
theorem inoEq_congr {k l s : Int} {d e : Nat → Int} {a b : Int} {k' l' s' : Int} {d' : Nat → Int} {a' b' : Int} (h : ∀ j, j < 8 → d j = e j) : inoEq k l s d a b k' l' s' d' a' b' = inoEq k l s e a b k' l' s' d' a' b' := by
  simp only [inoEq, h 0 (by omega), h 1 (by omega), h 2 (by omega), h 3 (by omega), h 4 (by omega), h 5 (by omega), h 6 (by omega), h 7 (by omega)]
theorem ats_at (d : Nat → Int) (a b : Int) (j : Nat) (hj : j < 8) (h : j < (ats d a b).length) : (ats d a b)[j] = d j := by
  have : j = 0 ∨ j = 1 ∨ j = 2 ∨ j = 3 ∨ j = 4 ∨ j = 5 ∨ j = 6 ∨ j = 7 := by omega
  rcases this with rfl | rfl | rfl | rfl | rfl | rfl | rfl | rfl <;> rfl
theorem ats_bound {d : Nat → Int} {a b : Int} (hd : ∀ j, 0 ≤ d j ∧ d j < 4294967296) (a0 : 0 ≤ a) (a1 : a < 4294967296) (b0 : 0 ≤ b) (b1 : b < 4294967296) : ∀ x ∈ ats d a b, 0 ≤ x ∧ x < 4294967296 := by
  intro x hx
  simp only [ats, dL, List.mem_append, List.mem_map, List.mem_cons, List.not_mem_nil, or_false] at hx
  rcases hx with ⟨j, _, rfl⟩ | rfl | rfl
  · exact hd j
  · exact ⟨a0, a1⟩
  · exact ⟨b0, b1⟩
/-- What an inode's bytes are decoded to. -/
structure DecAt (k l s : Int) (d : Nat → Int) (a b : Int) (xs : List Int) : Prop where
  fk : at_ xs 0 1 = k
  fl : at_ xs 2 2 = l
  fs : at_ xs 4 4 = s
  fd : ∀ j, j < 8 → dirX xs j = d j
  fa : at_ xs 40 4 = a
  fb : at_ xs 44 4 = b
  ok : decB xs = (decide (k ≤ 2) && (!(k == 0) || inoEq k l s d a b 0 0 0 dirN 0 0))
theorem enc_dec (k l s : Int) (d : Nat → Int) (a b : Int) (k0 : 0 ≤ k) (k1 : k < 256) (l0 : 0 ≤ l) (l1 : l < 65536) (s0 : 0 ≤ s) (s1 : s < 4294967296) (hd : ∀ j, 0 ≤ d j ∧ d j < 4294967296) (a0 : 0 ≤ a) (a1 : a < 4294967296) (b0 : 0 ≤ b) (b1 : b < 4294967296) :
    DecAt k l s d a b (encL k l s (ats d a b)) := by
  have h := encL_at k l s (ats d a b) k0 k1 l0 l1 s0 s1 (ats_get d a b) (ats_bound hd a0 a1 b0 b1)
  have hl := encL_len k l s (ats d a b) (ats_get d a b)
  have hg := ats_get d a b
  have e1 : ∀ j, j < 8 → dirX (encL k l s (ats d a b)) j = d j := by
    intro j hj
    rw [dirX, dirA, if_pos hj, h.fa j (by omega), ats_at d a b j hj]
  have e2 : at_ (encL k l s (ats d a b)) 40 4 = a := by have := h.fa 8 (by omega); exact this
  have e3 : at_ (encL k l s (ats d a b)) 44 4 = b := by have := h.fa 9 (by omega); exact this
  refine ⟨h.fk, h.fl, h.fs, e1, e2, e3, ?_⟩
  rw [decB, hl, rightB, h.fz, h.ft, h.fk, emptyB, h.fk, h.fl, h.fs, e2, e3, inoEq_congr e1]
  simp
set_option maxHeartbeats 1000000 in
theorem rEncode17 (k l s : Int) (L : List Int) (A : Option Addr) (c : Nat) (w : World) (hr : ReadsInt w .i64 A 10 L) (hc : 10 ≤ c) (hx : ∀ x ∈ L, 0 ≤ x ∧ x < 4294967296) (l0 : 0 ≤ l) (l1 : l < 65536) (s0 : 0 ≤ s) (s1 : s < 4294967296) :
    Calls Try.prog 17 #[.agg #[.int .i64 k, .int .i64 l, .int .i64 s, .slice A 10 c]] w fun e w' => ∃ v, e = .returned v ∧ New w w' v (encL k l s L) := by
  have hL : L.length = 10 := hr.1
  have h := gabionref17_Encode.calls 30 k l s A c L _ w (Kd.C_of_reads (h1 := fun _ => rfl) (readsInt_of.1 (by rw [hL]; exact hr))) (by omega) (pEncode 30 k l s L (by omega) hL hx l0 l1 s0 s1)
  rw [hL] at h
  refine h.mono ?_
  rintro e w' ⟨v, he, hR, hb⟩
  exact ⟨v, he, Kd.own_of_R hR, hb⟩
def dec17 (xs : List Int) : Int × Int × Int × List Int × Int := if okB xs then (rd xs 0, at_ xs 2 2, at_ xs 4 4, numsOf xs 10, 0) else (0, 0, 0, [], 62)
set_option maxHeartbeats 1000000 in
theorem rDecode17 (xs : List Int) (A : Option Addr) (c : Nat) (w : World) (hr : ReadsInt w .u8 A xs.length xs) (hc : xs.length ≤ c) (hb : Byt xs) :
    Calls Try.prog 20 #[.slice A xs.length c] w fun e w' => ∃ v, e = .returned (.tuple #[.agg #[.int .i64 (dec17 xs).1, .int .i64 (dec17 xs).2.1, .int .i64 (dec17 xs).2.2.1, v], .int .i64 (dec17 xs).2.2.2.2]) ∧ w'.ownsRow w.heap.size 2 1 v (dec17 xs).2.2.2.1.length (nums .i64 (dec17 xs).2.2.2.1) ∧ Below w.heap.size w w' := by
  have h := gabionref17_Decode.calls 200 A c xs (dec17 xs).1 (dec17 xs).2.1 (dec17 xs).2.2.1 (dec17 xs).2.2.2.1 (dec17 xs).2.2.2.2 w (Kd.C_of_reads (h1 := fun _ => rfl) (readsInt_of.1 hr)) hc (by rw [pDecode 200 xs (by omega) hb]; rfl)
  refine h.mono ?_
  rintro e w' ⟨v, he, hR, hb⟩
  exact ⟨v, he, Kd.own_of_R hR, hb⟩
end Go.Proofs.Ytdcelfoomjahjaa
