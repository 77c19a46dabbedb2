/-! The sum's bit step: it is linear, and one to one. Plain law. -/
namespace Go.Proofs.Ytffalemndjampaa
def crcP : BitVec 32 := 0x82F63B78#32
def crcT (s : BitVec 32) : BitVec 32 := (s >>> 1) ^^^ (if s.getLsbD 0 then crcP else 0#32)
theorem crcT_xor (a b : BitVec 32) : crcT (a ^^^ b) = crcT a ^^^ crcT b := by
  apply BitVec.eq_of_getLsbD_eq
  intro i hi
  simp only [crcT, BitVec.getLsbD_xor, BitVec.getLsbD_ushiftRight]
  cases a.getLsbD 0 <;> cases b.getLsbD 0 <;> simp <;> cases a.getLsbD (1 + i) <;> cases b.getLsbD (1 + i) <;> cases crcP.getLsbD i <;> rfl
theorem crcT_zero {s : BitVec 32} (h : crcT s = 0#32) : s = 0#32 := by
  have h31 : (crcT s).getLsbD 31 = false := by rw [h]; rfl
  have hl : s.getLsbD 0 = false := by
    cases h0 : s.getLsbD 0
    · rfl
    · have e : (crcT s).getLsbD 31 = true := by
        simp only [crcT, BitVec.getLsbD_xor, BitVec.getLsbD_ushiftRight, h0, if_true]
        rw [BitVec.getLsbD_of_ge s (1 + 31) (by omega)]
        decide
      rw [e] at h31
      cases h31
  apply BitVec.eq_of_getLsbD_eq
  intro i hi
  cases i with
  | zero => rw [hl]; rfl
  | succ i =>
    have e := congrArg (fun z => z.getLsbD i) h
    simp only [crcT, BitVec.getLsbD_xor, BitVec.getLsbD_ushiftRight, hl] at e
    simp at e
    rw [Nat.add_comm] at e
    simpa using e
theorem crcT_inj {a b : BitVec 32} (h : crcT a = crcT b) : a = b := by
  have h0 : crcT (a ^^^ b) = 0#32 := by rw [crcT_xor, h]; simp
  have h1 := crcT_zero h0
  have h2 : a ^^^ b ^^^ b = b := by rw [h1]; simp
  rwa [BitVec.xor_assoc, BitVec.xor_self, BitVec.xor_zero] at h2
def crcN : Nat → BitVec 32 → BitVec 32
  | 0, s => s
  | n + 1, s => crcN n (crcT s)
theorem crcN_inj : ∀ (n : Nat) {a b : BitVec 32}, crcN n a = crcN n b → a = b
  | 0, _, _, h => h
  | n + 1, _, _, h => crcT_inj (crcN_inj n h)
theorem crcN_xor : ∀ (n : Nat) (a b : BitVec 32), crcN n (a ^^^ b) = crcN n a ^^^ crcN n b
  | 0, _, _ => rfl
  | n + 1, a, b => by rw [crcN, crcT_xor, crcN_xor n]; rfl
/-- The state behind some bytes. -/
def crcB (s : BitVec 32) (l : List (BitVec 32)) : BitVec 32 := l.foldl (fun s c => crcN 8 (s ^^^ c)) s
theorem crcB_append (s : BitVec 32) (l m : List (BitVec 32)) : crcB s (l ++ m) = crcB (crcB s l) m := by simp [crcB]
/-- States that differ go on to differ, whatever bytes follow. -/
theorem crcB_inj (l : List (BitVec 32)) : ∀ {a b : BitVec 32}, crcB a l = crcB b l → a = b := by
  induction l with
  | nil => intro a b h; exact h
  | cons c l ih =>
    intro a b h
    have h1 := crcN_inj 8 (ih (a := crcN 8 (a ^^^ c)) (b := crcN 8 (b ^^^ c)) h)
    have h2 : a ^^^ c ^^^ c = b ^^^ c ^^^ c := by rw [h1]
    simpa [BitVec.xor_assoc] using h2
end Go.Proofs.Ytffalemndjampaa
