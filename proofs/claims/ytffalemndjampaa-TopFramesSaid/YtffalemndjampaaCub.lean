import Derived.Test.YtffalemndjampaaCur
/-! The writer of package cursor, further: Raw, Text, Pad, Bytes. -/
namespace Go.Proofs.Ytffalemndjampaa
open Go.RowKit Go.Proofs.YtffalemndjampaaW.PrintWords
set_option maxHeartbeats 1000000 in
theorem Raw_any (base p : Nat) (v : Value) (l xs : List Int) (A : Option Addr) (n c : Nat) (w : World) (h : WrV w base p v l) (hbp : base ≤ p) (hB : base ≤ w.heap.size) (hr : ReadsInt w .u8 A n xs) (hl : l.length + n ≤ 1099511627776) : Calls Try.prog 9 #[.pointer (some ⟨p, 0, none⟩), .slice A n c] w fun e w' => e = .returned (.pointer (some ⟨p, 0, none⟩)) ∧ WrS w base p v (l ++ xs) w' := by
  obtain ⟨B, d, rfl⟩ := h.slice
  have hc := h.cell
  have hf := h.free
  have HV := Lib.hid h
  have HR := Lib.hid hr
  have HL := Lib.hid hl
  clear h hr hl
  go_enter Try.func9, Try.ntmps9
  go_wp2_with (at_builtin; refine print_append_row (w0 := w) base rfl (.tmp 11) (.tmp 12) 27 5 .u8 1 rfl Try.underlying27 info5' (by decide) (.slice B l.length d) l xs A n c rfl rfl ?aO ?aR (Below.refl _ _) hB ?aL ?_; (case aO => exact HV.out.own); (case aR => exact HR.out); (case aL => have := HL.out; omega); intro v2 w2 ho hb hg hat; obtain ⟨A2, n2, c2, rfl⟩ := own_slice' ho; have hb2 := blk_grown HV.out.blk hg HV.out.ne; have hc2 := (blk_cell hb2 0).trans rfl; have hf2 := blk_frozen hb2 0; have G2 := Lib.hid (And.intro ho (And.intro hb (And.intro hg hat))); clear ho hb hg hat hb2)
  go_ret
  exact ⟨rfl, WrS.put ⟨HV.out, KeepBut.refl _ _ _, .inl rfl, Below.refl _ _⟩ hbp G2.out.1 G2.out.2.1 G2.out.2.2.1 G2.out.2.2.2⟩
set_option maxHeartbeats 1000000 in
theorem Bytes_any (base p : Nat) (v : Value) (l : List Int) (w : World) (h : WrV w base p v l) (hl : l.length ≤ 1099511627776) : Calls Try.prog 6 #[.pointer (some ⟨p, 0, none⟩)] w fun e w' => ∃ v', e = .returned v' ∧ w'.ownsRow w.heap.size 5 1 v' l.length (nums .u8 l) ∧ Below w.heap.size w w' := by
  obtain ⟨B, d, rfl⟩ := h.slice
  have hc := h.cell
  have hr := own_reads' h.own
  have HV := Lib.hid h
  have HR := Lib.hid hr
  have HL := Lib.hid hl
  clear h hr hl
  go_enter Try.func6, Try.ntmps6
  go_wp2_with (at_builtin; refine print_append_row (w0 := w) w.heap.size rfl (.const (.slice none 0 0)) (.tmp 8) 27 5 .u8 1 rfl Try.underlying27 info5' (by decide) (.slice none 0 0) [] l B l.length d rfl rfl (own_nil _ _ _ _) ?aR (Below.refl _ _) (Nat.le_refl _) ?aL ?_; (case aR => exact HR.out); (case aL => have := HL.out; simp; omega); intro v2 w2 ho hb hg hat; have G2 := Lib.hid (And.intro ho hb); clear ho hb hg hat)
  go_ret
  exact ⟨_, rfl, G2.out.1, G2.out.2⟩
set_option maxHeartbeats 1000000 in
theorem Pad_any (base p : Nat) (v : Value) (l : List Int) (n : Int) (w : World) (h : WrV w base p v l) (hbp : base ≤ p) (hB : base ≤ w.heap.size) (hn : n ≤ 1099511627776) (hl : l.length ≤ 1099511627776) : Calls Try.prog 45 #[.pointer (some ⟨p, 0, none⟩), .int .i64 n] w fun e w' => e = .returned (.pointer (some ⟨p, 0, none⟩)) ∧ WrS w base p v (l ++ List.replicate (n.toNat - l.length) 0) w' := by
  have HP := Lib.hid (WrS.refl h)
  have HL := Lib.hid hl
  clear h hl
  go_enter Try.func45, Try.ntmps45
  go_wp2
  go_loopg [] (n.toNat - l.length) (fun kq wr => ∃ k : Nat, k + kq = n.toNat - l.length ∧ Hid (WrS w base p v (l ++ List.replicate k 0) wr))
  case atStart => exact ⟨0, by omega, by simpa using HP⟩
  case round =>
    obtain ⟨k, hk, HW⟩ := hrel
    clear HP
    obtain ⟨v1, g1, g2, g3, g4⟩ := HW.out
    obtain ⟨A, m, c, rfl⟩ := own_slice' g1.own
    have hc := g1.cell
    have hf := g1.free
    have hm : m = l.length + k := by
      obtain ⟨A', c', e⟩ := g1.slice
      injection e with e1 e2 e3
      rw [e2]; simp
    have HM := Lib.hid hm
    by_cases hlt : (m : Int) < n
    · have G := Lib.hid (And.intro g1 (And.intro g2 (And.intro g3 g4)))
      clear g1 g2 g3 g4 hm
      obtain ⟨gk, rfl⟩ : ∃ g, gk = g + 1 := ⟨gk - 1, by have := HM.out; omega⟩
      have HK := Lib.hid hk
      clear hk
      go_wp2_with (at_builtin; refine print_append_num (w0 := wr) base rfl (.tmp 18) (.tmp 19) 27 5 .u8 1 rfl Try.underlying27 info5' (by decide) (.slice A m c) (l ++ List.replicate k 0) 0 rfl rfl ?aO (Below.refl _ _) ?aS ?aL ?_; (case aO => exact G.out.1.own); (case aS => have := G.out.2.2.2.size; omega); (case aL => have h1_ := HL.out; have h2_ := HM.out; have h3_ := HK.out; simp; omega); intro v2 w2 ho hb hg hat; obtain ⟨A2, n2, c2, rfl⟩ := own_slice' ho; have hb2 := blk_grown G.out.1.blk hg G.out.1.ne; have hc2 := (blk_cell hb2 0).trans rfl; have hf2 := blk_frozen hb2 0; have G2 := Lib.hid (And.intro ho (And.intro hb (And.intro hg hat))); clear ho hb hg hat hb2)
      go_roundg gk
      case measure => omega
      case rel => exact ⟨k + 1, by have := HK.out; omega, by have h_ := WrS.put G.out hbp G2.out.1 G2.out.2.1 G2.out.2.2.1 G2.out.2.2.2; rw [List.append_assoc, ← List.replicate_succ'] at h_; exact Lib.hid h_⟩
    · have e : n.toNat - l.length = k := by omega
      have H2 := Lib.hid e
      clear e g1 g2 g3 g4 hk hm
      go_wp2
      go_ret
      exact ⟨rfl, by rw [H2.out]; exact HW.out⟩
end Go.Proofs.Ytffalemndjampaa
