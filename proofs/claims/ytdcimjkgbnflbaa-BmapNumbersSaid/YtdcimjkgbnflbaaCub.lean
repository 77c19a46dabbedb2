import Derived.Test.YtdcimjkgbnflbaaCur
/-! The writer of package cursor, further: Raw, Text, Pad, Bytes. -/
namespace Go.Proofs.Ytdcimjkgbnflbaa
open Go.RowKit Go.Proofs.YtdcimjkgbnflbaaW.PrintWords
set_option maxHeartbeats 1000000 in
theorem Bytes_any (base p : Nat) (v : Value) (l : List Int) (w : World) (h : WrV w base p v l) (hl : l.length ≤ 1099511627776) : Calls Try.prog 20 #[.pointer (some ⟨p, 0, none⟩)] w fun e w' => ∃ v', e = .returned v' ∧ w'.ownsRow w.heap.size 5 1 v' l.length (nums .u8 l) ∧ Below w.heap.size w w' := by
  obtain ⟨B, d, rfl⟩ := h.slice
  have hc := h.cell
  have hr := own_reads' h.own
  have HV := Lib.hid h
  have HR := Lib.hid hr
  have HL := Lib.hid hl
  clear h hr hl
  go_enter Try.func20, Try.ntmps20
  go_wp2_with (at_builtin; refine print_append_row (w0 := w) w.heap.size rfl (.const (.slice none 0 0)) (.tmp 8) 39 5 .u8 1 rfl Try.underlying39 info5' (by decide) (.slice none 0 0) [] l B l.length d rfl rfl (own_nil _ _ _ _) ?aR (Below.refl _ _) (Nat.le_refl _) ?aL ?_; (case aR => exact HR.out); (case aL => have := HL.out; simp; omega); intro v2 w2 ho hb hg hat; have G2 := Lib.hid (And.intro ho hb); clear ho hb hg hat)
  go_ret
  exact ⟨_, rfl, G2.out.1, G2.out.2⟩
end Go.Proofs.Ytdcimjkgbnflbaa
