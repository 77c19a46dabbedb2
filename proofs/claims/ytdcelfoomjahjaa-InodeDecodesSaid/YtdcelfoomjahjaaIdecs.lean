import Derived.Test.YtdcelfoomjahjaaIdecy
import Derived.Test.YtdcelfoomjahjaaIdecn
import Derived.Test.YtdcelfoomjahjaaIdech
/-! The law InodeDecodes: its walk, joined. -/
namespace Go.Proofs.Ytdcelfoomjahjaa
open Go.RowKit Go.Proofs.YtdcelfoomjahjaaW.PrintWords Go.Proofs.YtdcelfoomjahjaaW.PrintLast Go.Proofs.Ytdcelfoomjahjaa.PInodeDecodes
theorem idec_walk (xs ts us : List Int) (A At Cc : Option Addr) (c ct cc : Nat) (k l s : Int) (d : Nat → Int) (na nb : Int) (w : World) (k0 : 0 ≤ k) (k1 : k < 256) (l0 : 0 ≤ l) (l1 : l < 65536) (s0 : 0 ≤ s) (s1 : s < 4294967296) (hd : ∀ j, 0 ≤ d j ∧ d j < 4294967296) (a0 : 0 ≤ na) (a1 : na < 4294967296) (b0 : 0 ≤ nb) (b1 : nb < 4294967296) (hx : ReadsInt w .u8 A xs.length xs) (hxb : Byt xs) (hxc : xs.length ≤ c) (fA : ∀ a, A = some a → a.block < w.heap.size) (ht : ReadsInt w .i64 At ts.length ts) (hu : ReadsInt w .u8 Cc us.length us) (hub : Byt us)
    (rt : ∀ x ∈ ts, -9223372036854775808 ≤ x ∧ x ≤ 9223372036854775807) :
    Calls Try.prog 8 #[.agg #[.slice A xs.length c, .int .u8 k, .int .u16 l, .int .u32 s, .int .u32 (d 0), .int .u32 (d 1), .int .u32 (d 2), .int .u32 (d 3), .int .u32 (d 4), .int .u32 (d 5), .int .u32 (d 6), .int .u32 (d 7), .int .u32 na, .int .u32 nb, .slice At ts.length ct, .slice Cc us.length cc]] w fun e w' => e = .returned (.bool true) ∧ Below w.heap.size w w' := by
  by_cases hh : 200 < xs.length ∨ 6 < ts.length ∨ us.length < ts.length
  · exact idec_heavy xs ts us A At Cc c ct cc k l s d na nb w k0 k1 l0 l1 s0 s1 hd a0 a1 b0 b1 hx hxb hxc fA ht hu hub hh rt
  · cases hcase : okB xs with
    | true => exact idec_yes xs ts us A At Cc c ct cc k l s d na nb w k0 k1 l0 l1 s0 s1 hd a0 a1 b0 b1 hx hxb hxc fA ht hu hub (by omega) (by omega) (by omega) rt hcase
    | false => exact idec_no xs ts us A At Cc c ct cc k l s d na nb w k0 k1 l0 l1 s0 s1 hd a0 a1 b0 b1 hx hxb hxc fA ht hu hub (by omega) (by omega) (by omega) rt hcase
end Go.Proofs.Ytdcelfoomjahjaa
