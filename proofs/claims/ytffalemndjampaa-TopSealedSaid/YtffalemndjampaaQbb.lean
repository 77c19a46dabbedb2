/- What the proof of TopSealed leans on: Xv. -/
import Derived.Test.YtffalemndjampaaQba
set_option linter.unusedVariables false
set_option linter.unusedSimpArgs false
namespace Go.Proofs.Ytffalemndjampaa
open Go.RowKit Go.Proofs.YtffalemndjampaaW.PrintWords Go.Proofs.YtffalemndjampaaW.PrintLast
set_option maxHeartbeats 64000000 in
set_option maxRecDepth 100000 in
theorem fillT (Q : Exit → Act → World → Prop) (w w8 : World) (ar : Ar) (vp gh gl nR cR k b : Nat) (ad : Addr) (er : Bool) (cI : Int) (hb6 : b < 6) (hlt : k < nR) (hn60 : nR ≤ 60)
  (HW0 : Hid (True ∧ True ∧ True ∧ w8.heap.size ≤ gh ∧ w8.heap.size ≤ vp ∧ gl = gh + 1 ∧ (∀ k, ar.M k → k < w8.heap.size) ∧ w.heap.size ≤ w8.heap.size ∧ ∀ k, ar.M k → w.heap.size ≤ k))
  (HC : Hid (w.cell? ⟨(ad.add (k * 3)).block, (ad.add (k * 3)).off + 1, none⟩ = some (.bool er) ∧ w.cell? ⟨(ad.add (k * 3)).block, (ad.add (k * 3)).off + 2, none⟩ = some (.int .u8 cI) ∧ 0 ≤ cI ∧ cI < 256)) (HLN : Hid (EvOk ar.evs ∧ openB (leftD ar.lf) (leftO ar.lf) = false)) (wP : World) (H : Nat → Prop) (s : St) (T : Tb) (held : Nat → List Hd) (hv : Nat → Value) (last : Hd) (f0 f1 f4 f5 f6 f7 f8 f10 f11 f12 f13 f21 f22 f23 f24 f25 f26 f27 f28 f29 f30 f31 f32 f33 f34 f35 f36 f37 f38 f39 f40 f41 f42 f43 f44 f45 f46 f47 f48 f49 f50 f51 f52 f53 f54 f55 f56 f57 f58 f59 f60 f61 f62 f63 f64 f65 f66 f67 f68 f69 f70 f71 f72 f73 f74 f75 f76 f77 f78 f79 f80 f81 f82 f83 f84 f85 f86 f87 f88 f89 f90 f91 f92 f93 f94 f95 f96 f97 f98 f99 f100 f101 f102 f103 f104 f105 f106 f107 f108 f109 f110 f111 f112 f113 f114 f115 f116 f117 f118 f119 f120 f121 f122 f123 f124 f125 f126 f127 f128 f129 f130 f131 f132 f133 f134 f135 f136 f137 f138 f139 f140 f141 f142 f143 f144 f145 f146 f147 f148 f149 f150 f151 f152 f153 f154 f155 f156 f157 f158 f159 f160 f161 f162 f163 f164 f165 f166 f167 f168 f169 f170 f171 f172 f173 f174 f175 f176 f177 f178 f179 f180 f181 f182 f183 f184 f185 f186 f187 f188 f189 f190 f191 f192 f193 f194 f195 f196 f197 f198 f199 f200 f201 f202 f203 f204 f205 f206 f207 f208 f209 f210 f211 f212 f213 f214 f215 f216 f217 f218 f219 f220 f221 f222 f223 f224 f225 f226 f227 f228 f229 f230 f231 f232 f233 f234 f235 f236 f237 f238 f239 f240 f241 f242 f243 f244 f245 f246 f247 f248 f249 f250 f251 f252 f253 f254 f255 f256 f257 f258 f259 f260 f261 f262 f263 f264 f265 f266 f267 f268 f269 f270 f271 f272 f273 f274 f275 f276 f277 f278 f279 f280 f281 f282 : Value) (hs0 : 0 ≤ s.ops) (hs1 : s.ops ≤ 64 + 100 * (k : Int) + 12) (hsq : T.seq ≤ 3 + 2 * (k : Int)) (hnb : (held b).length < 6) (HP : Hid (RowSt wP ar vp gh gl (gh + 2) H s T held hv last ∧ WK w w8 ar wP ∧ Inv ar s T held))
  (hQN : ∀ (t20 t21 t22 t116 t117 t118 t119 t120 t121 t122 t123 t124 t125 t126 t127 t128 t129 t130 t131 t132 t133 t134 t135 t136 t137 t138 t139 t140 t141 t142 t143 t144 t145 t146 t147 t148 t149 t150 t151 t152 t153 t154 t155 t156 t157 t158 t159 t160 t161 t162 t163 t164 t165 t166 t167 t168 t169 t170 t171 t172 t173 t174 t175 t176 t177 t178 t179 t180 t181 t182 t183 t184 t185 t186 t187 t188 t189 t190 t191 t192 t193 t194 t195 t196 t197 t198 t199 t200 : Value) (wr : World) (H' : Nat → Prop) (s' : St) (T' : Tb) (held' : Nat → List Hd) (hv' : Nat → Value) (last' : Hd), 0 ≤ s'.ops → s'.ops ≤ 64 + 100 * ((k + 1 : Nat) : Int) → T'.seq ≤ 2 + 2 * ((k + 1 : Nat) : Int) → Hid (RowSt wr ar vp gh gl (gh + 2) H' s' T' held' hv' last' ∧ WK w w8 ar wr ∧ Inv ar s' T' held') → Q .normal ⟨#[f0, f1, .bool false, .slice (some ad) nR cR, f4, f5, f6, f7, f8, .int .i64 0, f10, f11, f12, f13, .pointer (some ⟨ar.p, 0, none⟩), .pointer (some ⟨vp, 0, none⟩), .pointer (some ⟨gh, 0, none⟩), .int .i64 (-1), .pointer (some ⟨gl, 0, none⟩), .int .i64 (k : Int), t20, t21, t22, f23, f24, f25, f26, f27, f28, f29, f30, f31, f32, f33, f34, f35, f36, f37, f38, f39, f40, f41, f42, f43, f44, f45, f46, f47, f48, f49, f50, f51, f52, f53, f54, f55, f56, f57, f58, f59, f60, f61, f62, f63, f64, f65, f66, f67, f68, f69, f70, f71, f72, f73, f74, f75, f76, f77, f78, f79, f80, f81, f82, f83, f84, f85, f86, f87, f88, f89, f90, f91, f92, f93, f94, f95, f96, f97, f98, f99, f100, f101, f102, f103, f104, f105, f106, f107, f108, f109, f110, f111, f112, f113, f114, f115, t116, t117, t118, t119, t120, t121, t122, t123, t124, t125, t126, t127, t128, t129, t130, t131, t132, t133, t134, t135, t136, t137, t138, t139, t140, t141, t142, t143, t144, t145, t146, t147, t148, t149, t150, t151, t152, t153, t154, t155, t156, t157, t158, t159, t160, t161, t162, t163, t164, t165, t166, t167, t168, t169, t170, t171, t172, t173, t174, t175, t176, t177, t178, t179, t180, t181, t182, t183, t184, t185, t186, t187, t188, t189, t190, t191, t192, t193, t194, t195, t196, t197, t198, t199, t200, f201, f202, f203, f204, f205, f206, f207, f208, f209, f210, f211, f212, f213, f214, f215, f216, f217, f218, f219, f220, f221, f222, f223, f224, f225, f226, f227, f228, f229, f230, f231, f232, f233, f234, f235, f236, f237, f238, f239, f240, f241, f242, f243, f244, f245, f246, f247, f248, f249, f250, f251, f252, f253, f254, f255, f256, f257, f258, f259, f260, f261, f262, f263, f264, f265, f266, f267, f268, f269, f270, f271, f272, f273, f274, f275, f276, f277, f278, f279, f280, f281, f282], []⟩ wr)
  (hQX : ∀ (t20 t21 t22 t116 t117 t118 t119 t120 t121 t122 t123 t124 t125 t126 t127 t128 t129 t130 t131 t132 t133 t134 t135 t136 t137 t138 t139 t140 t141 t142 t143 t144 t145 t146 t147 t148 t149 t150 t151 t152 t153 t154 t155 t156 t157 t158 t159 t160 t161 t162 t163 t164 t165 t166 t167 t168 t169 t170 t171 t172 t173 t174 t175 t176 t177 t178 t179 t180 t181 t182 t183 t184 t185 t186 t187 t188 t189 t190 t191 t192 t193 t194 t195 t196 t197 t198 t199 t200 : Value) (op : Int) (wE : World) (H : Nat → Prop) (s : St) (T TF : Tb) (held : Nat → List Hd) (hv : Nat → Value) (last : Hd) (opn : Nat), Hid (RowSt wE ar vp gh gl (gh + 2) H s T held hv last ∧ Below w.heap.size w wE ∧ Mods ar.M w8 wE ∧ Fin s TF held opn ∧ ∀ b : Nat, b < 6 → b = opn → op = (b : Int)) → Q (.exit 2) ⟨#[f0, f1, .bool false, .slice (some ad) nR cR, f4, f5, f6, f7, f8, .int .i64 72, f10, f11, f12, f13, .pointer (some ⟨ar.p, 0, none⟩), .pointer (some ⟨vp, 0, none⟩), .pointer (some ⟨gh, 0, none⟩), .int .i64 op, .pointer (some ⟨gl, 0, none⟩), .int .i64 (k : Int), t20, t21, t22, f23, f24, f25, f26, f27, f28, f29, f30, f31, f32, f33, f34, f35, f36, f37, f38, f39, f40, f41, f42, f43, f44, f45, f46, f47, f48, f49, f50, f51, f52, f53, f54, f55, f56, f57, f58, f59, f60, f61, f62, f63, f64, f65, f66, f67, f68, f69, f70, f71, f72, f73, f74, f75, f76, f77, f78, f79, f80, f81, f82, f83, f84, f85, f86, f87, f88, f89, f90, f91, f92, f93, f94, f95, f96, f97, f98, f99, f100, f101, f102, f103, f104, f105, f106, f107, f108, f109, f110, f111, f112, f113, f114, f115, t116, t117, t118, t119, t120, t121, t122, t123, t124, t125, t126, t127, t128, t129, t130, t131, t132, t133, t134, t135, t136, t137, t138, t139, t140, t141, t142, t143, t144, t145, t146, t147, t148, t149, t150, t151, t152, t153, t154, t155, t156, t157, t158, t159, t160, t161, t162, t163, t164, t165, t166, t167, t168, t169, t170, t171, t172, t173, t174, t175, t176, t177, t178, t179, t180, t181, t182, t183, t184, t185, t186, t187, t188, t189, t190, t191, t192, t193, t194, t195, t196, t197, t198, t199, t200, f201, f202, f203, f204, f205, f206, f207, f208, f209, f210, f211, f212, f213, f214, f215, f216, f217, f218, f219, f220, f221, f222, f223, f224, f225, f226, f227, f228, f229, f230, f231, f232, f233, f234, f235, f236, f237, f238, f239, f240, f241, f242, f243, f244, f245, f246, f247, f248, f249, f250, f251, f252, f253, f254, f255, f256, f257, f258, f259, f260, f261, f262, f263, f264, f265, f266, f267, f268, f269, f270, f271, f272, f273, f274, f275, f276, f277, f278, f279, f280, f281, f282], []⟩ wE) : ∀ c, sub [1, 1, 1, 1, 1, 1, 1, 1, 1, 1, 1, 1, 1, 0, 1, 2, 2, 1, 0, 2, 1, 1, 1] Try.f4.body = some c → Code.wp Try.prog c Q ⟨#[f0, f1, .bool false, .slice (some ad) nR cR, f4, f5, f6, f7, f8, .int .i64 0, f10, f11, f12, f13, .pointer (some ⟨ar.p, 0, none⟩), .pointer (some ⟨vp, 0, none⟩), .pointer (some ⟨gh, 0, none⟩), .int .i64 (b : Int), .pointer (some ⟨gl, 0, none⟩), .int .i64 (k : Int), .int .i64 (b : Int), f21, f22, f23, f24, f25, f26, f27, f28, f29, f30, f31, f32, f33, f34, f35, f36, f37, f38, f39, f40, f41, f42, f43, f44, f45, f46, f47, f48, f49, f50, f51, f52, f53, f54, f55, f56, f57, f58, f59, f60, f61, f62, f63, f64, f65, f66, f67, f68, f69, f70, f71, f72, f73, f74, f75, f76, f77, f78, f79, f80, f81, f82, f83, f84, f85, f86, f87, f88, f89, f90, f91, f92, f93, f94, f95, f96, f97, f98, f99, f100, f101, f102, f103, f104, f105, f106, f107, f108, f109, f110, f111, f112, f113, f114, f115, f116, f117, f118, f119, f120, f121, f122, f123, f124, f125, f126, f127, f128, f129, f130, f131, f132, f133, f134, f135, f136, f137, f138, f139, f140, f141, f142, f143, f144, f145, f146, f147, f148, f149, f150, f151, f152, f153, f154, f155, f156, f157, f158, f159, f160, f161, f162, f163, f164, f165, f166, f167, f168, f169, f170, f171, f172, f173, f174, f175, f176, f177, f178, f179, f180, f181, f182, f183, f184, f185, f186, f187, f188, f189, f190, f191, f192, f193, f194, f195, f196, f197, f198, f199, f200, f201, f202, f203, f204, f205, f206, f207, f208, f209, f210, f211, f212, f213, f214, f215, f216, f217, f218, f219, f220, f221, f222, f223, f224, f225, f226, f227, f228, f229, f230, f231, f232, f233, f234, f235, f236, f237, f238, f239, f240, f241, f242, f243, f244, f245, f246, f247, f248, f249, f250, f251, f252, f253, f254, f255, f256, f257, f258, f259, f260, f261, f262, f263, f264, f265, f266, f267, f268, f269, f270, f271, f272, f273, f274, f275, f276, f277, f278, f279, f280, f281, f282], []⟩ wP := by
 refine from_path rfl ?_
 have HQN := Lib.hid hQN
 have HQX := Lib.hid hQX
 clear hQN hQX
 have hki : (k : Int) < (nR : Int) := by omega
 obtain ⟨A9, c9, hv9, zb⟩ := HP.out.1.cell hb6
 obtain ⟨nb, hnb'⟩ : ∃ nb, (held b).length = nb := ⟨_, rfl⟩
 rw [hnb'] at zb hnb hv9
 obtain ⟨k2, e2, b2, i2, c2, l2, m2⟩ := last
 have hgl := HP.out.1.cgl
 have l0 : wP.cell? ⟨gl, 0, none⟩ = some (.int .u8 k2) := (blk_cell hgl 0).trans rfl
 have l1 : wP.cell? ⟨gl, 1, none⟩ = some (.int .u32 e2) := (blk_cell hgl 1).trans rfl
 have l2_ : wP.cell? ⟨gl, 2, none⟩ = some (.int .u32 b2) := (blk_cell hgl 2).trans rfl
 have l3 : wP.cell? ⟨gl, 3, none⟩ = some (.int .u16 i2) := (blk_cell hgl 3).trans rfl
 have l4 : wP.cell? ⟨gl, 4, none⟩ = some (.int .u16 c2) := (blk_cell hgl 4).trans rfl
 have l5 : wP.cell? ⟨gl, 5, none⟩ = some (.int .u32 l2) := (blk_cell hgl 5).trans rfl
 have l6 : wP.cell? ⟨gl, 6, none⟩ = some (.int .u32 m2) := (blk_cell hgl 6).trans rfl
 have lfz := fun i => blk_frozen hgl i
 have hk60 : (k : Int) < 60 := by omega
 have hmk := print_make (P := Try.prog) 27 5 .u8 1 Try.underlying27 info5' (by decide) 256 (by omega)
 rw [show ((256 : Nat) : Int) = 256 from rfl] at hmk
 clear hgl
 go_wp2_with fail
 clear l0 l1 l2_ l3 l4 l5 l6 lfz zb hmk
 have hgl := HP.out.1.cgl
 simp only [hdC] at hgl
 have hp7 := put7 hgl (.int .u8 4) (.int .u32 (k : Int)) (.int .u32 0) (.int .u16 (nb : Int)) (.int .u16 0) (.int .u32 (b : Int)) (.int .u32 0)
 have hm7 := set7_mods (Mods.refl (fun k => k = gl) wP) (.inl rfl) (.int .u8 4) (.int .u32 (k : Int)) (.int .u32 0) (.int .u16 (nb : Int)) (.int .u16 0) (.int .u32 (b : Int)) (.int .u32 0)
 have hs7 : (((((((wP.setCell ⟨gl, 0, none⟩ (.int .u8 4)).setCell ⟨gl, 1, none⟩ (.int .u32 (k : Int))).setCell ⟨gl, 2, none⟩ (.int .u32 0)).setCell ⟨gl, 3, none⟩ (.int .u16 (nb : Int))).setCell ⟨gl, 4, none⟩ (.int .u16 0)).setCell ⟨gl, 5, none⟩ (.int .u32 (b : Int))).setCell ⟨gl, 6, none⟩ (.int .u32 0)).heap.size = wP.heap.size := by simp [World.setCell]
 obtain ⟨w1, hw1⟩ : ∃ w1, ((((((wP.setCell ⟨gl, 0, none⟩ (.int .u8 4)).setCell ⟨gl, 1, none⟩ (.int .u32 (k : Int))).setCell ⟨gl, 2, none⟩ (.int .u32 0)).setCell ⟨gl, 3, none⟩ (.int .u16 (nb : Int))).setCell ⟨gl, 4, none⟩ (.int .u16 0)).setCell ⟨gl, 5, none⟩ (.int .u32 (b : Int))).setCell ⟨gl, 6, none⟩ (.int .u32 0) = w1 := ⟨_, rfl⟩
 rw [hw1] at hp7 hm7 hs7 ⊢
 have hr1 := HP.out.1.setLast (datH k b nb) hm7 hp7
 have hwk := HP.out.2.1.mods hm7 (fun x hx => by have h_ := HW0.out.2.2.2.1; have h2_ := HW0.out.2.2.2.2.2.1; have h3_ := HW0.out.2.2.2.2.2.2.2.1; omega) (fun x hx => by have h_ := HW0.out.2.2.2.1; have h2_ := HW0.out.2.2.2.2.2.1; omega)
 obtain ⟨gd, hgd⟩ : ∃ gd, wP.heap.size = gd := ⟨_, rfl⟩
 rw [hgd] at hs7
 try rw [hgd]
 have hod := own_made w1 gd 5 .u8 256 (by omega) (by decide)
 have hbd := bl_alloc (Below.refl w1.heap.size w1) (.cells (madeCells #[.int .u8 0] 256) 5)
 rw [hs7] at hod
 obtain ⟨w2, hw2⟩ : ∃ w2, w1.alloc (.cells (madeCells #[.int .u8 0] 256) 5) = w2 := ⟨_, rfl⟩
 rw [hw2] at hod hbd ⊢
 have H1 := Lib.hid (And.intro hr1 (And.intro hwk hs7))
 have H2 := Lib.hid (show Below w1.heap.size w1 w2 ∧ w2.ownsRow gd 5 1 (.slice (some ⟨gd, 0, none⟩) 256 256) 256 (nums .u8 (fillL cI 0)) from ⟨hbd, by rw [show fillL cI 0 = List.replicate 256 0 by simp [fillL]]; exact hod⟩)
 have HPI := Lib.hid HP.out.2.2
 have HHB := Lib.hid hnb'
 have HHA := Lib.hid hv9
 clear hgl hp7 hm7 hw1 hgd hod hbd hw2 hr1 hwk hs7 HP hnb' hv9
 go_loopw [22] (fun i wr => ∃ q : Nat, i = .int .i64 (q : Int) ∧ q ≤ 256 ∧ Hid (Below w1.heap.size w1 wr ∧ wr.ownsRow gd 5 1 (.slice (some ⟨gd, 0, none⟩) 256 256) 256 (nums .u8 (fillL cI q)))) (fun i _ => 256 - (intOf i).toNat)
 case atStart => exact ⟨0, rfl, by decide, H2⟩
 case round =>
  obtain ⟨q, rfl, hq, HQ⟩ := hrel
  generalize wr = wT at HQ ⊢
  have HWT := Lib.hid (H1.out.2.1.below HQ.out.1)
  by_cases hql : q < 256
  ·have hqi : (q : Int) < 256 := by omega
   have cc := pw_cell_below HWT.out.1 HC.out.2.1
   have cc1 := HC.out.2.2.1
   have cc2 := HC.out.2.2.2
   have hst := (own_store HQ.out.2 (q : Int) (filB cI q)).1
   rw [Int.toNat_natCast, fillL_set cI q hql] at hst
   obtain ⟨hg1, hg2⟩ := own_at HQ.out.2 (q : Int) (by omega) (by omega)
   rw [Int.toNat_natCast] at hg1 hg2
   have HST := Lib.hid (show Below w1.heap.size w1 (wT.setCell ⟨gd, q, none⟩ (.int .u8 (filB cI q))) ∧ _ from ⟨bl_set HQ.out.1 (p := ⟨gd, q, none⟩) (Nat.le_of_eq H1.out.2.2) _, hst⟩)
   clear hst
   go_wp2_with fail
   go_roundw
   case rel => exact ⟨q + 1, by go_num, by omega, HST⟩
   case measure => simp [intOf]; omega
  ·obtain rfl : q = 256 := by omega
   obtain ⟨dd, hdd⟩ : ∃ dd, fillL cI 256 = dd := ⟨_, rfl⟩
   have HDO := Lib.hid (show (datH k b nb).ok ∧ Byt dd from ⟨datH_ok (by omega) hb6 (by omega), by rw [← hdd]; exact fillL_byt _ _⟩)
   have hq2 := HQ.out.2
   rw [hdd] at hq2
   have HDT := Lib.hid (own_reads' hq2)
   have HT := Lib.hid (H1.out.1.below HQ.out.1)
   have zbT : wT.cell? ⟨gh, b, none⟩ = some (.slice A9 nb c9) := by obtain ⟨A', c', e', z'⟩ := HT.out.cell hb6; rw [z', ← e', HHA.out]
   have HOK := Lib.hid HPI.out.ok
   have HGD := Lib.hid (show (∀ x, gd ≤ x → ¬ ar.M x) ∧ gd ≠ vp ∧ gd ≤ wT.heap.size from by
    have h1_ := H1.out.1.vlt
    have h2_ := H1.out.2.2
    have h3_ := HQ.out.1.size
    have h4_ := H1.out.2.1.2.size
    refine ⟨fun x hx hM => ?_, by omega, by omega⟩
    have h5_ := HW0.out.2.2.2.2.2.2.1 x hM
    omega)
   have hsp := HPI.out.sp
   have HLN2 := HLN
   clear hq2 hdd HQ H2 H1
   go_wp2_with fail
   refine reg36 _ ar vp gh gl b nb gd k c9 A9 H s T held hv dd wT rfl rfl rfl rfl rfl rfl HT HDT zbT HOK HGD HDO hb6 hnb hs0 (by omega) (by omega) (fun x4 y4 wU hA5 hV5 hM5 => ?_) _ rfl
   simp only [Act.put, List.setIfInBounds_toArray, List.set_cons_zero, List.set_cons_succ]
   ·have HTv := HT.out.step hA5 hV5 hM5
    have HWU := HWT.out.vol hM5 HW0.out.2.2.2.2.2.2.2.2 HW0.out.2.2.2.2.1 HW0.out.2.2.2.2.2.2.2.1
    have hcase := inv_prog HLN2.out.1 (noT_left HLN2.out.2) HPI.out hb6 (by omega) HHB.out.symm hnb (dat_pg (k := k) (b := b) (n := nb) dd (by omega) hb6 (by omega))
    have hop := vprS_ops ar s T b nb (dd, sealL (datH k b nb) dd []) hnb
    obtain ⟨r5, hr5⟩ : ∃ r, vprS ar s T b nb (dd, sealL (datH k b nb) dd []) = r := ⟨_, rfl⟩
    rw [hr5] at HTv hcase hop ⊢
    have H5 := Lib.hid (And.intro HTv HWU)
    clear HTv HWU hA5 hV5 hM5 zbT HDT HT HWT hr5
    rcases hcase with ⟨q1, q2, q3⟩ | ⟨q1, q2, s1, bd, q3, q4, q5⟩
    ·rw [q1]
     have HQ3 := Lib.hid q3
     have HU5 := Lib.hid H5.out.1
     have HWU := Lib.hid H5.out.2
     have zbU : wU.cell? ⟨gh, b, none⟩ = some (.slice A9 nb c9) := by obtain ⟨A', c', e', z'⟩ := HU5.out.cell hb6; rw [z', ← e', HHA.out]
     have HCB := Lib.hid (show (#[hv 0, hv 1, hv 2, hv 3, hv 4, hv 5] : Array Value)[b]? = some (.slice A9 nb c9) from (blk_cell HU5.out.cgh b).symm.trans zbU)
     have HHV := Lib.hid (show (held b).length = nb ∧ Value.slice A9 nb c9 = hv b ∧ gl = gh + 1 from ⟨HHB.out, HHA.out.symm, HW0.out.2.2.2.2.2.1⟩)
     clear q3 H5
     go_wp2_with fail
     refine reg38 _ ar vp gh gl b nb k c9 A9 H r5.1 r5.2.1 held hv wU rfl rfl rfl rfl HU5 zbU HCB HHV hb6 hnb (fun gx A3 c3 wV hap hmV => ?_) _ rfl
     simp only [Act.put, List.setIfInBounds_toArray, List.set_cons_zero, List.set_cons_succ]
     obtain ⟨H', hap⟩ := hap
     have hwk := HWU.out.mods hmV (fun x hx => by have h2_ := HW0.out.2.2.2.1; have h3_ := HW0.out.2.2.2.2.2.2.2.1; omega) (fun x hx => by have h2_ := HW0.out.2.2.2.1; omega)
     have HX := Lib.hid (And.intro hap (And.intro hwk HQ3.out))
     clear hap hwk hmV zbU
     go_wp2_with fail
     exact HQN.out _ _ _ _ _ _ _ _ _ _ _ _ _ _ _ _ _ _ _ _ _ _ _ _ _ _ _ _ _ _ _ _ _ _ _ _ _ _ _ _ _ _ _ _ _ _ _ _ _ _ _ _ _ _ _ _ _ _ _ _ _ _ _ _ _ _ _ _ _ _ _ _ _ _ _ _ _ _ _ _ _ _ _ _ _ _ _ _ _ H' r5.1 r5.2.1 (upd held b (held b ++ [datH k b nb])) (upd hv b (.slice A3 (nb + 1) c3)) (datH k b nb) (by omega) (by omega) (by omega) (Lib.hid ⟨HX.out.1, HX.out.2.1, HX.out.2.2⟩)
    ·rw [q1]
     go_wp2_with fail
     exact HQX.out _ _ _ _ _ _ _ _ _ _ _ _ _ _ _ _ _ _ _ _ _ _ _ _ _ _ _ _ _ _ _ _ _ _ _ _ _ _ _ _ _ _ _ _ _ _ _ _ _ _ _ _ _ _ _ _ _ _ _ _ _ _ _ _ _ _ _ _ _ _ _ _ _ _ _ _ _ _ _ _ _ _ _ _ _ _ _ _ _ wU H r5.1 r5.2.1 T held hv (datH k b nb) b (Lib.hid ⟨H5.out.1, H5.out.2.1, H5.out.2.2, Fin.of_prog HLN2.out.2 HPI.out hb6 HHB.out.symm hnb q3 q4 q5, fun c hc e => by rw [e]⟩)
set_option maxHeartbeats 64000000 in
set_option maxRecDepth 100000 in
theorem eraseT (Q : Exit → Act → World → Prop) (w w8 : World) (ar : Ar) (vp gh gl nR cR k b : Nat) (ad : Addr) (er : Bool) (cI : Int) (hb6 : b < 6) (hlt : k < nR) (hn60 : nR ≤ 60)
  (HW0 : Hid (True ∧ True ∧ True ∧ w8.heap.size ≤ gh ∧ w8.heap.size ≤ vp ∧ gl = gh + 1 ∧ (∀ k, ar.M k → k < w8.heap.size) ∧ w.heap.size ≤ w8.heap.size ∧ ∀ k, ar.M k → w.heap.size ≤ k))
  (HC : Hid (w.cell? ⟨(ad.add (k * 3)).block, (ad.add (k * 3)).off + 1, none⟩ = some (.bool er) ∧ w.cell? ⟨(ad.add (k * 3)).block, (ad.add (k * 3)).off + 2, none⟩ = some (.int .u8 cI) ∧ 0 ≤ cI ∧ cI < 256)) (HLN : Hid (EvOk ar.evs ∧ openB (leftD ar.lf) (leftO ar.lf) = false)) (wS : World) (H : Nat → Prop) (s : St) (T : Tb) (held : Nat → List Hd) (hv : Nat → Value) (last : Hd) (f0 f1 f4 f5 f6 f7 f8 f10 f11 f12 f13 f21 f22 f23 f24 f25 f26 f27 f28 f29 f30 f31 f32 f33 f34 f35 f36 f37 f38 f39 f40 f41 f42 f43 f44 f45 f46 f47 f48 f49 f50 f51 f52 f53 f54 f55 f56 f57 f58 f59 f60 f61 f62 f63 f64 f65 f66 f67 f68 f69 f70 f71 f72 f73 f74 f75 f76 f77 f78 f79 f80 f81 f82 f83 f84 f85 f86 f87 f88 f89 f90 f91 f92 f93 f94 f95 f96 f97 f98 f99 f100 f101 f102 f103 f104 f105 f106 f107 f108 f109 f110 f111 f112 f113 f114 f115 f116 f117 f118 f119 f120 f121 f122 f123 f124 f125 f126 f127 f128 f129 f130 f131 f132 f133 f134 f135 f136 f137 f138 f139 f140 f141 f142 f143 f144 f145 f146 f147 f148 f149 f150 f151 f152 f153 f154 f155 f156 f157 f158 f159 f160 f161 f162 f163 f164 f165 f166 f167 f168 f169 f170 f171 f172 f173 f174 f175 f176 f177 f178 f179 f180 f181 f182 f183 f184 f185 f186 f187 f188 f189 f190 f191 f192 f193 f194 f195 f196 f197 f198 f199 f200 f201 f202 f203 f204 f205 f206 f207 f208 f209 f210 f211 f212 f213 f214 f215 f216 f217 f218 f219 f220 f221 f222 f223 f224 f225 f226 f227 f228 f229 f230 f231 f232 f233 f234 f235 f236 f237 f238 f239 f240 f241 f242 f243 f244 f245 f246 f247 f248 f249 f250 f251 f252 f253 f254 f255 f256 f257 f258 f259 f260 f261 f262 f263 f264 f265 f266 f267 f268 f269 f270 f271 f272 f273 f274 f275 f276 f277 f278 f279 f280 f281 f282 : Value) (hs0 : 0 ≤ s.ops) (hs1 : s.ops ≤ 64 + 100 * (k : Int)) (hsq : T.seq ≤ 2 + 2 * (k : Int)) (HI : Hid (RowSt wS ar vp gh gl (gh + 2) H s T held hv last ∧ WK w w8 ar wS ∧ Inv ar s T held))
  (hQN : ∀ (t21 t22 t116 t117 t118 t119 t120 t121 t122 t123 t124 t125 t126 t127 t128 t129 t130 t131 t132 t133 t134 t135 t136 t137 t138 t139 t140 t141 t142 t143 t144 t145 t146 t147 t148 t149 t150 t151 t152 t153 t154 t155 t156 t157 t158 t159 t160 t161 t162 t163 t164 t165 t166 t167 t168 t169 t170 t171 t172 t173 t174 t175 t176 t177 t178 t179 t180 t181 t182 t183 t184 t185 t186 t187 t188 t189 t190 t191 t192 t193 t194 t195 t196 t197 t198 t199 t200 : Value) (wr : World) (H' : Nat → Prop) (s' : St) (T' : Tb) (held' : Nat → List Hd) (hv' : Nat → Value) (last' : Hd), 0 ≤ s'.ops → s'.ops ≤ 64 + 100 * (k : Int) + 12 → T'.seq ≤ 3 + 2 * (k : Int) → (held' b).length < 6 → Hid (RowSt wr ar vp gh gl (gh + 2) H' s' T' held' hv' last' ∧ WK w w8 ar wr ∧ Inv ar s' T' held') → Q .normal ⟨#[f0, f1, .bool false, .slice (some ad) nR cR, f4, f5, f6, f7, f8, .int .i64 0, f10, f11, f12, f13, .pointer (some ⟨ar.p, 0, none⟩), .pointer (some ⟨vp, 0, none⟩), .pointer (some ⟨gh, 0, none⟩), .int .i64 (b : Int), .pointer (some ⟨gl, 0, none⟩), .int .i64 (k : Int), .int .i64 (b : Int), t21, t22, f23, f24, f25, f26, f27, f28, f29, f30, f31, f32, f33, f34, f35, f36, f37, f38, f39, f40, f41, f42, f43, f44, f45, f46, f47, f48, f49, f50, f51, f52, f53, f54, f55, f56, f57, f58, f59, f60, f61, f62, f63, f64, f65, f66, f67, f68, f69, f70, f71, f72, f73, f74, f75, f76, f77, f78, f79, f80, f81, f82, f83, f84, f85, f86, f87, f88, f89, f90, f91, f92, f93, f94, f95, f96, f97, f98, f99, f100, f101, f102, f103, f104, f105, f106, f107, f108, f109, f110, f111, f112, f113, f114, f115, t116, t117, t118, t119, t120, t121, t122, t123, t124, t125, t126, t127, t128, t129, t130, t131, t132, t133, t134, t135, t136, t137, t138, t139, t140, t141, t142, t143, t144, t145, t146, t147, t148, t149, t150, t151, t152, t153, t154, t155, t156, t157, t158, t159, t160, t161, t162, t163, t164, t165, t166, t167, t168, t169, t170, t171, t172, t173, t174, t175, t176, t177, t178, t179, t180, t181, t182, t183, t184, t185, t186, t187, t188, t189, t190, t191, t192, t193, t194, t195, t196, t197, t198, t199, t200, f201, f202, f203, f204, f205, f206, f207, f208, f209, f210, f211, f212, f213, f214, f215, f216, f217, f218, f219, f220, f221, f222, f223, f224, f225, f226, f227, f228, f229, f230, f231, f232, f233, f234, f235, f236, f237, f238, f239, f240, f241, f242, f243, f244, f245, f246, f247, f248, f249, f250, f251, f252, f253, f254, f255, f256, f257, f258, f259, f260, f261, f262, f263, f264, f265, f266, f267, f268, f269, f270, f271, f272, f273, f274, f275, f276, f277, f278, f279, f280, f281, f282], []⟩ wr)
  (hQX : ∀ (t20 t21 t22 t116 t117 t118 t119 t120 t121 t122 t123 t124 t125 t126 t127 t128 t129 t130 t131 t132 t133 t134 t135 t136 t137 t138 t139 t140 t141 t142 t143 t144 t145 t146 t147 t148 t149 t150 t151 t152 t153 t154 t155 t156 t157 t158 t159 t160 t161 t162 t163 t164 t165 t166 t167 t168 t169 t170 t171 t172 t173 t174 t175 t176 t177 t178 t179 t180 t181 t182 t183 t184 t185 t186 t187 t188 t189 t190 t191 t192 t193 t194 t195 t196 t197 t198 t199 t200 : Value) (op : Int) (wE : World) (H : Nat → Prop) (s : St) (T TF : Tb) (held : Nat → List Hd) (hv : Nat → Value) (last : Hd) (opn : Nat), Hid (RowSt wE ar vp gh gl (gh + 2) H s T held hv last ∧ Below w.heap.size w wE ∧ Mods ar.M w8 wE ∧ Fin s TF held opn ∧ ∀ b : Nat, b < 6 → b = opn → op = (b : Int)) → Q (.exit 2) ⟨#[f0, f1, .bool false, .slice (some ad) nR cR, f4, f5, f6, f7, f8, .int .i64 72, f10, f11, f12, f13, .pointer (some ⟨ar.p, 0, none⟩), .pointer (some ⟨vp, 0, none⟩), .pointer (some ⟨gh, 0, none⟩), .int .i64 op, .pointer (some ⟨gl, 0, none⟩), .int .i64 (k : Int), t20, t21, t22, f23, f24, f25, f26, f27, f28, f29, f30, f31, f32, f33, f34, f35, f36, f37, f38, f39, f40, f41, f42, f43, f44, f45, f46, f47, f48, f49, f50, f51, f52, f53, f54, f55, f56, f57, f58, f59, f60, f61, f62, f63, f64, f65, f66, f67, f68, f69, f70, f71, f72, f73, f74, f75, f76, f77, f78, f79, f80, f81, f82, f83, f84, f85, f86, f87, f88, f89, f90, f91, f92, f93, f94, f95, f96, f97, f98, f99, f100, f101, f102, f103, f104, f105, f106, f107, f108, f109, f110, f111, f112, f113, f114, f115, t116, t117, t118, t119, t120, t121, t122, t123, t124, t125, t126, t127, t128, t129, t130, t131, t132, t133, t134, t135, t136, t137, t138, t139, t140, t141, t142, t143, t144, t145, t146, t147, t148, t149, t150, t151, t152, t153, t154, t155, t156, t157, t158, t159, t160, t161, t162, t163, t164, t165, t166, t167, t168, t169, t170, t171, t172, t173, t174, t175, t176, t177, t178, t179, t180, t181, t182, t183, t184, t185, t186, t187, t188, t189, t190, t191, t192, t193, t194, t195, t196, t197, t198, t199, t200, f201, f202, f203, f204, f205, f206, f207, f208, f209, f210, f211, f212, f213, f214, f215, f216, f217, f218, f219, f220, f221, f222, f223, f224, f225, f226, f227, f228, f229, f230, f231, f232, f233, f234, f235, f236, f237, f238, f239, f240, f241, f242, f243, f244, f245, f246, f247, f248, f249, f250, f251, f252, f253, f254, f255, f256, f257, f258, f259, f260, f261, f262, f263, f264, f265, f266, f267, f268, f269, f270, f271, f272, f273, f274, f275, f276, f277, f278, f279, f280, f281, f282], []⟩ wE) : ∀ c, sub [1, 1, 1, 1, 1, 1, 1, 1, 1, 1, 1, 1, 1, 0, 1, 2, 2, 1, 0, 2, 1, 1, 0] Try.f4.body = some c → Code.wp Try.prog c Q ⟨#[f0, f1, .bool false, .slice (some ad) nR cR, f4, f5, f6, f7, f8, .int .i64 0, f10, f11, f12, f13, .pointer (some ⟨ar.p, 0, none⟩), .pointer (some ⟨vp, 0, none⟩), .pointer (some ⟨gh, 0, none⟩), .int .i64 (b : Int), .pointer (some ⟨gl, 0, none⟩), .int .i64 (k : Int), .int .i64 (b : Int), f21, f22, f23, f24, f25, f26, f27, f28, f29, f30, f31, f32, f33, f34, f35, f36, f37, f38, f39, f40, f41, f42, f43, f44, f45, f46, f47, f48, f49, f50, f51, f52, f53, f54, f55, f56, f57, f58, f59, f60, f61, f62, f63, f64, f65, f66, f67, f68, f69, f70, f71, f72, f73, f74, f75, f76, f77, f78, f79, f80, f81, f82, f83, f84, f85, f86, f87, f88, f89, f90, f91, f92, f93, f94, f95, f96, f97, f98, f99, f100, f101, f102, f103, f104, f105, f106, f107, f108, f109, f110, f111, f112, f113, f114, f115, f116, f117, f118, f119, f120, f121, f122, f123, f124, f125, f126, f127, f128, f129, f130, f131, f132, f133, f134, f135, f136, f137, f138, f139, f140, f141, f142, f143, f144, f145, f146, f147, f148, f149, f150, f151, f152, f153, f154, f155, f156, f157, f158, f159, f160, f161, f162, f163, f164, f165, f166, f167, f168, f169, f170, f171, f172, f173, f174, f175, f176, f177, f178, f179, f180, f181, f182, f183, f184, f185, f186, f187, f188, f189, f190, f191, f192, f193, f194, f195, f196, f197, f198, f199, f200, f201, f202, f203, f204, f205, f206, f207, f208, f209, f210, f211, f212, f213, f214, f215, f216, f217, f218, f219, f220, f221, f222, f223, f224, f225, f226, f227, f228, f229, f230, f231, f232, f233, f234, f235, f236, f237, f238, f239, f240, f241, f242, f243, f244, f245, f246, f247, f248, f249, f250, f251, f252, f253, f254, f255, f256, f257, f258, f259, f260, f261, f262, f263, f264, f265, f266, f267, f268, f269, f270, f271, f272, f273, f274, f275, f276, f277, f278, f279, f280, f281, f282], []⟩ wS := by
 refine from_path rfl ?_
 have HQN := Lib.hid hQN
 have HQX := Lib.hid hQX
 clear hQN hQX
 have hki : (k : Int) < (nR : Int) := by omega
 have c1 := pw_cell_below HI.out.2.1.1 HC.out.1
 have hsp := HI.out.2.2.sp
 obtain ⟨A9, c9, hv9, zb⟩ := HI.out.1.cell hb6
 obtain ⟨nb, hnb⟩ : ∃ nb, (held b).length = nb := ⟨_, rfl⟩
 rw [hnb] at zb
 have HNB := Lib.hid hnb
 clear hv9 hnb
 have hcase : er = true ∨ (er = false ∧ 6 ≤ nb) ∨ (er = false ∧ nb < 6) := by cases er <;> simp <;> omega
 rcases hcase with rfl | ⟨rfl, h6⟩ | ⟨rfl, h6⟩
 ·try (have h6i : (6 : Int) ≤ (nb : Int) := by omega)
  go_wp2_with fail
  refine (verase_any ar (okL ar vp H) (okL ar vp H) s vp b T wS HI.out.1.env HI.out.1.arr HI.out.1.vol HI.out.2.2.ok (by omega) (by omega) hs0 (by omega)).mono ?_
  rintro e wE ⟨rfl, hA5, hV5, hM5⟩
  have HTv := HI.out.1.step hA5 hV5 hM5
  have HWU := HI.out.2.1.vol hM5 HW0.out.2.2.2.2.2.2.2.2 HW0.out.2.2.2.2.1 HW0.out.2.2.2.2.2.2.2.1
  have hcase := inv_erase HLN.out.1 (noT_left HLN.out.2) HI.out.2.2 hb6 (by omega)
  have hop := verS_ops ar s T b
  obtain ⟨r5, hr5⟩ : ∃ r, verS ar s T b = r := ⟨_, rfl⟩
  rw [hr5] at HTv hcase hop ⊢
  clear hA5 hV5 hM5 hr5 zb c1
  obtain ⟨A8, c8, -, zE⟩ := HTv.cell hb6
  have zf := blk_frozen HTv.cgh b
  have hgw : w.heap.size ≤ gh ∧ w8.heap.size ≤ gh := by have h2_ := HW0.out.2.2.2.1; have h3_ := HW0.out.2.2.2.2.2.2.2.1; omega
  have H5 := Lib.hid (And.intro HTv (And.intro HWU hgw))
  clear HTv HWU hgw
  rcases hcase with ⟨q1, q2, q3⟩ | ⟨q1, q2, q3⟩
  ·rw [q1]
   have HQ3 := Lib.hid q3
   clear q3
   dsimp only
   go_wp2_with fail
   exact HQN.out _ _ _ _ _ _ _ _ _ _ _ _ _ _ _ _ _ _ _ _ _ _ _ _ _ _ _ _ _ _ _ _ _ _ _ _ _ _ _ _ _ _ _ _ _ _ _ _ _ _ _ _ _ _ _ _ _ _ _ _ _ _ _ _ _ _ _ _ _ _ _ _ _ _ _ _ _ _ _ _ _ _ _ _ _ _ _ _ H r5.1 r5.2.1 (upd held b []) (upd hv b (.slice none 0 0)) last (by omega) (by omega) (by omega) (by rw [upd_same]; decide) (Lib.hid ⟨H5.out.1.setNil hb6, H5.out.2.1.set H5.out.2.2.1 H5.out.2.2.2 b _, HQ3.out⟩)
  ·rw [q1]
   have HQ3 := Lib.hid q3
   clear q3
   dsimp only
   go_wp2_with fail
   exact HQX.out _ _ _ _ _ _ _ _ _ _ _ _ _ _ _ _ _ _ _ _ _ _ _ _ _ _ _ _ _ _ _ _ _ _ _ _ _ _ _ _ _ _ _ _ _ _ _ _ _ _ _ _ _ _ _ _ _ _ _ _ _ _ _ _ _ _ _ _ _ _ _ _ _ _ _ _ _ _ _ _ _ _ _ _ _ _ _ _ _ _ H r5.1 r5.2.1 T (upd held b []) (upd hv b (.slice none 0 0)) last b (Lib.hid ⟨H5.out.1.setNil hb6, (H5.out.2.1.set H5.out.2.2.1 H5.out.2.2.2 b _).1, (H5.out.2.1.set H5.out.2.2.1 H5.out.2.2.2 b _).2, Fin.of_erase HI.out.2.2 hb6 HQ3.out, fun c hc e => by rw [e]⟩)
 ·try (have h6i : (6 : Int) ≤ (nb : Int) := by omega)
  go_wp2_with fail
  refine (verase_any ar (okL ar vp H) (okL ar vp H) s vp b T wS HI.out.1.env HI.out.1.arr HI.out.1.vol HI.out.2.2.ok (by omega) (by omega) hs0 (by omega)).mono ?_
  rintro e wE ⟨rfl, hA5, hV5, hM5⟩
  have HTv := HI.out.1.step hA5 hV5 hM5
  have HWU := HI.out.2.1.vol hM5 HW0.out.2.2.2.2.2.2.2.2 HW0.out.2.2.2.2.1 HW0.out.2.2.2.2.2.2.2.1
  have hcase := inv_erase HLN.out.1 (noT_left HLN.out.2) HI.out.2.2 hb6 (by omega)
  have hop := verS_ops ar s T b
  obtain ⟨r5, hr5⟩ : ∃ r, verS ar s T b = r := ⟨_, rfl⟩
  rw [hr5] at HTv hcase hop ⊢
  clear hA5 hV5 hM5 hr5 zb c1
  obtain ⟨A8, c8, -, zE⟩ := HTv.cell hb6
  have zf := blk_frozen HTv.cgh b
  have hgw : w.heap.size ≤ gh ∧ w8.heap.size ≤ gh := by have h2_ := HW0.out.2.2.2.1; have h3_ := HW0.out.2.2.2.2.2.2.2.1; omega
  have H5 := Lib.hid (And.intro HTv (And.intro HWU hgw))
  clear HTv HWU hgw
  rcases hcase with ⟨q1, q2, q3⟩ | ⟨q1, q2, q3⟩
  ·rw [q1]
   have HQ3 := Lib.hid q3
   clear q3
   dsimp only
   go_wp2_with fail
   exact HQN.out _ _ _ _ _ _ _ _ _ _ _ _ _ _ _ _ _ _ _ _ _ _ _ _ _ _ _ _ _ _ _ _ _ _ _ _ _ _ _ _ _ _ _ _ _ _ _ _ _ _ _ _ _ _ _ _ _ _ _ _ _ _ _ _ _ _ _ _ _ _ _ _ _ _ _ _ _ _ _ _ _ _ _ _ _ _ _ _ H r5.1 r5.2.1 (upd held b []) (upd hv b (.slice none 0 0)) last (by omega) (by omega) (by omega) (by rw [upd_same]; decide) (Lib.hid ⟨H5.out.1.setNil hb6, H5.out.2.1.set H5.out.2.2.1 H5.out.2.2.2 b _, HQ3.out⟩)
  ·rw [q1]
   have HQ3 := Lib.hid q3
   clear q3
   dsimp only
   go_wp2_with fail
   exact HQX.out _ _ _ _ _ _ _ _ _ _ _ _ _ _ _ _ _ _ _ _ _ _ _ _ _ _ _ _ _ _ _ _ _ _ _ _ _ _ _ _ _ _ _ _ _ _ _ _ _ _ _ _ _ _ _ _ _ _ _ _ _ _ _ _ _ _ _ _ _ _ _ _ _ _ _ _ _ _ _ _ _ _ _ _ _ _ _ _ _ _ H r5.1 r5.2.1 T (upd held b []) (upd hv b (.slice none 0 0)) last b (Lib.hid ⟨H5.out.1.setNil hb6, (H5.out.2.1.set H5.out.2.2.1 H5.out.2.2.2 b _).1, (H5.out.2.1.set H5.out.2.2.1 H5.out.2.2.2 b _).2, Fin.of_erase HI.out.2.2 hb6 HQ3.out, fun c hc e => by rw [e]⟩)
 ·have h6i : (nb : Int) < 6 := by omega
  go_wp2_with fail
  exact HQN.out _ _ _ _ _ _ _ _ _ _ _ _ _ _ _ _ _ _ _ _ _ _ _ _ _ _ _ _ _ _ _ _ _ _ _ _ _ _ _ _ _ _ _ _ _ _ _ _ _ _ _ _ _ _ _ _ _ _ _ _ _ _ _ _ _ _ _ _ _ _ _ _ _ _ _ _ _ _ _ _ _ _ _ _ _ _ _ wS H s T held hv last hs0 (by omega) (by omega) (by rw [HNB.out]; exact h6) HI
end Go.Proofs.Ytffalemndjampaa
