/- What the proof of TopSealed leans on: Tg Th Ti. -/
import Derived.Test.YtffalemndjampaaQao
import Derived.Laws.IdiomCopy
import Derived.BigFrame
section
set_option linter.unusedVariables false
set_option linter.unusedSimpArgs false
namespace Go.Proofs.Ytffalemndjampaa
open Go.RowKit Go.Proofs.YtffalemndjampaaW.PrintWords Go.Proofs.YtffalemndjampaaW.PrintLast
def St.setPgs (s : St) (b : Nat) (f : Nat → Option (List Int × List Int)) : St := { s with bl := upd s.bl b { s.bl b with pg := f } }
def St.lf (s : St) (ar : Ar) (b j : Nat) : St := s.setPgs b fun q => if q < j then some (leftPg ar) else (s.bl b).pg q
def St.setOff (s : St) : St := { s with off := true }
def eraseS (ar : Ar) (s : St) (kb : Nat) : St × Int :=
 if s.off = true then (s, 72)
 else if s.kind ar = 2 then (if (s.bl kb).bad = true then (s.go false).setOff else (((s.go false).lf ar kb 6).setNx kb 6).setOff, 72)
 else if (s.bl kb).bad = true then (s.go false, 70)
 else if s.kind ar = 1 then ((((s.go false).lf ar kb 6).setNx kb 6).setBad kb, 70)
 else (((s.go false).setPgs kb fun _ => none).setNx kb 0, 0)
theorem St.ext_ {s s' : St} (h1 : s.bl = s'.bl) (h2 : s.ops = s'.ops) (h3 : s.off = s'.off) : s = s' := by cases s; cases s'; simp_all
theorem Arr.same {w : World} {a : Ar} {ok : Nat → Prop} {s s' : St} (h : Arr w a ok s) (h1 : s'.ops = s.ops) (h2 : s'.off = s.off) (h3 : ∀ i, i < 16 → (s'.bl i).nx = (s.bl i).nx ∧ (s'.bl i).bad = (s.bl i).bad ∧ ∀ p, p < 6 → (s'.bl i).pg p = (s.bl i).pg p) : Arr w a ok s' := by
 obtain ⟨g1, g2, g3, g4, g5, ⟨C, g6, g7⟩, g8⟩ := h
 refine ⟨by rw [h1, h2]; exact g1, g2, g3, g4, g5, ⟨C, g6, fun i hi => ?_⟩, fun i hi => ?_⟩
 ·obtain ⟨e1, e2, e3⟩ := h3 i hi
  have h_ := g7 i hi
  unfold BkAt at h_ ⊢
  rw [e1, e2]; exact h_
 ·obtain ⟨D, hD, hs, hg⟩ := g8 i hi
  exact ⟨D, hD, hs, fun p hp => by rw [(h3 i hi).2.2 p hp]; exact hg p hp⟩
theorem lf_step {w : World} {a : Ar} {ok : Nat → Prop} {s : St} {kb p : Nat} (h : Arr w a ok ((s.lf a kb p).setPg kb p (leftD a.lf, leftO a.lf))) : Arr w a ok (s.lf a kb (p + 1)) := by
 refine h.same rfl rfl fun i hi => ?_
 by_cases hk : i = kb
 ·subst hk
  simp only [St.lf, St.setPgs, St.setPg, upd_same]
  refine ⟨trivial, trivial, fun q hq => ?_⟩
  unfold upd
  by_cases e : q = p
  ·subst e; rw [if_pos rfl, if_pos (Nat.lt_succ_self _)]; rfl
  ·rw [if_neg e]
   show (if q < p + 1 then some (leftPg a) else (s.bl i).pg q) = (if q < p then some (leftPg a) else (s.bl i).pg q)
   by_cases e2 : q < p
   ·rw [if_pos e2, if_pos (by omega)]
   ·rw [if_neg e2, if_neg (by omega)]
 ·simp only [St.lf, St.setPgs, St.setPg, upd_other _ _ _ _ hk]
  exact ⟨trivial, trivial, fun _ _ => trivial⟩
theorem lf_zero {w : World} {a : Ar} {ok : Nat → Prop} {s : St} {kb : Nat} (h : Arr w a ok s) : Arr w a ok (s.lf a kb 0) := by
 refine h.same rfl rfl fun i hi => ?_
 by_cases hk : i = kb
 ·subst hk
  simp only [St.lf, St.setPgs, upd_same]
  exact ⟨trivial, trivial, fun q _ => by rw [if_neg (by omega)]⟩
 ·simp only [St.lf, St.setPgs, upd_other _ _ _ _ hk]
  exact ⟨trivial, trivial, fun _ _ => trivial⟩
theorem lf_nx (s : St) (a : Ar) (kb j : Nat) : ((s.lf a kb j).bl kb).nx = (s.bl kb).nx := by simp [St.lf, St.setPgs, upd]
def nils : List Value := List.replicate 12 (.slice none 0 0)
theorem clear_run (w : World) (g c : Nat) (hc : ∀ j, j < 12 → (w.cell? ⟨g, j, none⟩).isSome = true) (hf : ∀ j, w.frozen? ⟨g, j, none⟩ = false) (ty : TypeId) :
  (Builtin.clear_ #[94] ty #[.slice (some ⟨g, 0, none⟩) 6 c]).run Try.prog w = .ok (.tuple #[]) (w.setCells g 0 nils) := by
 have h := run_storeCells_cells (P := Try.prog) g 0 nils 0 w (fun j hj => by rw [Nat.add_zero, Nat.zero_add]; exact hc j (by simpa [nils] using hj)) (fun j _ => by rw [Nat.add_zero, Nat.zero_add]; exact hf j) (fun v hv => by
  obtain rfl := (List.mem_replicate.1 hv).2; rfl)
 have hz : (zeroValue 127).run Try.prog w = .ok (.agg #[.slice none 0 0, .slice none 0 0]) w := by kernel_rfl
 have hcells : (Builtin.zeroCells (Value.agg #[.slice none 0 0, .slice none 0 0]).cells 6).toList = nils := by kernel_rfl
 rw [Nat.zero_add] at h
 simp [Builtin.clear_, run_underlying Try.underlying94, hz, hcells, h, Result.andThen]
theorem Arr.pages12 {w : World} {a : Ar} {ok : Nat → Prop} {s : St} (h : Arr w a ok s) {i : Nat} (hi : i < 16) : ∀ j, j < 12 → (w.cell? ⟨a.pr i, j, none⟩).isSome = true := fun j hj => by
 obtain ⟨D, hD, hs, _⟩ := h.2.2.2.2.2.2 i hi
 rw [blk_cell hD j, Array.getElem?_eq_getElem (by omega)]
 rfl
theorem Arr.clear {w : World} {a : Ar} {ok : Nat → Prop} {s : St} (hf : a.Fix) (hok : ∀ k, ok k → ¬ a.M k) (h : Arr w a ok s) (i : Nat) (hi : i < 16) : Arr (w.setCells (a.pr i) 0 nils) a ok (s.setPgs i fun _ => none) := by
 have pz : ∀ (w : World) (p : Nat) (D : Array Value), D[p * 2]? = some (.slice none 0 0) → D[p * 2 + 1]? = some (.slice none 0 0) → PgAt w ok D p none := fun w p D h0 h1 => ⟨h0, h1⟩
 have h0 := h.page hf hok i 0 hi (by omega) (.slice none 0 0) (.slice none 0 0) none (pz _ 0)
 have h1 := h0.page hf hok i 1 hi (by omega) (.slice none 0 0) (.slice none 0 0) none (pz _ 1)
 have h2 := h1.page hf hok i 2 hi (by omega) (.slice none 0 0) (.slice none 0 0) none (pz _ 2)
 have h3 := h2.page hf hok i 3 hi (by omega) (.slice none 0 0) (.slice none 0 0) none (pz _ 3)
 have h4 := h3.page hf hok i 4 hi (by omega) (.slice none 0 0) (.slice none 0 0) none (pz _ 4)
 have h5 := h4.page hf hok i 5 hi (by omega) (.slice none 0 0) (.slice none 0 0) none (pz _ 5)
 refine Arr.same (s := _) (show Arr (w.setCells (a.pr i) 0 nils) a ok _ from h5) rfl rfl fun j hj => ?_
 by_cases hji : j = i
 ·subst hji
  simp only [St.setPgs, upd_same]
  refine ⟨trivial, trivial, fun p hp => ?_⟩
  unfold upd
  split <;> first | rfl | skip
  split <;> first | rfl | skip
  split <;> first | rfl | skip
  split <;> first | rfl | skip
  split <;> first | rfl | skip
  split <;> first | rfl | omega
 ·simp only [St.setPgs, upd_other _ _ _ _ hji]
  exact ⟨trivial, trivial, fun _ _ => trivial⟩
theorem setCells_mods {S : Nat → Prop} {w : World} (g : Nat) (hg : S g) : ∀ (vs : List Value) (o : Nat) {w1 : World}, Mods S w w1 → Mods S w (w1.setCells g o vs)
 | [], _, _, h => h
 | v :: vs, o, w1, h => setCells_mods g hg vs (o + 1) (w1 := w1.setCell ⟨g, o, none⟩ v) (h.at_ (.inl hg) o v)
def TgR.T11 : Bool × List (List Nat × List Nat) := (true, [([], []), ([0], [0]), ([1], [1]), ([2], [2]), ([], []), ([], []), ([], []), ([5, 6], [5, 6]), ([3, 4, 0, 1, 2, 3, 4, 5, 6, 7], [3, 4]), ([8, 7, 7, 0, 1, 2, 3, 4, 5, 6, 7], [7, 8])])
def TgR.B11 : List Nat := [0, 1, 3, 7, 0, 0, 0, 96, 255, 511]
theorem TgR.tab11 : rtab .any (opsOf Try.f36 11) = TgR.T11 := by kernel_rfl
theorem TgR.bits11 : waitsOk TgR.T11.2 TgR.B11 = true := by kernel_rfl
def EraseQ (w : World) (ar : Ar) (ok : Nat → Prop) (s : St) (kb : Nat) (e : Ending) (w' : World) : Prop :=
 e = .returned (.int .i64 (eraseS ar s kb).2) ∧ Arr w' ar ok (eraseS ar s kb).1 ∧ Mods ar.M w w'
theorem Arr.M_lt {w : World} {a : Ar} {ok : Nat → Prop} {s : St} (h : Arr w a ok s) {k : Nat} (hk : a.M k) : k < w.heap.size := by
 rcases hk with rfl | rfl | ⟨i, hi, rfl⟩
 ·exact blk_lt h.1
 ·obtain ⟨C, hC, _⟩ := h.2.2.2.2.2.1
  exact blk_lt hC
 ·obtain ⟨D, hD, _⟩ := h.2.2.2.2.2.2 i hi
  exact blk_lt hD
set_option maxHeartbeats 16000000 in
set_option maxRecDepth 100000 in
theorem nerase_any (ar : Ar) (ok : Nat → Prop) (s : St) (kb : Nat) (w : World) (hf : ar.Fix) (hok : ∀ k, ok k → ¬ ar.M k) (hnew : ∀ k, w.heap.size ≤ k → ok k) (h : Arr w ar ok s) (hb : kb < 16) (h0 : 0 ≤ s.ops) (h1 : s.ops ≤ 1000000) :
  Calls Try.prog 36 #[.pointer (some ⟨ar.p, 0, none⟩), .int .i64 0, .int .i64 (kb : Int)] w (EraseQ w ar ok s kb) := by
 cases hoff : s.off with
 | true =>
  have hq : eraseS ar s kb = (s, 72) := by rw [eraseS, if_pos hoff]
  have hp1 := h.1
  rw [hoff] at hp1
  have HA := Lib.hid h
  have HBG := Lib.hid (begin_off ar.p kb _ _ _ s.ops w hp1)
  clear h hp1 hf hok hnew
  go_enter Try.func36, Try.ntmps36
  go_wp2_with fail
  refine HBG.out.mono ?_
  rintro e w1 ⟨rfl, hb1⟩
  have HB1 := Lib.hid hb1
  clear hb1
  simp only [evC]
  go_wp2_with fail
  go_ret
  exact ⟨by rw [hq]; rfl, by rw [hq]; exact HA.out.below (bl_seq HB1.out (bl_alloc (Below.refl _ _) _)), Mods.of_below (bl_seq HB1.out (bl_alloc (Below.refl _ _) _))⟩
 | false =>
  have hp1 := h.1
  rw [hoff] at hp1
  have hbg := begin_on ar.p ar.q ar.dq ar.r kb ar.qc ar.dc ar.rc ar.EA ar.n ar.ec ar.LA ar.ln ar.lc ar.evs s.ops w hp1 h.2.1 h.2.2.1 (fun e => hf.q_M (.inl e)) (fun e => hf.d_M (.inl e)) (fun x hx e => hf.e_M x hx (.inl e)) h.2.2.2.1 hf.ev hf.n_le hb h0 h1
  have HBG := Lib.hid hbg
  have HA := Lib.hid h
  have HF := Lib.hid (And.intro hf (And.intro hok hnew))
  have hnoff : ¬ s.off = true := by rw [hoff]; decide
  have HNO := Lib.hid hnoff
  clear h hp1 hbg hf hok hnew hnoff hoff
  go_enter Try.func36, Try.ntmps36
  go_wp2_with fail
  refine HBG.out.mono ?_
  rintro e w1 ⟨rfl, hp1, hm1⟩
  have HM1 := Lib.hid (head_M hm1)
  have HS1 := Lib.hid hm1.size
  have HA1 : Hid (Arr w1 ar ok (s.go false)) := Lib.hid (HA.out.head HF.out.1 HF.out.2.1 hm1 (s.ops + 1) false hp1)
  clear hp1 hm1 HBG
  obtain ⟨bd, hbd⟩ : ∃ bd, (s.bl kb).bad = bd := ⟨_, rfl⟩
  have HNX := Lib.hid hbd
  have yb : ∀ o, (w1.alloc o).cell? ⟨ar.r, kb * 4 + 3, none⟩ = some (.bool bd) := fun o => pw_cell_below (bl_alloc (Below.refl _ _) o) (by have h_ := (HA1.out.bk kb hb).2.2.2.1; rw [show ((s.go false).bl kb).bad = bd from hbd] at h_; exact h_)
  clear hbd
  cases hfd : evFind ar.evs (s.ops + 1) with
  | none =>
   have HK := Lib.hid (kind_none hfd)
   clear hfd
   simp only [evC]
   cases bd with
   | true =>
    have HQ := Lib.hid (show eraseS ar s kb = (s.go false, 70) from by rw [eraseS, if_neg HNO.out, if_neg (by rw [HK.out]; decide), if_pos HNX.out])
    go_wp2_with fail
    go_ret
    exact ⟨by rw [HQ.out]; rfl, by rw [HQ.out]; exact HA1.out.below (bl_alloc (Below.refl _ _) _), HM1.out.alloc _⟩
   | false =>
    have HQ := Lib.hid (show eraseS ar s kb = (((s.go false).setPgs kb fun _ => none).setNx kb 0, 0) from by rw [eraseS, if_neg HNO.out, if_neg (by rw [HK.out]; decide), if_neg (by rw [HNX.out]; decide), if_neg (by rw [HK.out]; decide)])
    have hA2 := HA1.out.below (bl_alloc (Below.refl w1.heap.size w1) (.cells #[.int .i64 0, .int .i64 0, .int .i64 0, .slice none 0 0] 59))
    have hcl := fun ty => clear_run (w1.alloc (.cells #[.int .i64 0, .int .i64 0, .int .i64 0, .slice none 0 0] 59)) (ar.pr kb) (ar.pc kb) (hA2.pages12 hb) (fun j => hA2.pgfree kb j hb) ty
    have hA3 := hA2.clear HF.out.1 HF.out.2.1 kb hb
    have hM3 : Mods ar.M w ((w1.alloc (.cells #[.int .i64 0, .int .i64 0, .int .i64 0, .slice none 0 0] 59)).setCells (ar.pr kb) 0 nils) := setCells_mods (ar.pr kb) (Ar.M_pr ar kb hb) nils 0 (HM1.out.alloc _)
    have yp : ∀ o, (w1.alloc o).cell? ⟨ar.r, kb * 4, none⟩ = some (.slice (some ⟨ar.pr kb, 0, none⟩) 6 (ar.pc kb)) := fun o => pw_cell_below (bl_alloc (Below.refl _ _) o) (HA1.out.bk kb hb).1
    obtain ⟨-, yn, ⟨er, ye⟩, -, fr⟩ := hA3.bk kb hb
    have hA4 := (hA3.next HF.out.1 HF.out.2.1 kb hb 0).count HF.out.1 HF.out.2.1 kb hb (wrap64 (er + 1))
    rw [show ((0 : Nat) : Int) = 0 from rfl] at hA4
    have ye2 : ∀ v, (((w1.alloc (.cells #[.int .i64 0, .int .i64 0, .int .i64 0, .slice none 0 0] 59)).setCells (ar.pr kb) 0 nils).setCell ⟨ar.r, kb * 4 + 1, none⟩ v).cell? ⟨ar.r, kb * 4 + 2, none⟩ = some (.int .i64 er) := fun v => by
     obtain ⟨C_, hC_, -⟩ := hA3.2.2.2.2.2.1
     have h1_ := blk_put hC_ (kb * 4 + 1) v rfl
     rw [blk_cell h1_ (kb * 4 + 2), Array.getElem?_setIfInBounds_ne (by omega), ← blk_cell hC_ (kb * 4 + 2)]
     exact ye
    have HA4 := Lib.hid hA4
    have HM3 := Lib.hid hM3
    have fr1 := fr (kb * 4 + 1)
    have fr2 : ∀ v, (((w1.alloc (.cells #[.int .i64 0, .int .i64 0, .int .i64 0, .slice none 0 0] 59)).setCells (ar.pr kb) 0 nils).setCell ⟨ar.r, kb * 4 + 1, none⟩ v).frozen? ⟨ar.r, kb * 4 + 2, none⟩ = false := fun v => by
     have h_ := fr (kb * 4 + 2); simpa using h_
    clear hA2 hA3 hA4 hM3 fr
    go_wp2_with fail
    go_ret
    exact ⟨by rw [HQ.out]; rfl, by rw [HQ.out]; exact HA4.out, (HM3.out.at_ (.inl (Ar.M_r ar)) _ _).at_ (.inl (Ar.M_r ar)) _ _⟩
  | some x =>
   have hk := evFind_kind HF.out.1.ev hfd
   have hks := kind_some hfd
   obtain ⟨xo, xk⟩ := x
   simp only at hk hks
   rcases hk with rfl | rfl
   ·have HK := Lib.hid hks
    clear hfd hks
    simp only [evC]
    cases bd with
    | true =>
     have HQ := Lib.hid (show eraseS ar s kb = (s.go false, 70) from by rw [eraseS, if_neg HNO.out, if_neg (by rw [HK.out]; decide), if_pos HNX.out])
     go_wp2_with fail
     go_ret
     exact ⟨by rw [HQ.out]; rfl, by rw [HQ.out]; exact HA1.out.below (bl_alloc (Below.refl _ _) _), HM1.out.alloc _⟩
    | false =>
     have HQ := Lib.hid (show eraseS ar s kb = ((((s.go false).lf ar kb 6).setNx kb 6).setBad kb, 70) from by rw [eraseS, if_neg HNO.out, if_neg (by rw [HK.out]; decide), if_neg (by rw [HNX.out]; decide), if_pos HK.out])
     have hge := heap_alloc_new w1 (.cells #[.int .i64 xo, .int .i64 1, .int .i64 0, .slice ar.LA ar.ln ar.lc] 59)
     have yp : ∀ o, (w1.alloc o).cell? ⟨ar.r, kb * 4, none⟩ = some (.slice (some ⟨ar.pr kb, 0, none⟩) 6 (ar.pc kb)) := fun o => pw_cell_below (bl_alloc (Below.refl _ _) o) (HA1.out.bk kb hb).1
     go_wp2_with fail
     obtain ⟨wi, hwi⟩ : ∃ wi, w1.alloc (.cells #[.int .i64 xo, .int .i64 1, .int .i64 0, .slice ar.LA ar.ln ar.lc] 59) = wi := ⟨_, rfl⟩
     have hbi : Below w1.heap.size w1 wi := by rw [← hwi]; exact (bl_alloc (Below.refl _ _) _)
     rw [hwi] at hge ⊢
     obtain ⟨gE, hgE⟩ : ∃ gE, w1.heap.size = gE := ⟨_, rfl⟩
     have hMlt : ∀ k, ar.M k → k < gE := fun k hk => by rw [← hgE]; exact HA1.out.M_lt hk
     rw [hgE] at hge ⊢
     have GE0 := Lib.hid hge
     have AR00 := Lib.hid (HA1.out.below hbi)
     have HSi0 := Lib.hid (Nat.le_trans HS1.out hbi.size)
     have HMi := Lib.hid (HM1.out.trans (Mods.of_below hbi))
     have NEi := Lib.hid (show gE ≠ ar.pr kb from fun e => Nat.lt_irrefl _ (e ▸ hMlt _ (Ar.M_pr ar kb hb)))
     have NRi := Lib.hid (show gE ≠ ar.r from fun e => Nat.lt_irrefl _ (e ▸ hMlt _ (Ar.M_r ar)))
     have hpf := HF.out.1
     clear hwi hbi hge hgE yb yp HA HA1 hMlt
     go_loopw [52] (fun i wr => ∃ p : Nat, p ≤ 6 ∧ i = .int .i64 (p : Int) ∧ Hid (Arr wr ar ok ((s.go false).lf ar kb p) ∧ wr.heap[gE]? = some (.cells #[.int .i64 xo, .int .i64 1, .int .i64 0, .slice ar.LA ar.ln ar.lc] 59 (0, 0)) ∧ Mods ar.M wi wr)) (fun i _ => 6 - (intOf i).toNat)
     case atStart => exact ⟨0, Nat.zero_le _, rfl, Lib.hid ⟨lf_zero AR00.out, GE0.out, Mods.refl _ _⟩⟩
     case round =>
      obtain ⟨p, hp6, rfl, HS⟩ := hrel
      by_cases hp : p < 6
      ·have ARi := Lib.hid HS.out.1
       have GEi := Lib.hid HS.out.2.1
       have HMr := Lib.hid HS.out.2.2
       have HSi := Lib.hid (Nat.le_trans HSi0.out HS.out.2.2.size)
       obtain ⟨wi2, hwi2⟩ : ∃ wi2, wr = wi2 := ⟨_, rfl⟩
       rw [hwi2] at ARi GEi HMr HSi ⊢
       clear hwi2 HS
       go_wp2_with fail
       refine start_ (n := 10) (S := fun w' => True) (ds := []) _ (by kernel_rfl) rfl rfl trivial (fun hHeld => ?_)
       refine with_tabW TgR.tab11 TgR.bits11 (fun HT_ HW_ => ?_)
       have GE := Lib.hid (show wi2.drew.heap[gE]? = some (.cells #[.int .i64 xo, .int .i64 1, .int .i64 0, .slice ar.LA ar.ln ar.lc] 59 (0, 0)) from GEi.out)
       have AR0 := Lib.hid (show Arr wi2.drew ar ok ((s.go false).lf ar kb p) from ARi.out.below (bl_drew (Below.refl _ _)))
       have HFz := Lib.hid (show ar.Fix ∧ (∀ k, ok k → ¬ ar.M k) ∧ ∀ k, wi2.drew.heap.size ≤ k → ok k from ⟨HF.out.1, HF.out.2.1, fun k hk => HF.out.2.2 k (Nat.le_trans HSi.out hk)⟩)
       have NEz := Lib.hid (show gE ≠ ar.pr kb from NEi.out)
       have DZ := Lib.hid (show Mods ar.M wi2 wi2.drew from (Mods.refl _ wi2).drewN 1)
       generalize wi2.drew = wz at GE AR0 HFz DZ hHeld ⊢
       have MM := Lib.hid (Mods.refl ar.M wz)
       refine pur_ 0 (some 55) HT_.out rfl rfl (by kernel_rfl) (fun _ _ _ h => h) (by rfl) (fun w' => by go_simp; with_reducible rfl) (by simp only [Act.put, List.setIfInBounds_toArray, List.set_cons_zero, List.set_cons_succ, i64_w, i32_w]; rfl) ?_
       refine pur_ 1 (some 56) HT_.out rfl rfl (by kernel_rfl) (fun _ _ _ h => h) (by rfl) (fun w' => by go_simp; with_reducible rfl) (by simp only [Act.put, List.setIfInBounds_toArray, List.set_cons_zero, List.set_cons_succ, i64_w, i32_w]; rfl) ?_
       refine pur_ 2 (some 57) HT_.out rfl rfl (by kernel_rfl) (fun _ _ _ h => h) (by rfl) (fun w' => by go_simp; with_reducible rfl) (by simp only [Act.put, List.setIfInBounds_toArray, List.set_cons_zero, List.set_cons_succ, i64_w, i32_w]; rfl) ?_
       refine pur_ 4 (some 59) HT_.out rfl rfl (by kernel_rfl) (fun _ _ _ h => h) (by rfl) (fun w' => by go_simp; with_reducible rfl) (by simp only [Act.put, List.setIfInBounds_toArray, List.set_cons_zero, List.set_cons_succ, i64_w, i32_w]; rfl) ?_
       refine pur_ 5 (some 60) HT_.out rfl rfl (by kernel_rfl) (fun _ _ _ h => h) (by rfl) (fun w' => by go_simp; with_reducible rfl) (by simp only [Act.put, List.setIfInBounds_toArray, List.set_cons_zero, List.set_cons_succ, i64_w, i32_w]; rfl) ?_
       refine inv_at [3, 6, 7, 8, 9] (fun a0_ b a w' => ∃ (x0 : Nat) (m7_ : Value), a = putSel a0_ b [(3, 58, .slice (some ⟨ar.pr kb, 0, none⟩) 6 (ar.pc kb)), (6, 61, .agg #[.int .i64 xo, .int .i64 1, .int .i64 0, .slice ar.LA ar.ln ar.lc]), (7, 62, m7_), (8, 63, .pointer (some ⟨ar.pr kb, p * 2, none⟩))] ∧ (Mods ar.M wz w') ∧ (w'.heap[gE]? = some (.cells #[.int .i64 xo, .int .i64 1, .int .i64 0, .slice ar.LA ar.ln ar.lc] 59 (0, 0))) ∧ (b 9 = false → Arr w' ar ok ((s.go false).lf ar kb p)) ∧ (b 7 = true → b 9 = false → ReadsInt w' .u8 (some ⟨x0, 0, none⟩) 256 (leftD ar.lf) ∧ ReadsInt w' .u8 (some ⟨x0, 256, none⟩) 64 (leftO ar.lf) ∧ wz.heap.size ≤ x0) ∧ (b 9 = true → Arr w' ar ok (((s.go false).lf ar kb p).setPg kb p (leftD ar.lf, leftO ar.lf))) ∧ (b 7 = true → (m7_ : Value) = .agg #[.slice (some ⟨x0, 0, none⟩) 256 256, .slice (some ⟨x0, 256, none⟩) 64 64])) HT_.out HW_.out (by kernel_rfl) (by kernel_rfl) ?_ ?_ ?_
       ·exact ⟨0, .bool false, by simp only [putSel, Bool.false_eq_true, if_false], MM.out, GE.out, fun _ => AR0.out, fun h_ => absurd h_ (by decide), fun h_ => absurd h_ (by decide), fun h_ => absurd h_ (by decide)⟩
       ·skip
        clear AR0 GE MM
        refine steps_cons ?_ ?_
        ·rintro b a w' ⟨x0, m7_, ha, Q_MM, Q_GE, Q_AR0, Q_LR, Q_AR1, Q_X7_⟩ hb_ hon hoff
         refine ⟨_, rfl, fun K hK => ?_⟩
         have e57 : a.tmps[57]? = some (.pointer (some ⟨ar.r, kb * 4, none⟩)) := by rw [ha]; exact (putSel_off rfl).trans rfl
         replace ha := Aside0.mk ha
         have MM := Aside0.mk Q_MM
         have GE := Aside0.mk Q_GE
         have AR0 := Aside0.mk (Q_AR0 (hoff 9 (by kernel_rfl)))
         have hc_ : w'.cell? ⟨ar.r, kb * 4, none⟩ = some (.slice (some ⟨ar.pr kb, 0, none⟩) 6 (ar.pc kb)) := (AR0.out.bk kb hb).1
         refine value_ (w1 := w') (v := .slice (some ⟨ar.pr kb, 0, none⟩) 6 (ar.pc kb)) (by rfl) rfl ?_ ?_
         ·go_simp
          (try simp only [i64_w])
          try rfl
         refine hK.out _ _ ⟨x0, m7_, (ptup_ ha.out 0 hb_ rfl rfl rfl), Q_MM, Q_GE, Q_AR0, Q_LR, off_ (hoff 9 (by kernel_rfl)), Q_X7_⟩
        refine steps_cons ?_ ?_
        ·rintro b a w' ⟨x0, m7_, ha, Q_MM, Q_GE, Q_AR0, Q_LR, Q_AR1, Q_X7_⟩ hb_ hon hoff
         refine ⟨_, rfl, fun K hK => ?_⟩
         have e8 : a.tmps[8]? = some (.pointer (some ⟨gE, 0, none⟩)) := by rw [ha]; exact (putSel_off rfl).trans rfl
         replace ha := Aside0.mk ha
         have MM := Aside0.mk Q_MM
         have GE := Aside0.mk Q_GE
         have AR0 := Aside0.mk (Q_AR0 (hoff 9 (by kernel_rfl)))
         have e0_ := (blk_cell GE.out 0).trans rfl
         have e1_ := (blk_cell GE.out 1).trans rfl
         have e2_ := (blk_cell GE.out 2).trans rfl
         have e3_ := (blk_cell GE.out 3).trans rfl
         refine value_ (w1 := w') (v := .agg #[.int .i64 xo, .int .i64 1, .int .i64 0, .slice ar.LA ar.ln ar.lc]) (by rfl) rfl ?_ ?_
         ·go_simp
          (try simp only [i64_w])
          try rfl
         refine hK.out _ _ ⟨x0, m7_, (ptup_ ha.out 1 hb_ rfl rfl rfl), Q_MM, Q_GE, Q_AR0, fun h0_ _ => off_ (hoff 7 (by kernel_rfl)) h0_, off_ (hoff 9 (by kernel_rfl)), off_ (hoff 7 (by kernel_rfl))⟩
        refine steps_cons ?_ ?_
        ·rintro b a w' ⟨x0, m7_, ha, Q_MM, Q_GE, Q_AR0, Q_LR, Q_AR1, Q_X7_⟩ hb_ hon hoff
         refine ⟨_, rfl, fun K hK => ?_⟩
         have e60 : a.tmps[60]? = some (.pointer (some ⟨ar.p, 0, none⟩)) := by rw [ha]; exact (putSel_off rfl).trans rfl
         have e61 : a.tmps[61]? = some (.agg #[.int .i64 xo, .int .i64 1, .int .i64 0, .slice ar.LA ar.ln ar.lc]) := pton_ ha 1 rfl rfl (hon 6 (by kernel_rfl)) rfl
         replace ha := Aside0.mk ha
         have MM := Aside0.mk Q_MM
         have GE := Aside0.mk Q_GE
         have AR0 := Aside0.mk (Q_AR0 (hoff 9 (by kernel_rfl)))
         refine goes_ Try.func54 (by kernel_rfl) rfl #[.pointer (some ⟨ar.p, 0, none⟩), .agg #[.int .i64 xo, .int .i64 1, .int .i64 0, .slice ar.LA ar.ln ar.lc]] (by rfl) rfl rfl (by first | (simp only [List.map_toArray, List.map_cons, List.map_nil, Act.eval, Array.getD_eq_getD_getElem?, Option.getD_some, e60, e61]; done) | (simp only [List.map_toArray, List.map_cons, List.map_nil, Act.eval, Array.getD_eq_getD_getElem?, Option.getD_some, e60, e61]; rfl)) ?_
         refine (left_any ar.p _ _ _ _ _ xo 1 ar.LA ar.ln ar.lc ar.lf w' AR0.out.1 AR0.out.2.2.2.2.1 HFz.out.1.byt HFz.out.1.l_le).mono ?_
         rintro e w1 ⟨g_, rfl, g1, g2, g3, g4⟩
         refine ⟨_, rfl, ?_⟩
         refine hK.out _ _ ⟨g_, (.agg #[.slice (some ⟨g_, 0, none⟩) 256 256, .slice (some ⟨g_, 256, none⟩) 64 64]), (ptup_ ha.out 2 hb_ rfl rfl rfl), MM.out.trans (Mods.of_below g2), blk_below GE.out g2, fun _ => AR0.out.below g2, fun _ _ => ⟨g3, g4, Nat.le_trans MM.out.size g1⟩, off_ (hoff 9 (by kernel_rfl)), fun _ => rfl⟩
        refine steps_cons ?_ ?_
        ·rintro b a w' ⟨x0, m7_, ha, Q_MM, Q_GE, Q_AR0, Q_LR, Q_AR1, Q_X7_⟩ hb_ hon hoff
         refine ⟨_, rfl, fun K hK => ?_⟩
         have e58 : a.tmps[58]? = some (.slice (some ⟨ar.pr kb, 0, none⟩) 6 (ar.pc kb)) := pton_ ha 0 rfl rfl (hon 3 (by kernel_rfl)) rfl
         have e59 : a.tmps[59]? = some (.int .i64 (p : Int)) := by rw [ha]; exact (putSel_off rfl).trans rfl
         replace ha := Aside0.mk ha
         have MM := Aside0.mk Q_MM
         have GE := Aside0.mk Q_GE
         have AR0 := Aside0.mk (Q_AR0 (hoff 9 (by kernel_rfl)))
         have LR := Aside0.mk (Q_LR (hon 7 (by kernel_rfl)) (hoff 9 (by kernel_rfl)))
         refine value_ (w1 := w') (v := .pointer (some ⟨ar.pr kb, p * 2, none⟩)) (by rfl) rfl ?_ ?_
         ·go_simp
          (try simp only [i64_w])
          try rfl
         refine hK.out _ _ ⟨x0, m7_, (ptup_ ha.out 3 hb_ rfl rfl rfl), Q_MM, Q_GE, Q_AR0, Q_LR, off_ (hoff 9 (by kernel_rfl)), Q_X7_⟩
        refine steps_cons ?_ ?_
        ·rintro b a w' ⟨x0, m7_, ha, Q_MM, Q_GE, Q_AR0, Q_LR, Q_AR1, Q_X7_⟩ hb_ hon hoff
         refine ⟨_, rfl, fun K hK => ?_⟩
         have e63 : a.tmps[63]? = some (.pointer (some ⟨ar.pr kb, p * 2, none⟩)) := pton_ ha 3 rfl rfl (hon 8 (by kernel_rfl)) rfl
         have e62 : a.tmps[62]? = some (m7_) := pton_ ha 2 rfl rfl (hon 7 (by kernel_rfl)) rfl
         rw [Q_X7_ (hon 7 (by kernel_rfl))] at e62
         replace ha := Aside0.mk ha
         have MM := Aside0.mk Q_MM
         have GE := Aside0.mk Q_GE
         have AR0 := Aside0.mk (Q_AR0 hb_)
         have LR := Aside0.mk (Q_LR (hon 7 (by kernel_rfl)) hb_)
         obtain ⟨u0_, u1_, c0_, c1_⟩ := AR0.out.pgany kb p hb hp
         have f0_ := AR0.out.pgfree kb (p * 2) hb
         have f1_ := AR0.out.pgfree kb (p * 2 + 1) hb
         refine skip_ (w1 := (w'.setCell ⟨ar.pr kb, p * 2, none⟩ (.slice (some ⟨x0, 0, none⟩) 256 256)).setCell ⟨ar.pr kb, p * 2 + 1, none⟩ (.slice (some ⟨x0, 256, none⟩) 64 64)) (by rfl) rfl ?_ ?_
         ·go_simp
          try simp only [c0_, c1_, f0_, f1_]
          try rfl
         refine hK.out _ _ ⟨x0, m7_, (by rw [ha.out]; exact putSel_none (v := undef) rfl), (MM.out.at_ (.inl (Ar.M_pr ar kb hb)) _ _).at_ (.inl (Ar.M_pr ar kb hb)) _ _, blk_far (blk_far GE.out (p := ⟨ar.pr kb, p * 2, none⟩) NEz.out _) (p := ⟨ar.pr kb, p * 2 + 1, none⟩) NEz.out _, fun h0_ => absurd ((up_self b 9).symm.trans h0_) (by decide), fun _ h1_ => absurd ((up_self b 9).symm.trans h1_) (by decide), fun _ => AR0.out.page HFz.out.1 HFz.out.2.1 kb p hb hp _ _ (some (leftD ar.lf, leftO ar.lf)) (fun D h0 h1 => ⟨_, _, _, _, h0, h1, Nat.le_refl _, Nat.le_refl _, LR.out.1, LR.out.2.1, HFz.out.2.2 _ LR.out.2.2, HFz.out.2.2 _ LR.out.2.2, leftD_byt HFz.out.1.byt, leftO_byt HFz.out.1.byt⟩), Q_X7_⟩
        exact steps_nil
       ·rintro b a w' hall ⟨x0, m7_, ha, Q_MM, Q_GE, Q_AR0, Q_LR, Q_AR1, Q_X7_⟩
        clear AR0 GE MM
        have hb3_ := hall 3 (by kernel_rfl)
        have hb6_ := hall 6 (by kernel_rfl)
        have hb7_ := hall 7 (by kernel_rfl)
        have hb8_ := hall 8 (by kernel_rfl)
        have hb9_ := hall 9 (by kernel_rfl)
        subst ha
        obtain rfl := Q_X7_ hb7_
        simp only [putSel, hb3_, hb6_, hb7_, hb8_, hb9_, if_true, Act.put, List.setIfInBounds_toArray, List.set_cons_zero, List.set_cons_succ]
        have MM := Aside0.mk Q_MM
        clear Q_MM
        have GE := Aside0.mk Q_GE
        clear Q_GE
        clear Q_AR0
        clear Q_LR
        have AR1 := Aside0.mk (Q_AR1 hb9_)
        clear Q_AR1
        clear hall hb3_ hb6_ hb7_ hb8_ hb9_
        have HN := Lib.hid (And.intro (lf_step AR1.out) (And.intro GE.out (HMr.out.trans (DZ.out.trans MM.out))))
        clear AR1 GE MM DZ HFz NEz
        go_wp2_with fail
        go_roundw
        case rel => exact ⟨p + 1, by omega, by go_num, HN⟩
        case measure => simp [intOf]; omega
      ·obtain rfl : p = 6 := by omega
       have ynx : wr.cell? ⟨ar.r, kb * 4 + 1, none⟩ = some (.int .i64 ((s.bl kb).nx : Int)) := by have h_ := (HS.out.1.bk kb hb).2.1; rw [lf_nx] at h_; exact h_
       have fnx := (HS.out.1.bk kb hb).2.2.2.2 (kb * 4 + 1)
       have yg2 := (arr_cells HS.out.1.1).2.2.1
       have hn6_ := HS.out.1.next HF.out.1 HF.out.2.1 kb hb 6
       rw [show ((6 : Nat) : Int) = 6 from rfl] at hn6_
       have HNX1 := Lib.hid hn6_
       clear hn6_
       have fb1 : ∀ v, (wr.setCell ⟨ar.r, kb * 4 + 1, none⟩ v).frozen? ⟨ar.r, kb * 4 + 3, none⟩ = false := fun v => by
        have h_ := (HS.out.1.bk kb hb).2.2.2.2 (kb * 4 + 3)
        simpa using h_
       have yb1 : (wr.setCell ⟨ar.r, kb * 4 + 1, none⟩ (.int .i64 6)).cell? ⟨ar.r, kb * 4 + 3, none⟩ = some (.bool false) := by
        have h_ := (HNX1.out.bk kb hb).2.2.2.1
        rw [h_]
        simp [upd, St.lf, St.setPgs, St.go, HNX.out]
       have ek1 : ∀ v, (wr.setCell ⟨ar.r, kb * 4 + 1, none⟩ v).cell? ⟨gE, 1, none⟩ = some (.int .i64 1) := fun v => (blk_cell (blk_far HS.out.2.1 (p := ⟨ar.r, kb * 4 + 1, none⟩) NRi.out v) 1).trans rfl
       have HSP := Lib.hid (HNX1.out.spoil HF.out.1 HF.out.2.1 kb hb true)
       go_wp2_with fail
       go_ret
       exact ⟨by rw [HQ.out]; rfl, by rw [HQ.out]; exact HSP.out, ((HMi.out.trans HS.out.2.2).at_ (.inl (Ar.M_r ar)) _ _).at_ (.inl (Ar.M_r ar)) _ _⟩
   ·have HK := Lib.hid hks
    clear hfd hks
    simp only [evC]
    cases bd with
    | true =>
     have HQ := Lib.hid (show eraseS ar s kb = ((s.go false).setOff, 72) from by rw [eraseS, if_neg HNO.out, if_pos HK.out, if_pos HNX.out])
     have y8 : ∀ o, (w1.alloc o).cell? ⟨ar.p, 8, none⟩ = some (.bool false) := fun o => pw_cell_below (bl_alloc (Below.refl _ _) o) (arr_cells HA1.out.1).2.2.2.2.2.2.2.2
     have f8 : ∀ o, (w1.alloc o).frozen? ⟨ar.p, 8, none⟩ = false := fun o => blk_frozen (blk_alloc HA1.out.1 o) 8
     go_wp2_with fail
     go_ret
     exact ⟨by rw [HQ.out]; rfl, by rw [HQ.out]; exact (HA1.out.below (bl_alloc (Below.refl _ _) _)).power HF.out.1 HF.out.2.1 true, (HM1.out.alloc _).at_ (.inl (Ar.M_p ar)) 8 _⟩
    | false =>
     have HQ := Lib.hid (show eraseS ar s kb = ((((s.go false).lf ar kb 6).setNx kb 6).setOff, 72) from by rw [eraseS, if_neg HNO.out, if_pos HK.out, if_neg (by rw [HNX.out]; decide)])
     have hge := heap_alloc_new w1 (.cells #[.int .i64 xo, .int .i64 2, .int .i64 0, .slice ar.LA ar.ln ar.lc] 59)
     have yp : ∀ o, (w1.alloc o).cell? ⟨ar.r, kb * 4, none⟩ = some (.slice (some ⟨ar.pr kb, 0, none⟩) 6 (ar.pc kb)) := fun o => pw_cell_below (bl_alloc (Below.refl _ _) o) (HA1.out.bk kb hb).1
     go_wp2_with fail
     obtain ⟨wi, hwi⟩ : ∃ wi, w1.alloc (.cells #[.int .i64 xo, .int .i64 2, .int .i64 0, .slice ar.LA ar.ln ar.lc] 59) = wi := ⟨_, rfl⟩
     have hbi : Below w1.heap.size w1 wi := by rw [← hwi]; exact (bl_alloc (Below.refl _ _) _)
     rw [hwi] at hge ⊢
     obtain ⟨gE, hgE⟩ : ∃ gE, w1.heap.size = gE := ⟨_, rfl⟩
     have hMlt : ∀ k, ar.M k → k < gE := fun k hk => by rw [← hgE]; exact HA1.out.M_lt hk
     rw [hgE] at hge ⊢
     have GE0 := Lib.hid hge
     have AR00 := Lib.hid (HA1.out.below hbi)
     have HSi0 := Lib.hid (Nat.le_trans HS1.out hbi.size)
     have HMi := Lib.hid (HM1.out.trans (Mods.of_below hbi))
     have NEi := Lib.hid (show gE ≠ ar.pr kb from fun e => Nat.lt_irrefl _ (e ▸ hMlt _ (Ar.M_pr ar kb hb)))
     have NRi := Lib.hid (show gE ≠ ar.r from fun e => Nat.lt_irrefl _ (e ▸ hMlt _ (Ar.M_r ar)))
     have hpf := HF.out.1
     clear hwi hbi hge hgE yb yp HA HA1 hMlt
     go_loopw [52] (fun i wr => ∃ p : Nat, p ≤ 6 ∧ i = .int .i64 (p : Int) ∧ Hid (Arr wr ar ok ((s.go false).lf ar kb p) ∧ wr.heap[gE]? = some (.cells #[.int .i64 xo, .int .i64 2, .int .i64 0, .slice ar.LA ar.ln ar.lc] 59 (0, 0)) ∧ Mods ar.M wi wr)) (fun i _ => 6 - (intOf i).toNat)
     case atStart => exact ⟨0, Nat.zero_le _, rfl, Lib.hid ⟨lf_zero AR00.out, GE0.out, Mods.refl _ _⟩⟩
     case round =>
      obtain ⟨p, hp6, rfl, HS⟩ := hrel
      by_cases hp : p < 6
      ·have ARi := Lib.hid HS.out.1
       have GEi := Lib.hid HS.out.2.1
       have HMr := Lib.hid HS.out.2.2
       have HSi := Lib.hid (Nat.le_trans HSi0.out HS.out.2.2.size)
       obtain ⟨wi2, hwi2⟩ : ∃ wi2, wr = wi2 := ⟨_, rfl⟩
       rw [hwi2] at ARi GEi HMr HSi ⊢
       clear hwi2 HS
       go_wp2_with fail
       refine start_ (n := 10) (S := fun w' => True) (ds := []) _ (by kernel_rfl) rfl rfl trivial (fun hHeld => ?_)
       refine with_tabW TgR.tab11 TgR.bits11 (fun HT_ HW_ => ?_)
       have GE := Lib.hid (show wi2.drew.heap[gE]? = some (.cells #[.int .i64 xo, .int .i64 2, .int .i64 0, .slice ar.LA ar.ln ar.lc] 59 (0, 0)) from GEi.out)
       have AR0 := Lib.hid (show Arr wi2.drew ar ok ((s.go false).lf ar kb p) from ARi.out.below (bl_drew (Below.refl _ _)))
       have HFz := Lib.hid (show ar.Fix ∧ (∀ k, ok k → ¬ ar.M k) ∧ ∀ k, wi2.drew.heap.size ≤ k → ok k from ⟨HF.out.1, HF.out.2.1, fun k hk => HF.out.2.2 k (Nat.le_trans HSi.out hk)⟩)
       have NEz := Lib.hid (show gE ≠ ar.pr kb from NEi.out)
       have DZ := Lib.hid (show Mods ar.M wi2 wi2.drew from (Mods.refl _ wi2).drewN 1)
       generalize wi2.drew = wz at GE AR0 HFz DZ hHeld ⊢
       have MM := Lib.hid (Mods.refl ar.M wz)
       refine pur_ 0 (some 55) HT_.out rfl rfl (by kernel_rfl) (fun _ _ _ h => h) (by rfl) (fun w' => by go_simp; with_reducible rfl) (by simp only [Act.put, List.setIfInBounds_toArray, List.set_cons_zero, List.set_cons_succ, i64_w, i32_w]; rfl) ?_
       refine pur_ 1 (some 56) HT_.out rfl rfl (by kernel_rfl) (fun _ _ _ h => h) (by rfl) (fun w' => by go_simp; with_reducible rfl) (by simp only [Act.put, List.setIfInBounds_toArray, List.set_cons_zero, List.set_cons_succ, i64_w, i32_w]; rfl) ?_
       refine pur_ 2 (some 57) HT_.out rfl rfl (by kernel_rfl) (fun _ _ _ h => h) (by rfl) (fun w' => by go_simp; with_reducible rfl) (by simp only [Act.put, List.setIfInBounds_toArray, List.set_cons_zero, List.set_cons_succ, i64_w, i32_w]; rfl) ?_
       refine pur_ 4 (some 59) HT_.out rfl rfl (by kernel_rfl) (fun _ _ _ h => h) (by rfl) (fun w' => by go_simp; with_reducible rfl) (by simp only [Act.put, List.setIfInBounds_toArray, List.set_cons_zero, List.set_cons_succ, i64_w, i32_w]; rfl) ?_
       refine pur_ 5 (some 60) HT_.out rfl rfl (by kernel_rfl) (fun _ _ _ h => h) (by rfl) (fun w' => by go_simp; with_reducible rfl) (by simp only [Act.put, List.setIfInBounds_toArray, List.set_cons_zero, List.set_cons_succ, i64_w, i32_w]; rfl) ?_
       refine inv_at [3, 6, 7, 8, 9] (fun a0_ b a w' => ∃ (x0 : Nat) (m7_ : Value), a = putSel a0_ b [(3, 58, .slice (some ⟨ar.pr kb, 0, none⟩) 6 (ar.pc kb)), (6, 61, .agg #[.int .i64 xo, .int .i64 2, .int .i64 0, .slice ar.LA ar.ln ar.lc]), (7, 62, m7_), (8, 63, .pointer (some ⟨ar.pr kb, p * 2, none⟩))] ∧ (Mods ar.M wz w') ∧ (w'.heap[gE]? = some (.cells #[.int .i64 xo, .int .i64 2, .int .i64 0, .slice ar.LA ar.ln ar.lc] 59 (0, 0))) ∧ (b 9 = false → Arr w' ar ok ((s.go false).lf ar kb p)) ∧ (b 7 = true → b 9 = false → ReadsInt w' .u8 (some ⟨x0, 0, none⟩) 256 (leftD ar.lf) ∧ ReadsInt w' .u8 (some ⟨x0, 256, none⟩) 64 (leftO ar.lf) ∧ wz.heap.size ≤ x0) ∧ (b 9 = true → Arr w' ar ok (((s.go false).lf ar kb p).setPg kb p (leftD ar.lf, leftO ar.lf))) ∧ (b 7 = true → (m7_ : Value) = .agg #[.slice (some ⟨x0, 0, none⟩) 256 256, .slice (some ⟨x0, 256, none⟩) 64 64])) HT_.out HW_.out (by kernel_rfl) (by kernel_rfl) ?_ ?_ ?_
       ·exact ⟨0, .bool false, by simp only [putSel, Bool.false_eq_true, if_false], MM.out, GE.out, fun _ => AR0.out, fun h_ => absurd h_ (by decide), fun h_ => absurd h_ (by decide), fun h_ => absurd h_ (by decide)⟩
       ·skip
        clear AR0 GE MM
        refine steps_cons ?_ ?_
        ·rintro b a w' ⟨x0, m7_, ha, Q_MM, Q_GE, Q_AR0, Q_LR, Q_AR1, Q_X7_⟩ hb_ hon hoff
         refine ⟨_, rfl, fun K hK => ?_⟩
         have e57 : a.tmps[57]? = some (.pointer (some ⟨ar.r, kb * 4, none⟩)) := by rw [ha]; exact (putSel_off rfl).trans rfl
         replace ha := Aside0.mk ha
         have MM := Aside0.mk Q_MM
         have GE := Aside0.mk Q_GE
         have AR0 := Aside0.mk (Q_AR0 (hoff 9 (by kernel_rfl)))
         have hc_ : w'.cell? ⟨ar.r, kb * 4, none⟩ = some (.slice (some ⟨ar.pr kb, 0, none⟩) 6 (ar.pc kb)) := (AR0.out.bk kb hb).1
         refine value_ (w1 := w') (v := .slice (some ⟨ar.pr kb, 0, none⟩) 6 (ar.pc kb)) (by rfl) rfl ?_ ?_
         ·go_simp
          (try simp only [i64_w])
          try rfl
         refine hK.out _ _ ⟨x0, m7_, (ptup_ ha.out 0 hb_ rfl rfl rfl), Q_MM, Q_GE, Q_AR0, Q_LR, off_ (hoff 9 (by kernel_rfl)), Q_X7_⟩
        refine steps_cons ?_ ?_
        ·rintro b a w' ⟨x0, m7_, ha, Q_MM, Q_GE, Q_AR0, Q_LR, Q_AR1, Q_X7_⟩ hb_ hon hoff
         refine ⟨_, rfl, fun K hK => ?_⟩
         have e8 : a.tmps[8]? = some (.pointer (some ⟨gE, 0, none⟩)) := by rw [ha]; exact (putSel_off rfl).trans rfl
         replace ha := Aside0.mk ha
         have MM := Aside0.mk Q_MM
         have GE := Aside0.mk Q_GE
         have AR0 := Aside0.mk (Q_AR0 (hoff 9 (by kernel_rfl)))
         have e0_ := (blk_cell GE.out 0).trans rfl
         have e1_ := (blk_cell GE.out 1).trans rfl
         have e2_ := (blk_cell GE.out 2).trans rfl
         have e3_ := (blk_cell GE.out 3).trans rfl
         refine value_ (w1 := w') (v := .agg #[.int .i64 xo, .int .i64 2, .int .i64 0, .slice ar.LA ar.ln ar.lc]) (by rfl) rfl ?_ ?_
         ·go_simp
          (try simp only [i64_w])
          try rfl
         refine hK.out _ _ ⟨x0, m7_, (ptup_ ha.out 1 hb_ rfl rfl rfl), Q_MM, Q_GE, Q_AR0, fun h0_ _ => off_ (hoff 7 (by kernel_rfl)) h0_, off_ (hoff 9 (by kernel_rfl)), off_ (hoff 7 (by kernel_rfl))⟩
        refine steps_cons ?_ ?_
        ·rintro b a w' ⟨x0, m7_, ha, Q_MM, Q_GE, Q_AR0, Q_LR, Q_AR1, Q_X7_⟩ hb_ hon hoff
         refine ⟨_, rfl, fun K hK => ?_⟩
         have e60 : a.tmps[60]? = some (.pointer (some ⟨ar.p, 0, none⟩)) := by rw [ha]; exact (putSel_off rfl).trans rfl
         have e61 : a.tmps[61]? = some (.agg #[.int .i64 xo, .int .i64 2, .int .i64 0, .slice ar.LA ar.ln ar.lc]) := pton_ ha 1 rfl rfl (hon 6 (by kernel_rfl)) rfl
         replace ha := Aside0.mk ha
         have MM := Aside0.mk Q_MM
         have GE := Aside0.mk Q_GE
         have AR0 := Aside0.mk (Q_AR0 (hoff 9 (by kernel_rfl)))
         refine goes_ Try.func54 (by kernel_rfl) rfl #[.pointer (some ⟨ar.p, 0, none⟩), .agg #[.int .i64 xo, .int .i64 2, .int .i64 0, .slice ar.LA ar.ln ar.lc]] (by rfl) rfl rfl (by first | (simp only [List.map_toArray, List.map_cons, List.map_nil, Act.eval, Array.getD_eq_getD_getElem?, Option.getD_some, e60, e61]; done) | (simp only [List.map_toArray, List.map_cons, List.map_nil, Act.eval, Array.getD_eq_getD_getElem?, Option.getD_some, e60, e61]; rfl)) ?_
         refine (left_any ar.p _ _ _ _ _ xo 2 ar.LA ar.ln ar.lc ar.lf w' AR0.out.1 AR0.out.2.2.2.2.1 HFz.out.1.byt HFz.out.1.l_le).mono ?_
         rintro e w1 ⟨g_, rfl, g1, g2, g3, g4⟩
         refine ⟨_, rfl, ?_⟩
         refine hK.out _ _ ⟨g_, (.agg #[.slice (some ⟨g_, 0, none⟩) 256 256, .slice (some ⟨g_, 256, none⟩) 64 64]), (ptup_ ha.out 2 hb_ rfl rfl rfl), MM.out.trans (Mods.of_below g2), blk_below GE.out g2, fun _ => AR0.out.below g2, fun _ _ => ⟨g3, g4, Nat.le_trans MM.out.size g1⟩, off_ (hoff 9 (by kernel_rfl)), fun _ => rfl⟩
        refine steps_cons ?_ ?_
        ·rintro b a w' ⟨x0, m7_, ha, Q_MM, Q_GE, Q_AR0, Q_LR, Q_AR1, Q_X7_⟩ hb_ hon hoff
         refine ⟨_, rfl, fun K hK => ?_⟩
         have e58 : a.tmps[58]? = some (.slice (some ⟨ar.pr kb, 0, none⟩) 6 (ar.pc kb)) := pton_ ha 0 rfl rfl (hon 3 (by kernel_rfl)) rfl
         have e59 : a.tmps[59]? = some (.int .i64 (p : Int)) := by rw [ha]; exact (putSel_off rfl).trans rfl
         replace ha := Aside0.mk ha
         have MM := Aside0.mk Q_MM
         have GE := Aside0.mk Q_GE
         have AR0 := Aside0.mk (Q_AR0 (hoff 9 (by kernel_rfl)))
         have LR := Aside0.mk (Q_LR (hon 7 (by kernel_rfl)) (hoff 9 (by kernel_rfl)))
         refine value_ (w1 := w') (v := .pointer (some ⟨ar.pr kb, p * 2, none⟩)) (by rfl) rfl ?_ ?_
         ·go_simp
          (try simp only [i64_w])
          try rfl
         refine hK.out _ _ ⟨x0, m7_, (ptup_ ha.out 3 hb_ rfl rfl rfl), Q_MM, Q_GE, Q_AR0, Q_LR, off_ (hoff 9 (by kernel_rfl)), Q_X7_⟩
        refine steps_cons ?_ ?_
        ·rintro b a w' ⟨x0, m7_, ha, Q_MM, Q_GE, Q_AR0, Q_LR, Q_AR1, Q_X7_⟩ hb_ hon hoff
         refine ⟨_, rfl, fun K hK => ?_⟩
         have e63 : a.tmps[63]? = some (.pointer (some ⟨ar.pr kb, p * 2, none⟩)) := pton_ ha 3 rfl rfl (hon 8 (by kernel_rfl)) rfl
         have e62 : a.tmps[62]? = some (m7_) := pton_ ha 2 rfl rfl (hon 7 (by kernel_rfl)) rfl
         rw [Q_X7_ (hon 7 (by kernel_rfl))] at e62
         replace ha := Aside0.mk ha
         have MM := Aside0.mk Q_MM
         have GE := Aside0.mk Q_GE
         have AR0 := Aside0.mk (Q_AR0 hb_)
         have LR := Aside0.mk (Q_LR (hon 7 (by kernel_rfl)) hb_)
         obtain ⟨u0_, u1_, c0_, c1_⟩ := AR0.out.pgany kb p hb hp
         have f0_ := AR0.out.pgfree kb (p * 2) hb
         have f1_ := AR0.out.pgfree kb (p * 2 + 1) hb
         refine skip_ (w1 := (w'.setCell ⟨ar.pr kb, p * 2, none⟩ (.slice (some ⟨x0, 0, none⟩) 256 256)).setCell ⟨ar.pr kb, p * 2 + 1, none⟩ (.slice (some ⟨x0, 256, none⟩) 64 64)) (by rfl) rfl ?_ ?_
         ·go_simp
          try simp only [c0_, c1_, f0_, f1_]
          try rfl
         refine hK.out _ _ ⟨x0, m7_, (by rw [ha.out]; exact putSel_none (v := undef) rfl), (MM.out.at_ (.inl (Ar.M_pr ar kb hb)) _ _).at_ (.inl (Ar.M_pr ar kb hb)) _ _, blk_far (blk_far GE.out (p := ⟨ar.pr kb, p * 2, none⟩) NEz.out _) (p := ⟨ar.pr kb, p * 2 + 1, none⟩) NEz.out _, fun h0_ => absurd ((up_self b 9).symm.trans h0_) (by decide), fun _ h1_ => absurd ((up_self b 9).symm.trans h1_) (by decide), fun _ => AR0.out.page HFz.out.1 HFz.out.2.1 kb p hb hp _ _ (some (leftD ar.lf, leftO ar.lf)) (fun D h0 h1 => ⟨_, _, _, _, h0, h1, Nat.le_refl _, Nat.le_refl _, LR.out.1, LR.out.2.1, HFz.out.2.2 _ LR.out.2.2, HFz.out.2.2 _ LR.out.2.2, leftD_byt HFz.out.1.byt, leftO_byt HFz.out.1.byt⟩), Q_X7_⟩
        exact steps_nil
       ·rintro b a w' hall ⟨x0, m7_, ha, Q_MM, Q_GE, Q_AR0, Q_LR, Q_AR1, Q_X7_⟩
        clear AR0 GE MM
        have hb3_ := hall 3 (by kernel_rfl)
        have hb6_ := hall 6 (by kernel_rfl)
        have hb7_ := hall 7 (by kernel_rfl)
        have hb8_ := hall 8 (by kernel_rfl)
        have hb9_ := hall 9 (by kernel_rfl)
        subst ha
        obtain rfl := Q_X7_ hb7_
        simp only [putSel, hb3_, hb6_, hb7_, hb8_, hb9_, if_true, Act.put, List.setIfInBounds_toArray, List.set_cons_zero, List.set_cons_succ]
        have MM := Aside0.mk Q_MM
        clear Q_MM
        have GE := Aside0.mk Q_GE
        clear Q_GE
        clear Q_AR0
        clear Q_LR
        have AR1 := Aside0.mk (Q_AR1 hb9_)
        clear Q_AR1
        clear hall hb3_ hb6_ hb7_ hb8_ hb9_
        have HN := Lib.hid (And.intro (lf_step AR1.out) (And.intro GE.out (HMr.out.trans (DZ.out.trans MM.out))))
        clear AR1 GE MM DZ HFz NEz
        go_wp2_with fail
        go_roundw
        case rel => exact ⟨p + 1, by omega, by go_num, HN⟩
        case measure => simp [intOf]; omega
      ·obtain rfl : p = 6 := by omega
       have ynx : wr.cell? ⟨ar.r, kb * 4 + 1, none⟩ = some (.int .i64 ((s.bl kb).nx : Int)) := by have h_ := (HS.out.1.bk kb hb).2.1; rw [lf_nx] at h_; exact h_
       have fnx := (HS.out.1.bk kb hb).2.2.2.2 (kb * 4 + 1)
       have yg2 := (arr_cells HS.out.1.1).2.2.1
       have hn6_ := HS.out.1.next HF.out.1 HF.out.2.1 kb hb 6
       rw [show ((6 : Nat) : Int) = 6 from rfl] at hn6_
       have HNX1 := Lib.hid hn6_
       clear hn6_
       have ek1 : ∀ v, (wr.setCell ⟨ar.r, kb * 4 + 1, none⟩ v).cell? ⟨gE, 1, none⟩ = some (.int .i64 2) := fun v => (blk_cell (blk_far HS.out.2.1 (p := ⟨ar.r, kb * 4 + 1, none⟩) NRi.out v) 1).trans rfl
       have yo1 : (wr.setCell ⟨ar.r, kb * 4 + 1, none⟩ (.int .i64 6)).cell? ⟨ar.p, 8, none⟩ = some (.bool false) := (arr_cells HNX1.out.1).2.2.2.2.2.2.2.2
       have fo1 : (wr.setCell ⟨ar.r, kb * 4 + 1, none⟩ (.int .i64 6)).frozen? ⟨ar.p, 8, none⟩ = false := blk_frozen HNX1.out.1 8
       have HSP := Lib.hid (HNX1.out.power HF.out.1 HF.out.2.1 true)
       go_wp2_with fail
       go_ret
       exact ⟨by rw [HQ.out]; rfl, by rw [HQ.out]; exact HSP.out, ((HMi.out.trans HS.out.2.2).at_ (.inl (Ar.M_r ar)) _ _).at_ (.inl (Ar.M_p ar)) _ _⟩
end Go.Proofs.Ytffalemndjampaa
end
section
set_option linter.unusedVariables false
set_option linter.unusedSimpArgs false
namespace Go.Proofs.Ytffalemndjampaa
open Go.RowKit Go.Proofs.YtffalemndjampaaW.PrintWords Go.Proofs.YtffalemndjampaaW.PrintLast
set_option maxHeartbeats 2000000 in
theorem boot_any (ar : Ar) (ok : Nat → Prop) (s : St) (w : World) (hf : ar.Fix) (hok : ∀ k, ok k → ¬ ar.M k) (h : Arr w ar ok s) :
  Calls Try.prog 25 #[.pointer (some ⟨ar.p, 0, none⟩)] w fun e w' => e = .returned (.tuple #[]) ∧ Arr w' ar ok { s with off := false } ∧ Mods ar.M w w' := by
 have y8 := (arr_cells h.1).2.2.2.2.2.2.2.2
 have f8 := blk_frozen h.1 8
 have HN := Lib.hid (And.intro (h.power hf hok false) (Mods.at_ (S := ar.M) (Mods.refl _ w) (.inl (Ar.M_p ar)) 8 (.bool false)))
 clear h hf hok
 go_enter Try.func25, Try.ntmps25
 go_wp2_with fail
 go_end0
 exact ⟨rfl, HN.out⟩
set_option maxHeartbeats 2000000 in
theorem geo_any (ar : Ar) (ok : Nat → Prop) (s : St) (w : World) (h : Arr w ar ok s) :
  Calls Try.prog 35 #[.pointer (some ⟨ar.p, 0, none⟩)] w fun e w' => e = .returned (.agg #[.int .i64 3, .int .i64 16, .int .i64 6, .int .i64 256]) ∧ Below w.heap.size w w' := by
 have al := fun o => bl_alloc (Below.refl w.heap.size w) o
 obtain ⟨g0, g1, g2, g3, -⟩ := arr_cells h.1
 have y0 : ∀ o, (w.alloc o).cell? ⟨ar.p, 0, none⟩ = some (.int .i64 3) := fun o => pw_cell_below (al o) g0
 have y1 : ∀ o, (w.alloc o).cell? ⟨ar.p, 1, none⟩ = some (.int .i64 16) := fun o => pw_cell_below (al o) g1
 have y2 : ∀ o, (w.alloc o).cell? ⟨ar.p, 2, none⟩ = some (.int .i64 6) := fun o => pw_cell_below (al o) g2
 have y3 : ∀ o, (w.alloc o).cell? ⟨ar.p, 3, none⟩ = some (.int .i64 256) := fun o => pw_cell_below (al o) g3
 clear al g0 g1 g2 g3 h
 go_enter Try.func35, Try.ntmps35
 go_wp2_with fail
 refine bodyPost_ret (v := .agg #[.int .i64 3, .int .i64 16, .int .i64 6, .int .i64 256]) (by simp [results, Try.results35, go_sem]) rfl ⟨rfl, ?_⟩
 repeat (first | exact bl_alloc (Below.refl _ _) _ | apply pw_below_drewN)
set_option maxHeartbeats 2000000 in
theorem chips_any (ar : Ar) (ok : Nat → Prop) (s : St) (w : World) (h : Arr w ar ok s) :
  Calls Try.prog 17 #[.pointer (some ⟨ar.p, 0, none⟩)] w fun e w' => e = .returned (.int .i64 4) ∧ Below w.heap.size w w' := by
 have y4 := (arr_cells h.1).2.2.2.2.1
 clear h
 go_enter Try.func17, Try.ntmps17
 go_wp2_with fail
 go_ret
 exact ⟨rfl, Below.refl _ _⟩
end Go.Proofs.Ytffalemndjampaa
end
section
set_option linter.unusedVariables false
set_option linter.unusedSimpArgs false
namespace Go.Proofs.Ytffalemndjampaa
open Go.RowKit Go.Proofs.YtffalemndjampaaW.PrintWords Go.Proofs.YtffalemndjampaaW.PrintLast
theorem infoI : (Try.prog.info? 3).map (fun i => (i.zero, i.size, i.bytes)) = some (some (.int .i64 0), 1, 8) := by kernel_rfl
theorem int_srcI {w : World} {A : Addr} {n c : Nat} {xs : List Int} (h : ReadsInt w .i64 (some A) n xs) : Src Try.prog 1 46 (.slice (some A) n c) n (nums .i64 xs) w := by
 have hl : (nums .i64 xs).length = n * 1 := by simp [nums, h.1]
 have h1 : ∀ u ∈ nums .i64 xs, u.oneCell' = true := fun u hu => by
  obtain ⟨x, _, rfl⟩ := List.mem_map.1 hu
  rfl
 refine Src.ofSlice w Try.underlying46 A n c _ hl (fun j u hu => ?_) h1
 simp only [nums, List.getElem?_map] at hu
 obtain ⟨x, hx, rfl⟩ := Option.map_eq_some_iff.1 hu
 have hj : j < xs.length := (List.getElem?_eq_some_iff.1 hx).1
 obtain ⟨ad', e, hc⟩ := h.at_ (j : Int) (by omega) (by have := h.1; omega)
 obtain rfl := Option.some.inj e
 rw [Int.toNat_natCast, rd_getD, List.getD_eq_getElem?_getD, hx] at hc
 exact hc
theorem appI {w : World} {A : Addr} {n d : Nat} {xs : List Int} (hr : ReadsInt w .i64 (some A) n xs) (h0 : 0 < n) (hl : n ≤ 1000) :
  ∃ c1 w1, (Builtin.append_ #[46, 46] 46 #[.slice none 0 0, .slice (some A) n d]).run Try.prog w = .ok (.slice (some ⟨w.heap.size, 0, none⟩) n c1) w1 ∧ Below w.heap.size w w1 ∧ w1.ownsRow w.heap.size 3 1 (.slice (some ⟨w.heap.size, 0, none⟩) n c1) n (nums .i64 xs) ∧ n ≤ c1 ∧ w1.heap.size = w.heap.size + 1 := by
 obtain ⟨i0, hi, hzz⟩ := Option.map_eq_some_iff.1 infoI
 simp only [Prod.mk.injEq] at hzz
 obtain ⟨hz0, hz1, hz2⟩ := hzz
 have hold : (Builtin.firstCells i0.size 0 (.slice none 0 0)).run Try.prog w.drew = .ok ([] : List Value).toArray w.drew := by rfl
 have h_ := growslice_fits (need := 0 + n) (old := 0) (bytes := 8) (by omega) (by omega)
 have hrun := run_append_grow_src (P := Try.prog) w 46 46 46 3 i0 (.int .i64 0) Try.underlying46 hi hz0 none 0 0 [] hold (.slice (some A) n d) n (nums .i64 xs) (by rw [hz1]; exact int_srcI hr) (by omega) (by omega) (by rw [hz2]; exact h_)
 rw [Nat.zero_add] at hrun
 have hge := grownCap_ge w n 0 3
 have hcm : grownCap w n 0 3 ≤ maxLen := grownCap_le_maxLen w n 0 3 (by simp only [maxLen]; omega)
 refine ⟨_, _, hrun, below_alloc (below_drew (Below.refl _ _)) _, ?_, hge, by simp⟩
 have hln : (nums .i64 xs).length = n := by simp [nums, hr.1]
 refine ⟨by simp [hln], .inr ⟨w.heap.size, _, _, rfl, Nat.le_refl _, heap_alloc_new w.drew _, hge, hcm, ?_, ?_⟩⟩
 ·simp only [Array.size_append, size_zeroCells, List.size_toArray, List.nil_append, hln]
  simp [Value.cells]
  omega
 ·rw [Array.toList_append, Nat.mul_one, List.nil_append]
  conv => lhs; rw [← hln]
  exact List.take_left
theorem appI_none (w : World) (ad : Addr) (c : Nat) : (Builtin.append_ #[46, 46] 46 #[.slice none 0 0, .slice (some ad) 0 c]).run Try.prog w = .ok (.slice none 0 0) w := by
 obtain ⟨i0, hi, hzz⟩ := Option.map_eq_some_iff.1 infoI
 simp only [Prod.mk.injEq] at hzz
 obtain ⟨hz0, hz1, hz2⟩ := hzz
 have hs : Src Try.prog 1 46 (.slice (some ad) 0 c) 0 [] w := by
  have h_ := int_srcI (w := w) (A := ad) (n := 0) (c := c) (xs := []) ⟨rfl, by decide, fun h => by omega⟩
  simpa [nums] using h_
 rcases hs.kind with ⟨e', hk⟩ | hk <;> simp [Builtin.append_, run_underlying Try.underlying46, run_underlying hk, sizeOf, typeInfo, hi, hs.len, hz1, hs.cells, storeCells]
theorem cutI (A : Addr) (n c : Nat) (h1 : 1 ≤ n) (hc : n ≤ c) : ∃ A7 : Addr, (∀ W : World, (Instr.slice 46 (.slice (some A) n c) (some (.int .i64 1)) none none).run Try.prog W = .ok (.slice (some A7) (n - 1) (c - 1)) W) ∧ ∀ (w : World) (xs : List Int), ReadsInt w .i64 (some A) n xs → ReadsInt w .i64 (some A7) (n - 1) (xs.drop 1) := by
 obtain ⟨i0, hi, hzz⟩ := Option.map_eq_some_iff.1 infoI
 simp only [Prod.mk.injEq] at hzz
 obtain ⟨hz0, hz1, hz2⟩ := hzz
 have e1 : (if c = 1 then some A else (some A).map (·.add 1)) = some (if c = 1 then A else A.add 1) := by split <;> rfl
 refine ⟨if c = 1 then A else A.add 1, fun W => ?_, fun w xs h => ?_⟩
 ·have hel : Try.prog.elem 46 = 3 := by simp [Program.elem, Try.underlying46]
  have hu : Try.prog.underlying 46 = some (.slice (Try.prog.elem 46)) := by rw [hel]; exact Try.underlying46
  rw [run_slice_l W 46 (some A) n c hu .i64 1 (by omega) (by omega), hel]
  simp [sizeOf, typeInfo, hi, hz1, sliced, Result.andThen]
  split <;> rfl
 ·have h_ := h.drop_ 1 h1 hc
  rw [e1] at h_
  exact h_
theorem own_lower {w : World} {b b' n : Nat} {e : TypeId} {size : Nat} {v : Value} {xs : List Value} (h : w.ownsRow b e size v n xs) (hb : b' ≤ b) : w.ownsRow b' e size v n xs := own_weaken h hb
theorem put5 {w : World} {g : Nat} {t : TypeId} {a0 a1 a2 a3 a4 : Value} (h : w.heap[g]? = some (.cells #[a0, a1, a2, a3, a4] t (0, 0))) (v0 v1 v2 v3 v4 : Value) : (((((w.setCell ⟨g, 0, none⟩ v0).setCell ⟨g, 1, none⟩ v1).setCell ⟨g, 2, none⟩ v2).setCell ⟨g, 3, none⟩ v3).setCell ⟨g, 4, none⟩ v4).heap[g]? = some (.cells #[v0, v1, v2, v3, v4] t (0, 0)) := by
 have h0 := blk_put h 0 v0 (cs' := #[v0, a1, a2, a3, a4]) (by simp)
 have h1 := blk_put h0 1 v1 (cs' := #[v0, v1, a2, a3, a4]) (by simp)
 have h2 := blk_put h1 2 v2 (cs' := #[v0, v1, v2, a3, a4]) (by simp)
 have h3 := blk_put h2 3 v3 (cs' := #[v0, v1, v2, v3, a4]) (by simp)
 exact blk_put h3 4 v4 (cs' := #[v0, v1, v2, v3, v4]) (by simp)
theorem bel5 {B : Nat} {w w5 : World} {g : Nat} (h : Below B w w5) (hg : B ≤ g) (v0 v1 v2 v3 v4 : Value) : Below B w (((((w5.setCell ⟨g, 0, none⟩ v0).setCell ⟨g, 1, none⟩ v1).setCell ⟨g, 2, none⟩ v2).setCell ⟨g, 3, none⟩ v3).setCell ⟨g, 4, none⟩ v4) :=
 ((((h.setCell (p := ⟨g, 0, none⟩) hg v0).setCell (p := ⟨g, 1, none⟩) hg v1).setCell (p := ⟨g, 2, none⟩) hg v2).setCell (p := ⟨g, 3, none⟩) hg v3).setCell (p := ⟨g, 4, none⟩) hg v4
theorem own5 {w : World} {B n c x g : Nat} {e : TypeId} {xs : List Value} (h : w.ownsRow B e 1 (.slice (some ⟨x, 0, none⟩) n c) n xs) (hx : x ≠ g) (v0 v1 v2 v3 v4 : Value) : (((((w.setCell ⟨g, 0, none⟩ v0).setCell ⟨g, 1, none⟩ v1).setCell ⟨g, 2, none⟩ v2).setCell ⟨g, 3, none⟩ v3).setCell ⟨g, 4, none⟩ v4).ownsRow B e 1 (.slice (some ⟨x, 0, none⟩) n c) n xs := by
 have hn : ∀ o, some ((⟨g, o, none⟩ : Addr).block) ≠ (Value.slice (some ⟨x, 0, none⟩) n c).ownBlock := fun o e => by
  simp [Value.ownBlock] at e; exact hx e.symm
 exact own_setCell (p := ⟨g, 4, none⟩) (own_setCell (p := ⟨g, 3, none⟩) (own_setCell (p := ⟨g, 2, none⟩) (own_setCell (p := ⟨g, 1, none⟩) (own_setCell (p := ⟨g, 0, none⟩) h (hn 0) v0) (hn 1) v1) (hn 2) v2) (hn 3) v3) (hn 4) v4
def TiR.T3 : Bool × List (List Nat × List Nat) := (true, [([], []), ([0], [0]), ([], []), ([2], [2]), ([3], [3]), ([], []), ([5], [5]), ([6], [6]), ([7, 4], [7]), ([], []), ([9], [9]), ([1, 4, 8, 10], [1, 4, 8, 10]), ([], []), ([12, 11, 8, 0, 1, 2, 3, 4, 5, 6, 7, 8, 9, 10, 11, 12], [11, 12])])
def TiR.B3 : List Nat := [0, 1, 0, 4, 12, 0, 32, 96, 252, 0, 512, 2047, 0, 8191]
theorem TiR.tab3 : rtab .any (opsOf Try.f41 3) = TiR.T3 := by kernel_rfl
theorem TiR.bits3 : waitsOk TiR.T3.2 TiR.B3 = true := by kernel_rfl
end Go.Proofs.Ytffalemndjampaa
end
