/- What the proof of TopSealed leans on: Tj. -/
import Derived.Test.YtffalemndjampaaQap
set_option linter.unusedVariables false
set_option linter.unusedSimpArgs false
namespace Go.Proofs.Ytffalemndjampaa
open Go.RowKit Go.Proofs.YtffalemndjampaaW.PrintWords Go.Proofs.YtffalemndjampaaW.PrintLast
structure Tb where
 seq : Int
 place : List Int
 spare : List Int
 t0 : Int
 t1 : Int
def tbC (PA : Addr) (pc : Nat) (SA : Option Addr) (sc : Nat) (T : Tb) : Array Value := #[.int .u32 T.seq, .slice (some PA) 11 pc, .slice SA T.spare.length sc, .int .i64 T.t0, .int .i64 T.t1]
def TbR (w : World) (N : Nat → Prop) (C : Array Value) (T : Tb) : Prop :=
 ∃ PA pc SA sc, C = tbC PA pc SA sc T ∧ 11 ≤ pc ∧ T.spare.length ≤ sc ∧ T.spare.length ≤ 3 ∧ ReadsInt w .i64 (some PA) 11 T.place ∧ ReadsInt w .i64 SA T.spare.length T.spare ∧ N PA.block ∧ (∀ x, SA = some x → 0 < T.spare.length → N x.block)
theorem TbR.below {w w' : World} {N : Nat → Prop} {C : Array Value} {T : Tb} (h : TbR w N C T) (hb : Below w.heap.size w w') : TbR w' N C T := by
 obtain ⟨PA, pc, SA, sc, h1, h2, h3, h4, h5, h6, h7⟩ := h
 exact ⟨PA, pc, SA, sc, h1, h2, h3, h4, h5.below hb, h6.below hb, h7⟩
theorem reads_pos {S : Nat → Prop} {w w' : World} {k : IntKind} {A : Option Addr} {n : Nat} {xs : List Int} (hr : ReadsInt w k A n xs) (h : Mods S w w') (hs : ∀ a, A = some a → 0 < n → ¬ S a.block) : ReadsInt w' k A n xs := by
 rcases Nat.eq_zero_or_pos n with h0 | h0
 ·exact ⟨hr.1, hr.2.1, fun h => by omega⟩
 ·exact h.reads hr (fun a ha => hs a ha h0)
theorem TbR.mods {S : Nat → Prop} {w w' : World} {N : Nat → Prop} {C : Array Value} {T : Tb} (h : TbR w N C T) (hm : Mods S w w') (hS : ∀ k, N k → ¬ S k) : TbR w' N C T := by
 obtain ⟨PA, pc, SA, sc, h1, h2, h3, h4, h5, h6, h7, h8⟩ := h
 exact ⟨PA, pc, SA, sc, h1, h2, h3, h4, hm.reads h5 (fun x hx => by obtain rfl := Option.some.inj hx; exact hS _ h7), reads_pos h6 hm (fun x hx hp => hS _ (h8 x hx hp)), h7, h8⟩
theorem TbR.mono {w : World} {N N' : Nat → Prop} {C : Array Value} {T : Tb} (h : TbR w N C T) (hN : ∀ k, N k → N' k) : TbR w N' C T := by
 obtain ⟨PA, pc, SA, sc, h1, h2, h3, h4, h5, h6, h7, h8⟩ := h
 exact ⟨PA, pc, SA, sc, h1, h2, h3, h4, h5, h6, hN _ h7, fun x hx hp => hN _ (h8 x hx hp)⟩
theorem TbR.mk_ {w : World} {N : Nat → Prop} {T : Tb} {PA : Addr} {pc : Nat} {SA : Option Addr} {sc : Nat} (n : Nat) (hn : T.spare.length = n) (h2 : 11 ≤ pc) (h3 : n ≤ sc) (h4 : n ≤ 3) (h5 : ReadsInt w .i64 (some PA) 11 T.place) (h6 : ReadsInt w .i64 SA n T.spare) (h7 : N PA.block) (h8 : ∀ x, SA = some x → N x.block) :
  TbR w N #[.int .u32 T.seq, .slice (some PA) 11 pc, .slice SA n sc, .int .i64 T.t0, .int .i64 T.t1] T := by
 subst hn
 exact ⟨PA, pc, SA, sc, rfl, h2, h3, h4, h5, h6, h7, fun x hx _ => h8 x hx⟩
def Tb.rest (T : Tb) : Tb := { T with spare := T.spare.drop 1 }
def Tb.takeV (T : Tb) (v : Nat) : Tb := { T.rest with place := T.place.set v (T.spare.getD 0 0) }
def Tb.take0 (T : Tb) : Tb := { T.rest with t0 := T.spare.getD 0 0 }
def Tb.take1 (T : Tb) : Tb := { T.rest with t1 := T.spare.getD 0 0 }
theorem al2_ (w : World) (c1 c2 : Array Value) (t1 t2 : TypeId) : ((w.alloc (.cells c1 t1)).alloc (.cells c2 t2)).heap[w.heap.size]? = some (.cells c1 t1 (0, 0)) ∧ ((w.alloc (.cells c1 t1)).alloc (.cells c2 t2)).heap[w.heap.size + 1]? = some (.cells c2 t2 (0, 0)) ∧ Below w.heap.size w ((w.alloc (.cells c1 t1)).alloc (.cells c2 t2)) := by
 have h2 := heap_alloc_new (w.alloc (.cells c1 t1)) (.cells c2 t2)
 simp only [World.size_alloc] at h2
 exact ⟨blk_alloc (heap_alloc_new w _) _, h2, bl_alloc (bl_alloc (Below.refl _ _) _) _⟩
def OwnP (w : World) (B : Nat) (C : Array Value) (T : Tb) : Prop := ∃ x y, C[1]? = some (.slice (some ⟨x, 0, none⟩) 11 y) ∧ w.ownsRow B 3 1 (.slice (some ⟨x, 0, none⟩) 11 y) 11 (nums .i64 T.place) ∧ ∀ a n c, C[2]? = some (.slice (some a) n c) → a.block ≠ x
theorem own_re {w : World} {B B0 x n y : Nat} {e : TypeId} {xs : List Value} (h : w.ownsRow B0 e 1 (.slice (some ⟨x, 0, none⟩) n y) n xs) (hx : B ≤ x) : w.ownsRow B e 1 (.slice (some ⟨x, 0, none⟩) n y) n xs := by
 obtain ⟨h1, h2⟩ := h
 rcases h2 with ⟨h3, _⟩ | ⟨g, cap, cur, e1, hg, r1⟩
 ·cases h3
 ·simp only [Value.slice.injEq, Option.some.injEq, Addr.mk.injEq] at e1
  obtain ⟨⟨rfl, -, -⟩, -, rfl⟩ := e1
  exact ⟨h1, .inr ⟨x, y, cur, rfl, hx, r1⟩⟩
theorem own_ne_none {x : Nat} : ∀ (a : Addr) (n c : Nat), some (Value.slice none 0 0) = some (.slice (some a) n c) → a.block ≠ x := fun a n c h => by simp at h
theorem own_ne_some {x y n m : Nat} (hn : x ≠ y) : ∀ (a : Addr) (n' c : Nat), some (Value.slice (some ⟨y, 0, none⟩) n m) = some (.slice (some a) n' c) → a.block ≠ x := fun a n' c h => by
 simp only [Option.some.injEq, Value.slice.injEq] at h
 rw [← h.1]; exact fun e => hn e.symm
def TakeQ (w : World) (C : Array Value) (T T' : Tb) (e : Ending) (w' : World) : Prop :=
 Below w.heap.size w w' ∧ ((T.spare = [] ∧ e = .returned (.tuple #[.agg C, .int .i64 0, .int .i64 70])) ∨ (T.spare ≠ [] ∧ ∃ C' was, e = .returned (.tuple #[.agg C', .int .i64 was, .int .i64 0]) ∧ TbR w' (fun k => w.heap.size ≤ k) C' T' ∧ OwnP w' w.heap.size C' T'))
set_option maxHeartbeats 16000000 in
set_option maxRecDepth 100000 in
theorem take_any (C : Array Value) (T : Tb) (N : Nat → Prop) (v : Int) (T' : Tb) (hv : (v = -1 ∧ T' = T.take0) ∨ (v = -2 ∧ T' = T.take1) ∨ ∃ kb : Nat, kb < 11 ∧ v = (kb : Int) ∧ T' = T.takeV kb) (w : World) (h : TbR w N C T) : Calls Try.prog 41 #[.agg C, .int .i64 v] w (TakeQ w C T T') := by
 obtain ⟨PA, pc, SA, sc, rfl, hpc, hsc, hn3, hrp, hrs, -, -⟩ := h
 obtain ⟨seq, pl, sp, t0, t1⟩ := T
 simp only [tbC] at *
 have kv1 : decide (v < -2) = false := decide_eq_false (by rcases hv with ⟨h, -⟩ | ⟨h, -⟩ | ⟨k, h1, h, -⟩ <;> omega)
 have kv2 : decide ((11 : Int) ≤ v) = false := decide_eq_false (by rcases hv with ⟨h, -⟩ | ⟨h, -⟩ | ⟨k, h1, h, -⟩ <;> omega)
 have HRP := Lib.hid hrp
 rcases sp with _ | ⟨s0, restA⟩
 ·clear hrp hrs
  go_enter Try.func41, Try.ntmps41
  go_wp2_with fail
  refine bodyPost_ret (v := .tuple #[.agg #[.int .u32 seq, .slice (some PA) 11 pc, .slice SA 0 sc, .int .i64 t0, .int .i64 t1], .int .i64 0, .int .i64 70]) (by simp [results, Try.results41, go_sem]) rfl ⟨?_, .inl ⟨rfl, rfl⟩⟩
  exact bl_alloc (bl_alloc (Below.refl _ _) _) _
 ·simp only [List.length_cons] at *
  obtain ⟨SA, rfl, hs00⟩ : ∃ SA', SA = some SA' ∧ w.cell? SA' = some (.int .i64 s0) := by
   obtain ⟨ad, e, hc⟩ := hrs.at_ 0 (by omega) (by omega)
   refine ⟨ad, e, ?_⟩
   rw [show (0 : Int).toNat = 0 from rfl, show ad.add 0 = ad from by simp [Addr.add]] at hc
   rw [hc]; rfl
  have HS0 : Hid (∀ W, Below w.heap.size w W → W.cell? SA = some (.int .i64 s0)) := Lib.hid (fun W hW => pw_cell_below hW hs00)
  obtain ⟨A7, k7, r7⟩ := cutI SA (restA.length + 1) sc (by omega) hsc
  rw [Nat.add_sub_cancel] at k7 r7
  have hr7 := r7 w _ hrs
  rw [List.drop_one, List.tail_cons] at hr7
  obtain ⟨c7, hc7⟩ : ∃ c7, sc - 1 = c7 := ⟨_, rfl⟩
  rw [hc7] at k7
  clear hrp hrs r7 hc7 hs00
  rcases restA with _ | ⟨r0, restT⟩
  ·simp only [List.length_nil, Nat.zero_add] at *
   have K7 := Lib.hid k7
   have HVv := Lib.hid hv
   clear k7 hr7 hv
   go_enter Try.func41, Try.ntmps41
   go_wp2_with fail
   have ha := al2_ w #[.int .u32 seq, .slice (some PA) 11 pc, .slice (some SA) 1 sc, .int .i64 t0, .int .i64 t1] #[.int .u32 0, .slice none 0 0, .slice none 0 0, .int .i64 0, .int .i64 0] 108 108
   obtain ⟨wi, hwi⟩ : ∃ wi, (w.alloc (.cells #[.int .u32 seq, .slice (some PA) 11 pc, .slice (some SA) 1 sc, .int .i64 t0, .int .i64 t1] 108)).alloc (.cells #[.int .u32 0, .slice none 0 0, .slice none 0 0, .int .i64 0, .int .i64 0] 108) = wi := ⟨_, rfl⟩
   rw [hwi] at ha ⊢
   obtain ⟨g2, hg2⟩ : ∃ g2, w.heap.size = g2 := ⟨_, rfl⟩
   obtain ⟨g4, hg4⟩ : ∃ g4, w.heap.size + 1 = g4 := ⟨_, rfl⟩
   rw [hg4] at ha
   rw [hg2] at ha
   try rw [hg4]
   try rw [hg2]
   have H2i := Lib.hid ha.1
   have H4i := Lib.hid ha.2.1
   have HBi := Lib.hid (show Below w.heap.size w wi by rw [hg2]; exact ha.2.2)
   have HG4 := Lib.hid (show w.heap.size ≤ g4 ∧ g2 ≠ g4 ∧ w.heap.size ≤ g2 by omega)
   have RPi := Lib.hid (HRP.out.below HBi.out)
   clear hwi ha hg2 hg4
   refine start_ (n := 14) (S := fun w' => True) (ds := []) _ (by kernel_rfl) rfl rfl trivial (fun hHeld => ?_)
   refine with_tabW TiR.tab3 TiR.bits3 (fun HT_ HW_ => ?_)
   have H2z := Lib.hid (show wi.drew.heap[g2]? = _ from H2i.out)
   have RPz := Lib.hid ((RPi.out).below (bl_drew (Below.refl _ _)))
   have DZ := Lib.hid (fun W (h_ : Below wi.drew.heap.size wi.drew W) => (⟨h_.os, h_.tape, h_.output, h_.size, h_.block⟩ : Below wi.heap.size wi W))
   have SZ := Lib.hid (show wi.heap.size = wi.drew.heap.size from rfl)
   have ZP := Lib.hid (show 0 < wi.drew.heap.size from Nat.lt_of_le_of_lt (Nat.zero_le _) (blk_lt H2i.out))
   generalize wi.drew = wz at H2z RPz DZ SZ ZP hHeld ⊢
   have BB := Lib.hid (Below.refl wz.heap.size wz)
   have L7 := Lib.hid ZP.out
   have L0 := Lib.hid ZP.out
   refine pur_ 0 (some 25) HT_.out rfl rfl (by kernel_rfl) (fun _ _ _ h => h) (by rfl) (fun w' => by go_simp; with_reducible rfl) (by simp only [Act.put, List.setIfInBounds_toArray, List.set_cons_zero, List.set_cons_succ, i64_w, i32_w]; rfl) ?_
   refine pur_ 2 (some 27) HT_.out rfl rfl (by kernel_rfl) (fun _ _ _ h => h) (by rfl) (fun w' => by go_simp; with_reducible rfl) (by simp only [Act.put, List.setIfInBounds_toArray, List.set_cons_zero, List.set_cons_succ, i64_w, i32_w]; rfl) ?_
   refine pur_ 5 (some 30) HT_.out rfl rfl (by kernel_rfl) (fun _ _ _ h => h) (by rfl) (fun w' => by go_simp; with_reducible rfl) (by simp only [Act.put, List.setIfInBounds_toArray, List.set_cons_zero, List.set_cons_succ, i64_w, i32_w]; rfl) ?_
   refine pur_ 9 (some 34) HT_.out rfl rfl (by kernel_rfl) (fun _ _ _ h => h) (by rfl) (fun w' => by go_simp; with_reducible rfl) (by simp only [Act.put, List.setIfInBounds_toArray, List.set_cons_zero, List.set_cons_succ, i64_w, i32_w]; rfl) ?_
   refine inv_at [1, 3, 4, 6, 7, 8, 10, 11, 12, 13] (fun a0_ b a w' => ∃ (x0 : Nat) (y0 : Nat) (g7 : Nat) (m4_ : Value) (m11_ : Value) (m12_ : Value), a = putSel a0_ b [(1, 26, .int .u32 seq), (3, 28, .slice (some PA) 11 pc), (4, 29, m4_), (6, 31, .slice (some SA) 1 sc), (7, 32, .slice (some A7) 0 c7), (8, 33, .slice none 0 0), (10, 35, .agg #[.int .i64 t0, .int .i64 t1]), (11, 36, m11_), (12, 7, m12_)] ∧ (Below wz.heap.size wz w') ∧ (g7 < w'.heap.size) ∧ (x0 < w'.heap.size) ∧ (b 4 = true → w'.ownsRow wz.heap.size 3 1 (.slice (some ⟨x0, 0, none⟩) 11 y0) 11 (nums .i64 pl)) ∧ (b 4 = true → 11 ≤ y0 ∧ wz.heap.size ≤ x0) ∧ (b 4 = true → b 12 = true → x0 ≠ g7) ∧ (b 12 = true → b 13 = false → w'.heap[g7]? = some (.cells #[.int .u32 0, .slice none 0 0, .slice none 0 0, .int .i64 0, .int .i64 0] 108 (0, 0))) ∧ (b 12 = true → wz.heap.size ≤ g7) ∧ (b 13 = true → w'.heap[g7]? = some (.cells #[.int .u32 seq, .slice (some ⟨x0, 0, none⟩) 11 y0, .slice none 0 0, .int .i64 t0, .int .i64 t1] 108 (0, 0))) ∧ (b 4 = true → (m4_ : Value) = .slice (some ⟨x0, 0, none⟩) 11 y0) ∧ (b 11 = true → (m11_ : Value) = .agg #[.int .u32 seq, .slice (some ⟨x0, 0, none⟩) 11 y0, .slice none 0 0, .int .i64 t0, .int .i64 t1]) ∧ (b 12 = true → (m12_ : Value) = .pointer (some ⟨g7, 0, none⟩))) HT_.out HW_.out (by kernel_rfl) (by kernel_rfl) ?_ ?_ ?_
   ·exact ⟨0, 0, 0, .bool false, .bool false, .bool false, by simp only [putSel, Bool.false_eq_true, if_false], BB.out, ZP.out, ZP.out, fun h_ => absurd h_ (by decide), fun h_ => absurd h_ (by decide), fun h_ => absurd h_ (by decide), fun h_ => absurd h_ (by decide), fun h_ => absurd h_ (by decide), fun h_ => absurd h_ (by decide), fun h_ => absurd h_ (by decide), fun h_ => absurd h_ (by decide), fun h_ => absurd h_ (by decide)⟩
   ·skip
    clear BB L0 L7
    refine steps_cons ?_ ?_
    ·rintro b a w' ⟨x0, y0, g7, m4_, m11_, m12_, ha, Q_BB, Q_L7, Q_L0, Q_OP, Q_OY, Q_NX, Q_HZ, Q_GE, Q_HV, Q_X4_, Q_X11_, Q_X12_⟩ hb_ hon hoff
     refine ⟨_, rfl, fun K hK => ?_⟩
     have e25 : a.tmps[25]? = some (.pointer (some ⟨g2, 0, none⟩)) := by rw [ha]; exact (putSel_off rfl).trans rfl
     replace ha := Aside0.mk ha
     have BB := Aside0.mk Q_BB
     have L7 := Aside0.mk Q_L7
     have L0 := Aside0.mk Q_L0
     have hc_ : w'.cell? ⟨g2, 0, none⟩ = some (.int .u32 seq) := (blk_cell (blk_below H2z.out BB.out) 0).trans rfl
     refine value_ (w1 := w') (v := .int .u32 seq) (by rfl) rfl ?_ ?_
     ·go_simp
      (try simp only [i64_w])
      try rfl
     refine hK.out _ _ ⟨x0, y0, g7, m4_, m11_, m12_, (ptup_ ha.out 0 hb_ rfl rfl rfl), Q_BB, Q_L7, Q_L0, Q_OP, Q_OY, Q_NX, Q_HZ, Q_GE, off_ (hoff 13 (by kernel_rfl)), Q_X4_, off_ (hoff 11 (by kernel_rfl)), Q_X12_⟩
    refine steps_cons ?_ ?_
    ·rintro b a w' ⟨x0, y0, g7, m4_, m11_, m12_, ha, Q_BB, Q_L7, Q_L0, Q_OP, Q_OY, Q_NX, Q_HZ, Q_GE, Q_HV, Q_X4_, Q_X11_, Q_X12_⟩ hb_ hon hoff
     refine ⟨_, rfl, fun K hK => ?_⟩
     have e27 : a.tmps[27]? = some (.pointer (some ⟨g2, 1, none⟩)) := by rw [ha]; exact (putSel_off rfl).trans rfl
     replace ha := Aside0.mk ha
     have BB := Aside0.mk Q_BB
     have L7 := Aside0.mk Q_L7
     have L0 := Aside0.mk Q_L0
     have hc_ : w'.cell? ⟨g2, 1, none⟩ = some (.slice (some PA) 11 pc) := (blk_cell (blk_below H2z.out BB.out) 1).trans rfl
     refine value_ (w1 := w') (v := .slice (some PA) 11 pc) (by rfl) rfl ?_ ?_
     ·go_simp
      (try simp only [i64_w])
      try rfl
     refine hK.out _ _ ⟨x0, y0, g7, m4_, m11_, m12_, (ptup_ ha.out 1 hb_ rfl rfl rfl), Q_BB, Q_L7, Q_L0, off_ (hoff 4 (by kernel_rfl)), off_ (hoff 4 (by kernel_rfl)), fun h0_ _ => off_ (hoff 4 (by kernel_rfl)) h0_, Q_HZ, Q_GE, off_ (hoff 13 (by kernel_rfl)), off_ (hoff 4 (by kernel_rfl)), off_ (hoff 11 (by kernel_rfl)), Q_X12_⟩
    refine steps_cons ?_ ?_
    ·rintro b a w' ⟨x0, y0, g7, m4_, m11_, m12_, ha, Q_BB, Q_L7, Q_L0, Q_OP, Q_OY, Q_NX, Q_HZ, Q_GE, Q_HV, Q_X4_, Q_X11_, Q_X12_⟩ hb_ hon hoff
     refine ⟨_, rfl, fun K hK => ?_⟩
     have e28 : a.tmps[28]? = some (.slice (some PA) 11 pc) := pton_ ha 1 rfl rfl (hon 3 (by kernel_rfl)) rfl
     replace ha := Aside0.mk ha
     have BB := Aside0.mk Q_BB
     have L7 := Aside0.mk Q_L7
     have L0 := Aside0.mk Q_L0
     obtain ⟨c43, w1, hr43, hb43, ho43, hc43, hz43⟩ := appI (d := pc) (RPz.out.below BB.out) (by decide) (by decide)
     have hx43 : wz.heap.size ≤ w'.heap.size := BB.out.size
     refine app_ (by rfl) rfl rfl rfl (by rfl) (eval_of e28) hr43 ?_
     refine hK.out _ _ ⟨w'.heap.size, c43, g7, (.slice (some ⟨w'.heap.size, 0, none⟩) 11 c43), m11_, m12_, (ptup_ ha.out 2 hb_ rfl rfl rfl), bl_seq BB.out hb43, Nat.lt_of_lt_of_le L7.out hb43.size, (by rw [hz43]; exact Nat.lt_succ_self _), fun _ => own_lower ho43 hx43, fun _ => ⟨hc43, hx43⟩, fun _ _ => Nat.ne_of_gt L7.out, fun h0_ h1_ => blk_below (Q_HZ h0_ h1_) hb43, fun h0_ => (Q_GE h0_), off_ (hoff 13 (by kernel_rfl)), fun _ => rfl, off_ (hoff 11 (by kernel_rfl)), Q_X12_⟩
    refine steps_cons ?_ ?_
    ·rintro b a w' ⟨x0, y0, g7, m4_, m11_, m12_, ha, Q_BB, Q_L7, Q_L0, Q_OP, Q_OY, Q_NX, Q_HZ, Q_GE, Q_HV, Q_X4_, Q_X11_, Q_X12_⟩ hb_ hon hoff
     refine ⟨_, rfl, fun K hK => ?_⟩
     have e30 : a.tmps[30]? = some (.pointer (some ⟨g2, 2, none⟩)) := by rw [ha]; exact (putSel_off rfl).trans rfl
     replace ha := Aside0.mk ha
     have BB := Aside0.mk Q_BB
     have L7 := Aside0.mk Q_L7
     have L0 := Aside0.mk Q_L0
     have hc_ : w'.cell? ⟨g2, 2, none⟩ = some (.slice (some SA) 1 sc) := (blk_cell (blk_below H2z.out BB.out) 2).trans rfl
     refine value_ (w1 := w') (v := .slice (some SA) 1 sc) (by rfl) rfl ?_ ?_
     ·go_simp
      (try simp only [i64_w])
      try rfl
     refine hK.out _ _ ⟨x0, y0, g7, m4_, m11_, m12_, (ptup_ ha.out 3 hb_ rfl rfl rfl), Q_BB, Q_L7, Q_L0, Q_OP, Q_OY, Q_NX, Q_HZ, Q_GE, off_ (hoff 13 (by kernel_rfl)), Q_X4_, off_ (hoff 11 (by kernel_rfl)), Q_X12_⟩
    refine steps_cons ?_ ?_
    ·rintro b a w' ⟨x0, y0, g7, m4_, m11_, m12_, ha, Q_BB, Q_L7, Q_L0, Q_OP, Q_OY, Q_NX, Q_HZ, Q_GE, Q_HV, Q_X4_, Q_X11_, Q_X12_⟩ hb_ hon hoff
     refine ⟨_, rfl, fun K hK => ?_⟩
     have e31 : a.tmps[31]? = some (.slice (some SA) 1 sc) := pton_ ha 3 rfl rfl (hon 6 (by kernel_rfl)) rfl
     replace ha := Aside0.mk ha
     have BB := Aside0.mk Q_BB
     have L7 := Aside0.mk Q_L7
     have L0 := Aside0.mk Q_L0
     have hk_ := K7.out
     refine value_ (w1 := w') (v := .slice (some A7) 0 c7) (by rfl) rfl ?_ ?_
     ·go_simp
      (try simp only [i64_w])
      try rfl
     refine hK.out _ _ ⟨x0, y0, g7, m4_, m11_, m12_, (ptup_ ha.out 4 hb_ rfl rfl rfl), Q_BB, Q_L7, Q_L0, Q_OP, Q_OY, Q_NX, Q_HZ, Q_GE, off_ (hoff 13 (by kernel_rfl)), Q_X4_, off_ (hoff 11 (by kernel_rfl)), Q_X12_⟩
    refine steps_cons ?_ ?_
    ·rintro b a w' ⟨x0, y0, g7, m4_, m11_, m12_, ha, Q_BB, Q_L7, Q_L0, Q_OP, Q_OY, Q_NX, Q_HZ, Q_GE, Q_HV, Q_X4_, Q_X11_, Q_X12_⟩ hb_ hon hoff
     refine ⟨_, rfl, fun K hK => ?_⟩
     have e32 : a.tmps[32]? = some (.slice (some A7) 0 c7) := pton_ ha 4 rfl rfl (hon 7 (by kernel_rfl)) rfl
     replace ha := Aside0.mk ha
     have BB := Aside0.mk Q_BB
     have L7 := Aside0.mk Q_L7
     have L0 := Aside0.mk Q_L0
     have OP := Aside0.mk (Q_OP (hon 4 (by kernel_rfl)))
     have OY := Aside0.mk (Q_OY (hon 4 (by kernel_rfl)))
     refine app_ (by rfl) rfl rfl rfl (by rfl) (eval_of e32) (appI_none w' A7 c7) ?_
     refine hK.out _ _ ⟨x0, y0, g7, m4_, m11_, m12_, (ptup_ ha.out 5 hb_ rfl rfl rfl), BB.out, L7.out, L0.out, fun _ => OP.out, fun _ => OY.out, fun h0_ h1_ => (Q_NX h0_ h1_), fun h0_ h1_ => (Q_HZ h0_ h1_), fun h0_ => (Q_GE h0_), off_ (hoff 13 (by kernel_rfl)), Q_X4_, off_ (hoff 11 (by kernel_rfl)), Q_X12_⟩
    refine steps_cons ?_ ?_
    ·rintro b a w' ⟨x0, y0, g7, m4_, m11_, m12_, ha, Q_BB, Q_L7, Q_L0, Q_OP, Q_OY, Q_NX, Q_HZ, Q_GE, Q_HV, Q_X4_, Q_X11_, Q_X12_⟩ hb_ hon hoff
     refine ⟨_, rfl, fun K hK => ?_⟩
     have e34 : a.tmps[34]? = some (.pointer (some ⟨g2, 3, none⟩)) := by rw [ha]; exact (putSel_off rfl).trans rfl
     replace ha := Aside0.mk ha
     have BB := Aside0.mk Q_BB
     have L7 := Aside0.mk Q_L7
     have L0 := Aside0.mk Q_L0
     have hc3_ : w'.cell? ⟨g2, 3, none⟩ = some (.int .i64 t0) := (blk_cell (blk_below H2z.out BB.out) 3).trans rfl
     have hc4_ : w'.cell? ⟨g2, 4, none⟩ = some (.int .i64 t1) := (blk_cell (blk_below H2z.out BB.out) 4).trans rfl
     refine value_ (w1 := w') (v := .agg #[.int .i64 t0, .int .i64 t1]) (by rfl) rfl ?_ ?_
     ·go_simp
      (try simp only [i64_w])
      try rfl
     refine hK.out _ _ ⟨x0, y0, g7, m4_, m11_, m12_, (ptup_ ha.out 6 hb_ rfl rfl rfl), Q_BB, Q_L7, Q_L0, Q_OP, Q_OY, Q_NX, Q_HZ, Q_GE, off_ (hoff 13 (by kernel_rfl)), Q_X4_, off_ (hoff 11 (by kernel_rfl)), Q_X12_⟩
    refine steps_cons ?_ ?_
    ·rintro b a w' ⟨x0, y0, g7, m4_, m11_, m12_, ha, Q_BB, Q_L7, Q_L0, Q_OP, Q_OY, Q_NX, Q_HZ, Q_GE, Q_HV, Q_X4_, Q_X11_, Q_X12_⟩ hb_ hon hoff
     refine ⟨_, rfl, fun K hK => ?_⟩
     have e26 : a.tmps[26]? = some (.int .u32 seq) := pton_ ha 0 rfl rfl (hon 1 (by kernel_rfl)) rfl
     have e29 : a.tmps[29]? = some (m4_) := pton_ ha 2 rfl rfl (hon 4 (by kernel_rfl)) rfl
     rw [Q_X4_ (hon 4 (by kernel_rfl))] at e29
     have e33 : a.tmps[33]? = some (.slice none 0 0) := pton_ ha 5 rfl rfl (hon 8 (by kernel_rfl)) rfl
     have e35 : a.tmps[35]? = some (.agg #[.int .i64 t0, .int .i64 t1]) := pton_ ha 6 rfl rfl (hon 10 (by kernel_rfl)) rfl
     replace ha := Aside0.mk ha
     have BB := Aside0.mk Q_BB
     have L7 := Aside0.mk Q_L7
     have L0 := Aside0.mk Q_L0
     have OP := Aside0.mk (Q_OP (hon 4 (by kernel_rfl)))
     have OY := Aside0.mk (Q_OY (hon 4 (by kernel_rfl)))
     refine value_ (w1 := w') (v := .agg #[.int .u32 seq, .slice (some ⟨x0, 0, none⟩) 11 y0, .slice none 0 0, .int .i64 t0, .int .i64 t1]) (by rfl) rfl ?_ ?_
     ·go_simp
      (try simp only [i64_w])
      try rfl
     refine hK.out _ _ ⟨x0, y0, g7, m4_, (.agg #[.int .u32 seq, .slice (some ⟨x0, 0, none⟩) 11 y0, .slice none 0 0, .int .i64 t0, .int .i64 t1]), m12_, (ptup_ ha.out 7 hb_ rfl rfl rfl), Q_BB, Q_L7, Q_L0, Q_OP, Q_OY, Q_NX, Q_HZ, Q_GE, off_ (hoff 13 (by kernel_rfl)), Q_X4_, fun _ => rfl, Q_X12_⟩
    refine steps_cons ?_ ?_
    ·rintro b a w' ⟨x0, y0, g7, m4_, m11_, m12_, ha, Q_BB, Q_L7, Q_L0, Q_OP, Q_OY, Q_NX, Q_HZ, Q_GE, Q_HV, Q_X4_, Q_X11_, Q_X12_⟩ hb_ hon hoff
     refine ⟨_, rfl, fun K hK => ?_⟩
     replace ha := Aside0.mk ha
     have BB := Aside0.mk Q_BB
     have L7 := Aside0.mk Q_L7
     have L0 := Aside0.mk Q_L0
     refine value_ (w1 := w'.alloc (.cells #[.int .u32 0, .slice none 0 0, .slice none 0 0, .int .i64 0, .int .i64 0] 108)) (v := .pointer (some ⟨w'.heap.size, 0, none⟩)) (by rfl) rfl ?_ ?_
     ·go_simp
      try rfl
     refine hK.out _ _ ⟨x0, y0, w'.heap.size, m4_, m11_, (.pointer (some ⟨w'.heap.size, 0, none⟩)), (ptup_ ha.out 8 hb_ rfl rfl rfl), bl_seq BB.out (bl_alloc (Below.refl w'.heap.size w') (.cells #[.int .u32 0, .slice none 0 0, .slice none 0 0, .int .i64 0, .int .i64 0] 108)), (by simp), Nat.lt_of_lt_of_le L0.out (bl_alloc (Below.refl w'.heap.size w') (.cells #[.int .u32 0, .slice none 0 0, .slice none 0 0, .int .i64 0, .int .i64 0] 108)).size, fun h0_ => pw_own_below (Q_OP h0_) (bl_alloc (Below.refl w'.heap.size w') (.cells #[.int .u32 0, .slice none 0 0, .slice none 0 0, .int .i64 0, .int .i64 0] 108)), fun h0_ => (Q_OY h0_), fun _ _ => Nat.ne_of_lt L0.out, fun _ _ => heap_alloc_new w' _, fun _ => BB.out.size, off_ (hoff 13 (by kernel_rfl)), Q_X4_, Q_X11_, fun _ => rfl⟩
    refine steps_cons ?_ ?_
    ·rintro b a w' ⟨x0, y0, g7, m4_, m11_, m12_, ha, Q_BB, Q_L7, Q_L0, Q_OP, Q_OY, Q_NX, Q_HZ, Q_GE, Q_HV, Q_X4_, Q_X11_, Q_X12_⟩ hb_ hon hoff
     refine ⟨_, rfl, fun K hK => ?_⟩
     have e7 : a.tmps[7]? = some (m12_) := pton_ ha 8 rfl rfl (hon 12 (by kernel_rfl)) rfl
     rw [Q_X12_ (hon 12 (by kernel_rfl))] at e7
     have e36 : a.tmps[36]? = some (m11_) := pton_ ha 7 rfl rfl (hon 11 (by kernel_rfl)) rfl
     rw [Q_X11_ (hon 11 (by kernel_rfl))] at e36
     replace ha := Aside0.mk ha
     have BB := Aside0.mk Q_BB
     have L7 := Aside0.mk Q_L7
     have L0 := Aside0.mk Q_L0
     have OP := Aside0.mk (Q_OP (hon 4 (by kernel_rfl)))
     have OY := Aside0.mk (Q_OY (hon 4 (by kernel_rfl)))
     have NX := Aside0.mk (Q_NX (hon 4 (by kernel_rfl)) (hon 12 (by kernel_rfl)))
     have HZ := Aside0.mk (Q_HZ (hon 12 (by kernel_rfl)) hb_)
     have GE := Aside0.mk (Q_GE (hon 12 (by kernel_rfl)))
     have zc0_ : w'.cell? ⟨g7, 0, none⟩ = some (.int .u32 0) := (blk_cell HZ.out 0).trans rfl
     have zc1_ : w'.cell? ⟨g7, 1, none⟩ = some (.slice none 0 0) := (blk_cell HZ.out 1).trans rfl
     have zc2_ : w'.cell? ⟨g7, 2, none⟩ = some (.slice none 0 0) := (blk_cell HZ.out 2).trans rfl
     have zc3_ : w'.cell? ⟨g7, 3, none⟩ = some (.int .i64 0) := (blk_cell HZ.out 3).trans rfl
     have zc4_ : w'.cell? ⟨g7, 4, none⟩ = some (.int .i64 0) := (blk_cell HZ.out 4).trans rfl
     have zf0_ := blk_frozen HZ.out 0
     have zf1_ := blk_frozen HZ.out 1
     have zf2_ := blk_frozen HZ.out 2
     have zf3_ := blk_frozen HZ.out 3
     have zf4_ := blk_frozen HZ.out 4
     refine skip_ (w1 := ((((w'.setCell ⟨g7, 0, none⟩ (.int .u32 seq)).setCell ⟨g7, 1, none⟩ (.slice (some ⟨x0, 0, none⟩) 11 y0)).setCell ⟨g7, 2, none⟩ (.slice none 0 0)).setCell ⟨g7, 3, none⟩ (.int .i64 t0)).setCell ⟨g7, 4, none⟩ (.int .i64 t1)) (by rfl) rfl ?_ ?_
     ·go_simp
      try simp only [zc0_, zf0_, zc1_, zf1_, zc2_, zf2_, zc3_, zf3_, zc4_, zf4_]
      try rfl
     refine hK.out _ _ ⟨x0, y0, g7, m4_, m11_, m12_, (by rw [ha.out]; exact putSel_none (v := undef) rfl), bel5 BB.out GE.out _ _ _ _ _, (by simpa [World.setCell] using L7.out), (by simpa [World.setCell] using L0.out), fun _ => own5 OP.out NX.out _ _ _ _ _, fun _ => OY.out, fun _ _ => NX.out, fun _ h1_ => absurd ((up_self b 13).symm.trans h1_) (by decide), fun _ => GE.out, fun _ => put5 HZ.out _ _ _ _ _, Q_X4_, Q_X11_, Q_X12_⟩
    exact steps_nil
   ·rintro b a w' hall ⟨x0, y0, g7, m4_, m11_, m12_, ha, Q_BB, Q_L7, Q_L0, Q_OP, Q_OY, Q_NX, Q_HZ, Q_GE, Q_HV, Q_X4_, Q_X11_, Q_X12_⟩
    clear BB L0 L7
    have hb1_ := hall 1 (by kernel_rfl)
    have hb3_ := hall 3 (by kernel_rfl)
    have hb4_ := hall 4 (by kernel_rfl)
    have hb6_ := hall 6 (by kernel_rfl)
    have hb7_ := hall 7 (by kernel_rfl)
    have hb8_ := hall 8 (by kernel_rfl)
    have hb10_ := hall 10 (by kernel_rfl)
    have hb11_ := hall 11 (by kernel_rfl)
    have hb12_ := hall 12 (by kernel_rfl)
    have hb13_ := hall 13 (by kernel_rfl)
    subst ha
    obtain rfl := Q_X4_ hb4_
    obtain rfl := Q_X11_ hb11_
    obtain rfl := Q_X12_ hb12_
    simp only [putSel, hb1_, hb3_, hb4_, hb6_, hb7_, hb8_, hb10_, hb11_, hb12_, hb13_, if_true, Act.put, List.setIfInBounds_toArray, List.set_cons_zero, List.set_cons_succ]
    have BB := Aside0.mk Q_BB
    clear Q_BB
    have L7 := Aside0.mk Q_L7
    clear Q_L7
    have L0 := Aside0.mk Q_L0
    clear Q_L0
    have OP := Aside0.mk (Q_OP hb4_)
    clear Q_OP
    have OY := Aside0.mk (Q_OY hb4_)
    clear Q_OY
    have NX := Aside0.mk (Q_NX hb4_ hb12_)
    clear Q_NX
    clear Q_HZ
    have GE := Aside0.mk (Q_GE hb12_)
    clear Q_GE
    have HV := Aside0.mk (Q_HV hb13_)
    clear Q_HV
    clear hall hb1_ hb3_ hb4_ hb6_ hb7_ hb8_ hb10_ hb11_ hb12_ hb13_
    have HV0 := Lib.hid HV.out
    have OP0 := Lib.hid (own_lower OP.out (SZ.out ▸ HBi.out.size))
    have BB0 := Lib.hid (bl_seq HBi.out (DZ.out _ BB.out))
    have H20 := Lib.hid (blk_below H2i.out (DZ.out _ BB.out))
    have H40 := Lib.hid (blk_below H4i.out (DZ.out _ BB.out))
    have hl4 := blk_lt H4i.out
    have hl2 := blk_lt H2i.out
    have hge := GE.out
    have hsz := SZ.out
    have hbs := HBi.out.size
    have NE0 := Lib.hid (show x0 ≠ g7 ∧ g7 ≠ g4 ∧ g7 ≠ g2 ∧ x0 ≠ g4 ∧ x0 ≠ g2 ∧ w.heap.size ≤ g7 ∧ w.heap.size ≤ x0 from ⟨NX.out, by omega, by omega, by have := OY.out.2; omega, by have := OY.out.2; omega, by omega, by have := OY.out.2; omega⟩)
    have YY8 := Lib.hid (And.intro OY.out.1 trivial)
    have XX8 := Lib.hid (And.intro NE0.out.2.2.2.2.2.2 trivial)
    clear BB HV OP OY GE NX L7 L0 DZ SZ ZP hge hsz hbs hl4 hl2 H2z RPz 
    have s1 := HS0.out w' BB0.out
    have k1 : w'.cell? ⟨g7, 1, none⟩ = some (.slice (some ⟨x0, 0, none⟩) 11 y0) := (blk_cell HV0.out 1).trans rfl
    have kf1 := blk_frozen HV0.out 1
    have k3 : w'.cell? ⟨g7, 3, none⟩ = some (.int .i64 t0) := (blk_cell HV0.out 3).trans rfl
    have kf3 := blk_frozen HV0.out 3
    have k4 : w'.cell? ⟨g7, 4, none⟩ = some (.int .i64 t1) := (blk_cell HV0.out 4).trans rfl
    have kf4 := blk_frozen HV0.out 4
    have t2c : w'.cell? ⟨g2, 2, none⟩ = some (.slice (some SA) 1 sc) := (blk_cell H20.out 2).trans rfl
    rcases HVv.out with ⟨rfl, rfl⟩ | ⟨rfl, rfl⟩ | ⟨kb, hb, rfl, rfl⟩
    ·go_wp2_with fail
     go_region
     have hm8 : Below w.heap.size w (w'.setCell ⟨g7, 3, none⟩ (.int .i64 s0)) := bl_set BB0.out (p := ⟨g7, 3, none⟩) NE0.out.2.2.2.2.2.1 _
     have hv8 := blk_put HV0.out 3 (.int .i64 s0) (cs' := #[.int .u32 seq, .slice (some ⟨x0, 0, none⟩) 11 y0, .slice none 0 0, .int .i64 s0, .int .i64 t1]) (by simp)
     have h48 := blk_far H40.out (p := ⟨g7, 3, none⟩) (Ne.symm NE0.out.2.1) (.int .i64 s0)
     have ho8 := own_setCell (p := ⟨g7, 3, none⟩) OP0.out (by simp [Value.ownBlock]; exact Ne.symm NE0.out.1) (.int .i64 s0)
     obtain ⟨w8, hw8⟩ : ∃ w8, (w'.setCell ⟨g7, 3, none⟩ (.int .i64 s0)).drew = w8 := ⟨_, rfl⟩
     have HB8 := Lib.hid (show Below w.heap.size w w8 by rw [← hw8]; exact bl_drew hm8)
     have HV8 := Lib.hid (show w8.heap[g7]? = some (.cells #[.int .u32 seq, .slice (some ⟨x0, 0, none⟩) 11 y0, .slice none 0 0, .int .i64 s0, .int .i64 t1] 108 (0, 0)) by rw [← hw8]; exact hv8)
     have H48 := Lib.hid (show w8.heap[g4]? = some (.cells #[.int .u32 0, .slice none 0 0, .slice none 0 0, .int .i64 0, .int .i64 0] 108 (0, 0)) by rw [← hw8]; exact h48)
     have OP8 := Lib.hid (show w8.ownsRow w.heap.size 3 1 (.slice (some ⟨x0, 0, none⟩) 11 y0) 11 (nums .i64 pl) by rw [← hw8]; exact ho8)
     have NE8 := Lib.hid (And.intro NE0.out.2.2.2.1 trivial)
     try rw [hw8]
     clear hw8 hm8 hv8 h48 ho8 k1 k3 k4 kf1 kf3 kf4 t2c s1
     have k0 : w8.cell? ⟨g7, 0, none⟩ = some (.int .u32 seq) := (blk_cell HV8.out 0).trans rfl
     have k1 : w8.cell? ⟨g7, 1, none⟩ = some (.slice (some ⟨x0, 0, none⟩) 11 y0) := (blk_cell HV8.out 1).trans rfl
     have k2 : w8.cell? ⟨g7, 2, none⟩ = some (.slice none 0 0) := (blk_cell HV8.out 2).trans rfl
     have k3 : w8.cell? ⟨g7, 3, none⟩ = some (.int .i64 s0) := (blk_cell HV8.out 3).trans rfl
     have k4 : w8.cell? ⟨g7, 4, none⟩ = some (.int .i64 t1) := (blk_cell HV8.out 4).trans rfl
     have z0 : w8.cell? ⟨g4, 0, none⟩ = some (.int .u32 0) := (blk_cell H48.out 0).trans rfl
     have f0 := blk_frozen H48.out 0
     have z1 : w8.cell? ⟨g4, 1, none⟩ = some (.slice none 0 0) := (blk_cell H48.out 1).trans rfl
     have f1 := blk_frozen H48.out 1
     have z2 : w8.cell? ⟨g4, 2, none⟩ = some (.slice none 0 0) := (blk_cell H48.out 2).trans rfl
     have f2 := blk_frozen H48.out 2
     have z3 : w8.cell? ⟨g4, 3, none⟩ = some (.int .i64 0) := (blk_cell H48.out 3).trans rfl
     have f3 := blk_frozen H48.out 3
     have z4 : w8.cell? ⟨g4, 4, none⟩ = some (.int .i64 0) := (blk_cell H48.out 4).trans rfl
     have f4 := blk_frozen H48.out 4
     go_wp2_with fail
     have hz9 := put5 H48.out (.int .u32 seq) (.slice (some ⟨x0, 0, none⟩) 11 y0) (.slice none 0 0) (.int .i64 s0) (.int .i64 t1)
     have hb9 := bel5 HB8.out HG4.out.1 (.int .u32 seq) (.slice (some ⟨x0, 0, none⟩) 11 y0) (.slice none 0 0) (.int .i64 s0) (.int .i64 t1)
     have ho9 := own5 OP8.out NE8.out.1 (.int .u32 seq) (.slice (some ⟨x0, 0, none⟩) 11 y0) (.slice none 0 0) (.int .i64 s0) (.int .i64 t1)
     obtain ⟨w9, hw9⟩ : ∃ w9, (((((w8.setCell ⟨g4, 0, none⟩ (.int .u32 seq)).setCell ⟨g4, 1, none⟩ (.slice (some ⟨x0, 0, none⟩) 11 y0)).setCell ⟨g4, 2, none⟩ (.slice none 0 0)).setCell ⟨g4, 3, none⟩ (.int .i64 s0)).setCell ⟨g4, 4, none⟩ (.int .i64 t1)) = w9 := ⟨_, rfl⟩
     rw [hw9] at hz9 hb9 ho9 ⊢
     have c0 : w9.cell? ⟨g4, 0, none⟩ = some (.int .u32 seq) := (blk_cell hz9 0).trans rfl
     have c1 : w9.cell? ⟨g4, 1, none⟩ = some (.slice (some ⟨x0, 0, none⟩) 11 y0) := (blk_cell hz9 1).trans rfl
     have c2 : w9.cell? ⟨g4, 2, none⟩ = some (.slice none 0 0) := (blk_cell hz9 2).trans rfl
     have c3 : w9.cell? ⟨g4, 3, none⟩ = some (.int .i64 s0) := (blk_cell hz9 3).trans rfl
     have c4 : w9.cell? ⟨g4, 4, none⟩ = some (.int .i64 t1) := (blk_cell hz9 4).trans rfl
     have HT9 : Hid (TbR w9 (fun k => w.heap.size ≤ k) #[.int .u32 seq, .slice (some ⟨x0, 0, none⟩) 11 y0, .slice none 0 0, .int .i64 s0, .int .i64 t1] (Tb.take0 ⟨seq, pl, s0 :: [], t0, t1⟩)) := Lib.hid (TbR.mk_ (T := Tb.take0 ⟨seq, pl, s0 :: [], t0, t1⟩) 0 rfl YY8.out.1 (Nat.le_refl 0) (Nat.zero_le 3) (own_reads' ho9) ⟨rfl, Nat.zero_le _, fun h_ => absurd h_ (Nat.lt_irrefl 0)⟩ XX8.out.1 (fun x hx => by cases hx))
     refine bodyPost_ret (v := .tuple #[.agg #[.int .u32 seq, .slice (some ⟨x0, 0, none⟩) 11 y0, .slice none 0 0, .int .i64 s0, .int .i64 t1], .int .i64 t0, .int .i64 0]) (by simp [results, Try.results41, go_sem, c0, c1, c2, c3, c4]) rfl ⟨hb9, .inr ⟨by simp, _, _, rfl, HT9.out, x0, y0, rfl, own_re ho9 XX8.out.1, own_ne_none⟩⟩
    ·go_wp2_with fail
     go_region
     have hm8 : Below w.heap.size w (w'.setCell ⟨g7, 4, none⟩ (.int .i64 s0)) := bl_set BB0.out (p := ⟨g7, 4, none⟩) NE0.out.2.2.2.2.2.1 _
     have hv8 := blk_put HV0.out 4 (.int .i64 s0) (cs' := #[.int .u32 seq, .slice (some ⟨x0, 0, none⟩) 11 y0, .slice none 0 0, .int .i64 t0, .int .i64 s0]) (by simp)
     have h48 := blk_far H40.out (p := ⟨g7, 4, none⟩) (Ne.symm NE0.out.2.1) (.int .i64 s0)
     have ho8 := own_setCell (p := ⟨g7, 4, none⟩) OP0.out (by simp [Value.ownBlock]; exact Ne.symm NE0.out.1) (.int .i64 s0)
     obtain ⟨w8, hw8⟩ : ∃ w8, (w'.setCell ⟨g7, 4, none⟩ (.int .i64 s0)).drew = w8 := ⟨_, rfl⟩
     have HB8 := Lib.hid (show Below w.heap.size w w8 by rw [← hw8]; exact bl_drew hm8)
     have HV8 := Lib.hid (show w8.heap[g7]? = some (.cells #[.int .u32 seq, .slice (some ⟨x0, 0, none⟩) 11 y0, .slice none 0 0, .int .i64 t0, .int .i64 s0] 108 (0, 0)) by rw [← hw8]; exact hv8)
     have H48 := Lib.hid (show w8.heap[g4]? = some (.cells #[.int .u32 0, .slice none 0 0, .slice none 0 0, .int .i64 0, .int .i64 0] 108 (0, 0)) by rw [← hw8]; exact h48)
     have OP8 := Lib.hid (show w8.ownsRow w.heap.size 3 1 (.slice (some ⟨x0, 0, none⟩) 11 y0) 11 (nums .i64 pl) by rw [← hw8]; exact ho8)
     have NE8 := Lib.hid (And.intro NE0.out.2.2.2.1 trivial)
     try rw [hw8]
     clear hw8 hm8 hv8 h48 ho8 k1 k3 k4 kf1 kf3 kf4 t2c s1
     have k0 : w8.cell? ⟨g7, 0, none⟩ = some (.int .u32 seq) := (blk_cell HV8.out 0).trans rfl
     have k1 : w8.cell? ⟨g7, 1, none⟩ = some (.slice (some ⟨x0, 0, none⟩) 11 y0) := (blk_cell HV8.out 1).trans rfl
     have k2 : w8.cell? ⟨g7, 2, none⟩ = some (.slice none 0 0) := (blk_cell HV8.out 2).trans rfl
     have k3 : w8.cell? ⟨g7, 3, none⟩ = some (.int .i64 t0) := (blk_cell HV8.out 3).trans rfl
     have k4 : w8.cell? ⟨g7, 4, none⟩ = some (.int .i64 s0) := (blk_cell HV8.out 4).trans rfl
     have z0 : w8.cell? ⟨g4, 0, none⟩ = some (.int .u32 0) := (blk_cell H48.out 0).trans rfl
     have f0 := blk_frozen H48.out 0
     have z1 : w8.cell? ⟨g4, 1, none⟩ = some (.slice none 0 0) := (blk_cell H48.out 1).trans rfl
     have f1 := blk_frozen H48.out 1
     have z2 : w8.cell? ⟨g4, 2, none⟩ = some (.slice none 0 0) := (blk_cell H48.out 2).trans rfl
     have f2 := blk_frozen H48.out 2
     have z3 : w8.cell? ⟨g4, 3, none⟩ = some (.int .i64 0) := (blk_cell H48.out 3).trans rfl
     have f3 := blk_frozen H48.out 3
     have z4 : w8.cell? ⟨g4, 4, none⟩ = some (.int .i64 0) := (blk_cell H48.out 4).trans rfl
     have f4 := blk_frozen H48.out 4
     go_wp2_with fail
     have hz9 := put5 H48.out (.int .u32 seq) (.slice (some ⟨x0, 0, none⟩) 11 y0) (.slice none 0 0) (.int .i64 t0) (.int .i64 s0)
     have hb9 := bel5 HB8.out HG4.out.1 (.int .u32 seq) (.slice (some ⟨x0, 0, none⟩) 11 y0) (.slice none 0 0) (.int .i64 t0) (.int .i64 s0)
     have ho9 := own5 OP8.out NE8.out.1 (.int .u32 seq) (.slice (some ⟨x0, 0, none⟩) 11 y0) (.slice none 0 0) (.int .i64 t0) (.int .i64 s0)
     obtain ⟨w9, hw9⟩ : ∃ w9, (((((w8.setCell ⟨g4, 0, none⟩ (.int .u32 seq)).setCell ⟨g4, 1, none⟩ (.slice (some ⟨x0, 0, none⟩) 11 y0)).setCell ⟨g4, 2, none⟩ (.slice none 0 0)).setCell ⟨g4, 3, none⟩ (.int .i64 t0)).setCell ⟨g4, 4, none⟩ (.int .i64 s0)) = w9 := ⟨_, rfl⟩
     rw [hw9] at hz9 hb9 ho9 ⊢
     have c0 : w9.cell? ⟨g4, 0, none⟩ = some (.int .u32 seq) := (blk_cell hz9 0).trans rfl
     have c1 : w9.cell? ⟨g4, 1, none⟩ = some (.slice (some ⟨x0, 0, none⟩) 11 y0) := (blk_cell hz9 1).trans rfl
     have c2 : w9.cell? ⟨g4, 2, none⟩ = some (.slice none 0 0) := (blk_cell hz9 2).trans rfl
     have c3 : w9.cell? ⟨g4, 3, none⟩ = some (.int .i64 t0) := (blk_cell hz9 3).trans rfl
     have c4 : w9.cell? ⟨g4, 4, none⟩ = some (.int .i64 s0) := (blk_cell hz9 4).trans rfl
     have HT9 : Hid (TbR w9 (fun k => w.heap.size ≤ k) #[.int .u32 seq, .slice (some ⟨x0, 0, none⟩) 11 y0, .slice none 0 0, .int .i64 t0, .int .i64 s0] (Tb.take1 ⟨seq, pl, s0 :: [], t0, t1⟩)) := Lib.hid (TbR.mk_ (T := Tb.take1 ⟨seq, pl, s0 :: [], t0, t1⟩) 0 rfl YY8.out.1 (Nat.le_refl 0) (Nat.zero_le 3) (own_reads' ho9) ⟨rfl, Nat.zero_le _, fun h_ => absurd h_ (Nat.lt_irrefl 0)⟩ XX8.out.1 (fun x hx => by cases hx))
     refine bodyPost_ret (v := .tuple #[.agg #[.int .u32 seq, .slice (some ⟨x0, 0, none⟩) 11 y0, .slice none 0 0, .int .i64 t0, .int .i64 s0], .int .i64 t1, .int .i64 0]) (by simp [results, Try.results41, go_sem, c0, c1, c2, c3, c4]) rfl ⟨hb9, .inr ⟨by simp, _, _, rfl, HT9.out, x0, y0, rfl, own_re ho9 XX8.out.1, own_ne_none⟩⟩
    ·have kv3 : decide (11 ≤ kb) = false := decide_eq_false (by omega)
     have kv4 : decide ((kb : Int) < 0) = false := decide_eq_false (by omega)
     obtain ⟨pv, hpv⟩ : ∃ pv, rd pl (kb : Int) = pv := ⟨_, rfl⟩
     obtain ⟨pc1, pc2⟩ := own_at OP0.out (kb : Int) (by omega) (by omega)
     rw [Int.toNat_natCast, hpv] at pc1
     rw [Int.toNat_natCast] at pc2
     have kI : (kb : Int) < 11 := by omega
     go_wp2_with fail
     go_region
     have ho8 := (own_store OP0.out (kb : Int) s0).1
     rw [Int.toNat_natCast] at ho8
     have hm8 : Below w.heap.size w (w'.setCell ⟨x0, kb, none⟩ (.int .i64 s0)) := bl_set BB0.out (p := ⟨x0, kb, none⟩) NE0.out.2.2.2.2.2.2 _
     have hv8 := blk_far HV0.out (p := ⟨x0, kb, none⟩) (Ne.symm NE0.out.1) (.int .i64 s0)
     have h48 := blk_far H40.out (p := ⟨x0, kb, none⟩) (Ne.symm NE0.out.2.2.2.1) (.int .i64 s0)
     obtain ⟨w8, hw8⟩ : ∃ w8, (w'.setCell ⟨x0, kb, none⟩ (.int .i64 s0)).drew = w8 := ⟨_, rfl⟩
     have HB8 := Lib.hid (show Below w.heap.size w w8 by rw [← hw8]; exact bl_drew hm8)
     have HV8 := Lib.hid (show w8.heap[g7]? = some (.cells #[.int .u32 seq, .slice (some ⟨x0, 0, none⟩) 11 y0, .slice none 0 0, .int .i64 t0, .int .i64 t1] 108 (0, 0)) by rw [← hw8]; exact hv8)
     have H48 := Lib.hid (show w8.heap[g4]? = some (.cells #[.int .u32 0, .slice none 0 0, .slice none 0 0, .int .i64 0, .int .i64 0] 108 (0, 0)) by rw [← hw8]; exact h48)
     have OP8 := Lib.hid (show w8.ownsRow w.heap.size 3 1 (.slice (some ⟨x0, 0, none⟩) 11 y0) 11 (nums .i64 (pl.set kb s0)) by rw [← hw8]; exact ho8)
     have NE8 := Lib.hid (And.intro NE0.out.2.2.2.1 trivial)
     try rw [hw8]
     clear hw8 hm8 hv8 h48 ho8 k1 k3 k4 kf1 kf3 kf4 t2c s1 pc1 pc2
     have k0 : w8.cell? ⟨g7, 0, none⟩ = some (.int .u32 seq) := (blk_cell HV8.out 0).trans rfl
     have k1 : w8.cell? ⟨g7, 1, none⟩ = some (.slice (some ⟨x0, 0, none⟩) 11 y0) := (blk_cell HV8.out 1).trans rfl
     have k2 : w8.cell? ⟨g7, 2, none⟩ = some (.slice none 0 0) := (blk_cell HV8.out 2).trans rfl
     have k3 : w8.cell? ⟨g7, 3, none⟩ = some (.int .i64 t0) := (blk_cell HV8.out 3).trans rfl
     have k4 : w8.cell? ⟨g7, 4, none⟩ = some (.int .i64 t1) := (blk_cell HV8.out 4).trans rfl
     have z0 : w8.cell? ⟨g4, 0, none⟩ = some (.int .u32 0) := (blk_cell H48.out 0).trans rfl
     have f0 := blk_frozen H48.out 0
     have z1 : w8.cell? ⟨g4, 1, none⟩ = some (.slice none 0 0) := (blk_cell H48.out 1).trans rfl
     have f1 := blk_frozen H48.out 1
     have z2 : w8.cell? ⟨g4, 2, none⟩ = some (.slice none 0 0) := (blk_cell H48.out 2).trans rfl
     have f2 := blk_frozen H48.out 2
     have z3 : w8.cell? ⟨g4, 3, none⟩ = some (.int .i64 0) := (blk_cell H48.out 3).trans rfl
     have f3 := blk_frozen H48.out 3
     have z4 : w8.cell? ⟨g4, 4, none⟩ = some (.int .i64 0) := (blk_cell H48.out 4).trans rfl
     have f4 := blk_frozen H48.out 4
     go_wp2_with fail
     have hz9 := put5 H48.out (.int .u32 seq) (.slice (some ⟨x0, 0, none⟩) 11 y0) (.slice none 0 0) (.int .i64 t0) (.int .i64 t1)
     have hb9 := bel5 HB8.out HG4.out.1 (.int .u32 seq) (.slice (some ⟨x0, 0, none⟩) 11 y0) (.slice none 0 0) (.int .i64 t0) (.int .i64 t1)
     have ho9 := own5 OP8.out NE8.out.1 (.int .u32 seq) (.slice (some ⟨x0, 0, none⟩) 11 y0) (.slice none 0 0) (.int .i64 t0) (.int .i64 t1)
     obtain ⟨w9, hw9⟩ : ∃ w9, (((((w8.setCell ⟨g4, 0, none⟩ (.int .u32 seq)).setCell ⟨g4, 1, none⟩ (.slice (some ⟨x0, 0, none⟩) 11 y0)).setCell ⟨g4, 2, none⟩ (.slice none 0 0)).setCell ⟨g4, 3, none⟩ (.int .i64 t0)).setCell ⟨g4, 4, none⟩ (.int .i64 t1)) = w9 := ⟨_, rfl⟩
     rw [hw9] at hz9 hb9 ho9 ⊢
     have c0 : w9.cell? ⟨g4, 0, none⟩ = some (.int .u32 seq) := (blk_cell hz9 0).trans rfl
     have c1 : w9.cell? ⟨g4, 1, none⟩ = some (.slice (some ⟨x0, 0, none⟩) 11 y0) := (blk_cell hz9 1).trans rfl
     have c2 : w9.cell? ⟨g4, 2, none⟩ = some (.slice none 0 0) := (blk_cell hz9 2).trans rfl
     have c3 : w9.cell? ⟨g4, 3, none⟩ = some (.int .i64 t0) := (blk_cell hz9 3).trans rfl
     have c4 : w9.cell? ⟨g4, 4, none⟩ = some (.int .i64 t1) := (blk_cell hz9 4).trans rfl
     have HT9 : Hid (TbR w9 (fun k => w.heap.size ≤ k) #[.int .u32 seq, .slice (some ⟨x0, 0, none⟩) 11 y0, .slice none 0 0, .int .i64 t0, .int .i64 t1] (Tb.takeV ⟨seq, pl, s0 :: [], t0, t1⟩ kb)) := Lib.hid (TbR.mk_ (T := Tb.takeV ⟨seq, pl, s0 :: [], t0, t1⟩ kb) 0 rfl YY8.out.1 (Nat.le_refl 0) (Nat.zero_le 3) (own_reads' ho9) ⟨rfl, Nat.zero_le _, fun h_ => absurd h_ (Nat.lt_irrefl 0)⟩ XX8.out.1 (fun x hx => by cases hx))
     refine bodyPost_ret (v := .tuple #[.agg #[.int .u32 seq, .slice (some ⟨x0, 0, none⟩) 11 y0, .slice none 0 0, .int .i64 t0, .int .i64 t1], .int .i64 pv, .int .i64 0]) (by simp [results, Try.results41, go_sem, c0, c1, c2, c3, c4]) rfl ⟨hb9, .inr ⟨by simp, _, _, rfl, HT9.out, x0, y0, rfl, own_re ho9 XX8.out.1, own_ne_none⟩⟩
  ·obtain ⟨n, hn⟩ : ∃ n, (r0 :: restT).length = n := ⟨_, rfl⟩
   have HNz := Lib.hid (show 0 < n ∧ n ≤ 1000 by rw [← hn]; simp at hn3 ⊢; omega)
   have HN3 := Lib.hid (show n ≤ 3 by rw [← hn]; simp at hn3 ⊢; omega)
   obtain ⟨rest, hr1⟩ : ∃ rest, r0 :: restT = rest := ⟨_, rfl⟩
   rw [hr1] at hn hr7 hv ⊢
   rw [hr1] at hsc hn3 k7
   rw [hn] at hr7 hsc hn3 k7 ⊢
   have HNE := Lib.hid hn
   have K7 := Lib.hid k7
   have hn0 : ((n : Int) + 1 == 0) = false := by simp; omega
   have hn1 : (n + 1 == 0) = false := by simp
   have hr70 := Lib.hid hr7
   have HVv := Lib.hid hv
   clear k7 hr7 hr1 hn hv restT r0
   go_enter Try.func41, Try.ntmps41
   go_wp2_with fail
   have ha := al2_ w #[.int .u32 seq, .slice (some PA) 11 pc, .slice (some SA) (n + 1) sc, .int .i64 t0, .int .i64 t1] #[.int .u32 0, .slice none 0 0, .slice none 0 0, .int .i64 0, .int .i64 0] 108 108
   obtain ⟨wi, hwi⟩ : ∃ wi, (w.alloc (.cells #[.int .u32 seq, .slice (some PA) 11 pc, .slice (some SA) (n + 1) sc, .int .i64 t0, .int .i64 t1] 108)).alloc (.cells #[.int .u32 0, .slice none 0 0, .slice none 0 0, .int .i64 0, .int .i64 0] 108) = wi := ⟨_, rfl⟩
   rw [hwi] at ha ⊢
   obtain ⟨g2, hg2⟩ : ∃ g2, w.heap.size = g2 := ⟨_, rfl⟩
   obtain ⟨g4, hg4⟩ : ∃ g4, w.heap.size + 1 = g4 := ⟨_, rfl⟩
   rw [hg4] at ha
   rw [hg2] at ha
   try rw [hg4]
   try rw [hg2]
   have H2i := Lib.hid ha.1
   have H4i := Lib.hid ha.2.1
   have HBi := Lib.hid (show Below w.heap.size w wi by rw [hg2]; exact ha.2.2)
   have HG4 := Lib.hid (show w.heap.size ≤ g4 ∧ g2 ≠ g4 ∧ w.heap.size ≤ g2 by omega)
   have RPi := Lib.hid (HRP.out.below HBi.out)
   have RSi := Lib.hid (hr70.out.below HBi.out)
   clear hwi ha hg2 hg4
   refine start_ (n := 14) (S := fun w' => True) (ds := []) _ (by kernel_rfl) rfl rfl trivial (fun hHeld => ?_)
   refine with_tabW TiR.tab3 TiR.bits3 (fun HT_ HW_ => ?_)
   have H2z := Lib.hid (show wi.drew.heap[g2]? = _ from H2i.out)
   have RPz := Lib.hid ((RPi.out).below (bl_drew (Below.refl _ _)))
   have RSz := Lib.hid ((RSi.out).below (bl_drew (Below.refl _ _)))
   have DZ := Lib.hid (fun W (h_ : Below wi.drew.heap.size wi.drew W) => (⟨h_.os, h_.tape, h_.output, h_.size, h_.block⟩ : Below wi.heap.size wi W))
   have SZ := Lib.hid (show wi.heap.size = wi.drew.heap.size from rfl)
   have ZP := Lib.hid (show 0 < wi.drew.heap.size from Nat.lt_of_le_of_lt (Nat.zero_le _) (blk_lt H2i.out))
   generalize wi.drew = wz at H2z RPz RSz DZ SZ ZP hHeld ⊢
   have BB := Lib.hid (Below.refl wz.heap.size wz)
   have L7 := Lib.hid ZP.out
   have L0 := Lib.hid ZP.out
   have L1 := Lib.hid ZP.out
   refine pur_ 0 (some 25) HT_.out rfl rfl (by kernel_rfl) (fun _ _ _ h => h) (by rfl) (fun w' => by go_simp; with_reducible rfl) (by simp only [Act.put, List.setIfInBounds_toArray, List.set_cons_zero, List.set_cons_succ, i64_w, i32_w]; rfl) ?_
   refine pur_ 2 (some 27) HT_.out rfl rfl (by kernel_rfl) (fun _ _ _ h => h) (by rfl) (fun w' => by go_simp; with_reducible rfl) (by simp only [Act.put, List.setIfInBounds_toArray, List.set_cons_zero, List.set_cons_succ, i64_w, i32_w]; rfl) ?_
   refine pur_ 5 (some 30) HT_.out rfl rfl (by kernel_rfl) (fun _ _ _ h => h) (by rfl) (fun w' => by go_simp; with_reducible rfl) (by simp only [Act.put, List.setIfInBounds_toArray, List.set_cons_zero, List.set_cons_succ, i64_w, i32_w]; rfl) ?_
   refine pur_ 9 (some 34) HT_.out rfl rfl (by kernel_rfl) (fun _ _ _ h => h) (by rfl) (fun w' => by go_simp; with_reducible rfl) (by simp only [Act.put, List.setIfInBounds_toArray, List.set_cons_zero, List.set_cons_succ, i64_w, i32_w]; rfl) ?_
   refine inv_at [1, 3, 4, 6, 7, 8, 10, 11, 12, 13] (fun a0_ b a w' => ∃ (x0 : Nat) (y0 : Nat) (g7 : Nat) (x1 : Nat) (y1 : Nat) (m4_ : Value) (m8_ : Value) (m11_ : Value) (m12_ : Value), a = putSel a0_ b [(1, 26, .int .u32 seq), (3, 28, .slice (some PA) 11 pc), (4, 29, m4_), (6, 31, .slice (some SA) (n + 1) sc), (7, 32, .slice (some A7) n c7), (8, 33, m8_), (10, 35, .agg #[.int .i64 t0, .int .i64 t1]), (11, 36, m11_), (12, 7, m12_)] ∧ (Below wz.heap.size wz w') ∧ (g7 < w'.heap.size) ∧ (x0 < w'.heap.size) ∧ (b 4 = true → w'.ownsRow wz.heap.size 3 1 (.slice (some ⟨x0, 0, none⟩) 11 y0) 11 (nums .i64 pl)) ∧ (b 4 = true → 11 ≤ y0 ∧ wz.heap.size ≤ x0) ∧ (b 4 = true → b 12 = true → x0 ≠ g7) ∧ (b 12 = true → b 13 = false → w'.heap[g7]? = some (.cells #[.int .u32 0, .slice none 0 0, .slice none 0 0, .int .i64 0, .int .i64 0] 108 (0, 0))) ∧ (b 12 = true → wz.heap.size ≤ g7) ∧ (b 13 = true → w'.heap[g7]? = some (.cells #[.int .u32 seq, .slice (some ⟨x0, 0, none⟩) 11 y0, .slice (some ⟨x1, 0, none⟩) n y1, .int .i64 t0, .int .i64 t1] 108 (0, 0))) ∧ (x1 < w'.heap.size) ∧ (b 8 = true → w'.ownsRow wz.heap.size 3 1 (.slice (some ⟨x1, 0, none⟩) n y1) n (nums .i64 rest)) ∧ (b 8 = true → n ≤ y1 ∧ wz.heap.size ≤ x1) ∧ (b 8 = true → b 12 = true → x1 ≠ g7) ∧ (b 4 = true → b 8 = true → x0 ≠ x1) ∧ (b 4 = true → (m4_ : Value) = .slice (some ⟨x0, 0, none⟩) 11 y0) ∧ (b 8 = true → (m8_ : Value) = .slice (some ⟨x1, 0, none⟩) n y1) ∧ (b 11 = true → (m11_ : Value) = .agg #[.int .u32 seq, .slice (some ⟨x0, 0, none⟩) 11 y0, .slice (some ⟨x1, 0, none⟩) n y1, .int .i64 t0, .int .i64 t1]) ∧ (b 12 = true → (m12_ : Value) = .pointer (some ⟨g7, 0, none⟩))) HT_.out HW_.out (by kernel_rfl) (by kernel_rfl) ?_ ?_ ?_
   ·exact ⟨0, 0, 0, 0, 0, .bool false, .bool false, .bool false, .bool false, by simp only [putSel, Bool.false_eq_true, if_false], BB.out, ZP.out, ZP.out, fun h_ => absurd h_ (by decide), fun h_ => absurd h_ (by decide), fun h_ => absurd h_ (by decide), fun h_ => absurd h_ (by decide), fun h_ => absurd h_ (by decide), fun h_ => absurd h_ (by decide), ZP.out, fun h_ => absurd h_ (by decide), fun h_ => absurd h_ (by decide), fun h_ => absurd h_ (by decide), fun h_ => absurd h_ (by decide), fun h_ => absurd h_ (by decide), fun h_ => absurd h_ (by decide), fun h_ => absurd h_ (by decide), fun h_ => absurd h_ (by decide)⟩
   ·skip
    clear BB L0 L1 L7
    refine steps_cons ?_ ?_
    ·rintro b a w' ⟨x0, y0, g7, x1, y1, m4_, m8_, m11_, m12_, ha, Q_BB, Q_L7, Q_L0, Q_OP, Q_OY, Q_NX, Q_HZ, Q_GE, Q_HV, Q_L1, Q_OS, Q_OZ, Q_NZ, Q_NO, Q_X4_, Q_X8_, Q_X11_, Q_X12_⟩ hb_ hon hoff
     refine ⟨_, rfl, fun K hK => ?_⟩
     have e25 : a.tmps[25]? = some (.pointer (some ⟨g2, 0, none⟩)) := by rw [ha]; exact (putSel_off rfl).trans rfl
     replace ha := Aside0.mk ha
     have BB := Aside0.mk Q_BB
     have L7 := Aside0.mk Q_L7
     have L0 := Aside0.mk Q_L0
     have L1 := Aside0.mk Q_L1
     have hc_ : w'.cell? ⟨g2, 0, none⟩ = some (.int .u32 seq) := (blk_cell (blk_below H2z.out BB.out) 0).trans rfl
     refine value_ (w1 := w') (v := .int .u32 seq) (by rfl) rfl ?_ ?_
     ·go_simp
      (try simp only [i64_w])
      try rfl
     refine hK.out _ _ ⟨x0, y0, g7, x1, y1, m4_, m8_, m11_, m12_, (ptup_ ha.out 0 hb_ rfl rfl rfl), Q_BB, Q_L7, Q_L0, Q_OP, Q_OY, Q_NX, Q_HZ, Q_GE, off_ (hoff 13 (by kernel_rfl)), Q_L1, Q_OS, Q_OZ, Q_NZ, Q_NO, Q_X4_, Q_X8_, off_ (hoff 11 (by kernel_rfl)), Q_X12_⟩
    refine steps_cons ?_ ?_
    ·rintro b a w' ⟨x0, y0, g7, x1, y1, m4_, m8_, m11_, m12_, ha, Q_BB, Q_L7, Q_L0, Q_OP, Q_OY, Q_NX, Q_HZ, Q_GE, Q_HV, Q_L1, Q_OS, Q_OZ, Q_NZ, Q_NO, Q_X4_, Q_X8_, Q_X11_, Q_X12_⟩ hb_ hon hoff
     refine ⟨_, rfl, fun K hK => ?_⟩
     have e27 : a.tmps[27]? = some (.pointer (some ⟨g2, 1, none⟩)) := by rw [ha]; exact (putSel_off rfl).trans rfl
     replace ha := Aside0.mk ha
     have BB := Aside0.mk Q_BB
     have L7 := Aside0.mk Q_L7
     have L0 := Aside0.mk Q_L0
     have L1 := Aside0.mk Q_L1
     have hc_ : w'.cell? ⟨g2, 1, none⟩ = some (.slice (some PA) 11 pc) := (blk_cell (blk_below H2z.out BB.out) 1).trans rfl
     refine value_ (w1 := w') (v := .slice (some PA) 11 pc) (by rfl) rfl ?_ ?_
     ·go_simp
      (try simp only [i64_w])
      try rfl
     refine hK.out _ _ ⟨x0, y0, g7, x1, y1, m4_, m8_, m11_, m12_, (ptup_ ha.out 1 hb_ rfl rfl rfl), Q_BB, Q_L7, Q_L0, off_ (hoff 4 (by kernel_rfl)), off_ (hoff 4 (by kernel_rfl)), fun h0_ _ => off_ (hoff 4 (by kernel_rfl)) h0_, Q_HZ, Q_GE, off_ (hoff 13 (by kernel_rfl)), Q_L1, off_ (hoff 8 (by kernel_rfl)), off_ (hoff 8 (by kernel_rfl)), fun h0_ _ => off_ (hoff 8 (by kernel_rfl)) h0_, fun h0_ _ => off_ (hoff 4 (by kernel_rfl)) h0_, off_ (hoff 4 (by kernel_rfl)), off_ (hoff 8 (by kernel_rfl)), off_ (hoff 11 (by kernel_rfl)), Q_X12_⟩
    refine steps_cons ?_ ?_
    ·rintro b a w' ⟨x0, y0, g7, x1, y1, m4_, m8_, m11_, m12_, ha, Q_BB, Q_L7, Q_L0, Q_OP, Q_OY, Q_NX, Q_HZ, Q_GE, Q_HV, Q_L1, Q_OS, Q_OZ, Q_NZ, Q_NO, Q_X4_, Q_X8_, Q_X11_, Q_X12_⟩ hb_ hon hoff
     refine ⟨_, rfl, fun K hK => ?_⟩
     have e28 : a.tmps[28]? = some (.slice (some PA) 11 pc) := pton_ ha 1 rfl rfl (hon 3 (by kernel_rfl)) rfl
     replace ha := Aside0.mk ha
     have BB := Aside0.mk Q_BB
     have L7 := Aside0.mk Q_L7
     have L0 := Aside0.mk Q_L0
     have L1 := Aside0.mk Q_L1
     obtain ⟨c43, w1, hr43, hb43, ho43, hc43, hz43⟩ := appI (d := pc) (RPz.out.below BB.out) (by decide) (by decide)
     have hx43 : wz.heap.size ≤ w'.heap.size := BB.out.size
     refine app_ (by rfl) rfl rfl rfl (by rfl) (eval_of e28) hr43 ?_
     refine hK.out _ _ ⟨w'.heap.size, c43, g7, x1, y1, (.slice (some ⟨w'.heap.size, 0, none⟩) 11 c43), m8_, m11_, m12_, (ptup_ ha.out 2 hb_ rfl rfl rfl), bl_seq BB.out hb43, Nat.lt_of_lt_of_le L7.out hb43.size, (by rw [hz43]; exact Nat.lt_succ_self _), fun _ => own_lower ho43 hx43, fun _ => ⟨hc43, hx43⟩, fun _ _ => Nat.ne_of_gt L7.out, fun h0_ h1_ => blk_below (Q_HZ h0_ h1_) hb43, fun h0_ => (Q_GE h0_), off_ (hoff 13 (by kernel_rfl)), Nat.lt_of_lt_of_le L1.out hb43.size, off_ (hoff 8 (by kernel_rfl)), off_ (hoff 8 (by kernel_rfl)), fun h0_ _ => off_ (hoff 8 (by kernel_rfl)) h0_, fun _ h1_ => absurd ((hoff 8 (by kernel_rfl)).symm.trans h1_) (by decide), fun _ => rfl, off_ (hoff 8 (by kernel_rfl)), off_ (hoff 11 (by kernel_rfl)), Q_X12_⟩
    refine steps_cons ?_ ?_
    ·rintro b a w' ⟨x0, y0, g7, x1, y1, m4_, m8_, m11_, m12_, ha, Q_BB, Q_L7, Q_L0, Q_OP, Q_OY, Q_NX, Q_HZ, Q_GE, Q_HV, Q_L1, Q_OS, Q_OZ, Q_NZ, Q_NO, Q_X4_, Q_X8_, Q_X11_, Q_X12_⟩ hb_ hon hoff
     refine ⟨_, rfl, fun K hK => ?_⟩
     have e30 : a.tmps[30]? = some (.pointer (some ⟨g2, 2, none⟩)) := by rw [ha]; exact (putSel_off rfl).trans rfl
     replace ha := Aside0.mk ha
     have BB := Aside0.mk Q_BB
     have L7 := Aside0.mk Q_L7
     have L0 := Aside0.mk Q_L0
     have L1 := Aside0.mk Q_L1
     have hc_ : w'.cell? ⟨g2, 2, none⟩ = some (.slice (some SA) (n + 1) sc) := (blk_cell (blk_below H2z.out BB.out) 2).trans rfl
     refine value_ (w1 := w') (v := .slice (some SA) (n + 1) sc) (by rfl) rfl ?_ ?_
     ·go_simp
      (try simp only [i64_w])
      try rfl
     refine hK.out _ _ ⟨x0, y0, g7, x1, y1, m4_, m8_, m11_, m12_, (ptup_ ha.out 3 hb_ rfl rfl rfl), Q_BB, Q_L7, Q_L0, Q_OP, Q_OY, Q_NX, Q_HZ, Q_GE, off_ (hoff 13 (by kernel_rfl)), Q_L1, off_ (hoff 8 (by kernel_rfl)), off_ (hoff 8 (by kernel_rfl)), fun h0_ _ => off_ (hoff 8 (by kernel_rfl)) h0_, fun _ h1_ => absurd ((hoff 8 (by kernel_rfl)).symm.trans h1_) (by decide), Q_X4_, off_ (hoff 8 (by kernel_rfl)), off_ (hoff 11 (by kernel_rfl)), Q_X12_⟩
    refine steps_cons ?_ ?_
    ·rintro b a w' ⟨x0, y0, g7, x1, y1, m4_, m8_, m11_, m12_, ha, Q_BB, Q_L7, Q_L0, Q_OP, Q_OY, Q_NX, Q_HZ, Q_GE, Q_HV, Q_L1, Q_OS, Q_OZ, Q_NZ, Q_NO, Q_X4_, Q_X8_, Q_X11_, Q_X12_⟩ hb_ hon hoff
     refine ⟨_, rfl, fun K hK => ?_⟩
     have e31 : a.tmps[31]? = some (.slice (some SA) (n + 1) sc) := pton_ ha 3 rfl rfl (hon 6 (by kernel_rfl)) rfl
     replace ha := Aside0.mk ha
     have BB := Aside0.mk Q_BB
     have L7 := Aside0.mk Q_L7
     have L0 := Aside0.mk Q_L0
     have L1 := Aside0.mk Q_L1
     have hk_ := K7.out
     refine value_ (w1 := w') (v := .slice (some A7) n c7) (by rfl) rfl ?_ ?_
     ·go_simp
      (try simp only [i64_w])
      try rfl
     refine hK.out _ _ ⟨x0, y0, g7, x1, y1, m4_, m8_, m11_, m12_, (ptup_ ha.out 4 hb_ rfl rfl rfl), Q_BB, Q_L7, Q_L0, Q_OP, Q_OY, Q_NX, Q_HZ, Q_GE, off_ (hoff 13 (by kernel_rfl)), Q_L1, off_ (hoff 8 (by kernel_rfl)), off_ (hoff 8 (by kernel_rfl)), fun h0_ _ => off_ (hoff 8 (by kernel_rfl)) h0_, fun _ h1_ => absurd ((hoff 8 (by kernel_rfl)).symm.trans h1_) (by decide), Q_X4_, off_ (hoff 8 (by kernel_rfl)), off_ (hoff 11 (by kernel_rfl)), Q_X12_⟩
    refine steps_cons ?_ ?_
    ·rintro b a w' ⟨x0, y0, g7, x1, y1, m4_, m8_, m11_, m12_, ha, Q_BB, Q_L7, Q_L0, Q_OP, Q_OY, Q_NX, Q_HZ, Q_GE, Q_HV, Q_L1, Q_OS, Q_OZ, Q_NZ, Q_NO, Q_X4_, Q_X8_, Q_X11_, Q_X12_⟩ hb_ hon hoff
     refine ⟨_, rfl, fun K hK => ?_⟩
     have e32 : a.tmps[32]? = some (.slice (some A7) n c7) := pton_ ha 4 rfl rfl (hon 7 (by kernel_rfl)) rfl
     replace ha := Aside0.mk ha
     have BB := Aside0.mk Q_BB
     have L7 := Aside0.mk Q_L7
     have L0 := Aside0.mk Q_L0
     have OP := Aside0.mk (Q_OP (hon 4 (by kernel_rfl)))
     have OY := Aside0.mk (Q_OY (hon 4 (by kernel_rfl)))
     have L1 := Aside0.mk Q_L1
     obtain ⟨c43, w1, hr43, hb43, ho43, hc43, hz43⟩ := appI (d := c7) (RSz.out.below BB.out) HNz.out.1 HNz.out.2
     have hx43 : wz.heap.size ≤ w'.heap.size := BB.out.size
     refine app_ (by rfl) rfl rfl rfl (by rfl) (eval_of e32) hr43 ?_
     refine hK.out _ _ ⟨x0, y0, g7, w'.heap.size, c43, m4_, (.slice (some ⟨w'.heap.size, 0, none⟩) n c43), m11_, m12_, (ptup_ ha.out 5 hb_ rfl rfl rfl), bl_seq BB.out hb43, Nat.lt_of_lt_of_le L7.out hb43.size, Nat.lt_of_lt_of_le L0.out hb43.size, fun _ => pw_own_below OP.out hb43, fun _ => OY.out, fun h0_ h1_ => (Q_NX h0_ h1_), fun h0_ h1_ => blk_below (Q_HZ h0_ h1_) hb43, fun h0_ => (Q_GE h0_), off_ (hoff 13 (by kernel_rfl)), (by rw [hz43]; exact Nat.lt_succ_self _), fun _ => own_lower ho43 hx43, fun _ => ⟨hc43, hx43⟩, fun _ _ => Nat.ne_of_gt L7.out, fun _ _ => Nat.ne_of_lt L0.out, Q_X4_, fun _ => rfl, off_ (hoff 11 (by kernel_rfl)), Q_X12_⟩
    refine steps_cons ?_ ?_
    ·rintro b a w' ⟨x0, y0, g7, x1, y1, m4_, m8_, m11_, m12_, ha, Q_BB, Q_L7, Q_L0, Q_OP, Q_OY, Q_NX, Q_HZ, Q_GE, Q_HV, Q_L1, Q_OS, Q_OZ, Q_NZ, Q_NO, Q_X4_, Q_X8_, Q_X11_, Q_X12_⟩ hb_ hon hoff
     refine ⟨_, rfl, fun K hK => ?_⟩
     have e34 : a.tmps[34]? = some (.pointer (some ⟨g2, 3, none⟩)) := by rw [ha]; exact (putSel_off rfl).trans rfl
     replace ha := Aside0.mk ha
     have BB := Aside0.mk Q_BB
     have L7 := Aside0.mk Q_L7
     have L0 := Aside0.mk Q_L0
     have L1 := Aside0.mk Q_L1
     have hc3_ : w'.cell? ⟨g2, 3, none⟩ = some (.int .i64 t0) := (blk_cell (blk_below H2z.out BB.out) 3).trans rfl
     have hc4_ : w'.cell? ⟨g2, 4, none⟩ = some (.int .i64 t1) := (blk_cell (blk_below H2z.out BB.out) 4).trans rfl
     refine value_ (w1 := w') (v := .agg #[.int .i64 t0, .int .i64 t1]) (by rfl) rfl ?_ ?_
     ·go_simp
      (try simp only [i64_w])
      try rfl
     refine hK.out _ _ ⟨x0, y0, g7, x1, y1, m4_, m8_, m11_, m12_, (ptup_ ha.out 6 hb_ rfl rfl rfl), Q_BB, Q_L7, Q_L0, Q_OP, Q_OY, Q_NX, Q_HZ, Q_GE, off_ (hoff 13 (by kernel_rfl)), Q_L1, Q_OS, Q_OZ, Q_NZ, Q_NO, Q_X4_, Q_X8_, off_ (hoff 11 (by kernel_rfl)), Q_X12_⟩
    refine steps_cons ?_ ?_
    ·rintro b a w' ⟨x0, y0, g7, x1, y1, m4_, m8_, m11_, m12_, ha, Q_BB, Q_L7, Q_L0, Q_OP, Q_OY, Q_NX, Q_HZ, Q_GE, Q_HV, Q_L1, Q_OS, Q_OZ, Q_NZ, Q_NO, Q_X4_, Q_X8_, Q_X11_, Q_X12_⟩ hb_ hon hoff
     refine ⟨_, rfl, fun K hK => ?_⟩
     have e26 : a.tmps[26]? = some (.int .u32 seq) := pton_ ha 0 rfl rfl (hon 1 (by kernel_rfl)) rfl
     have e29 : a.tmps[29]? = some (m4_) := pton_ ha 2 rfl rfl (hon 4 (by kernel_rfl)) rfl
     rw [Q_X4_ (hon 4 (by kernel_rfl))] at e29
     have e33 : a.tmps[33]? = some (m8_) := pton_ ha 5 rfl rfl (hon 8 (by kernel_rfl)) rfl
     rw [Q_X8_ (hon 8 (by kernel_rfl))] at e33
     have e35 : a.tmps[35]? = some (.agg #[.int .i64 t0, .int .i64 t1]) := pton_ ha 6 rfl rfl (hon 10 (by kernel_rfl)) rfl
     replace ha := Aside0.mk ha
     have BB := Aside0.mk Q_BB
     have L7 := Aside0.mk Q_L7
     have L0 := Aside0.mk Q_L0
     have OP := Aside0.mk (Q_OP (hon 4 (by kernel_rfl)))
     have OY := Aside0.mk (Q_OY (hon 4 (by kernel_rfl)))
     have L1 := Aside0.mk Q_L1
     have OS := Aside0.mk (Q_OS (hon 8 (by kernel_rfl)))
     have OZ := Aside0.mk (Q_OZ (hon 8 (by kernel_rfl)))
     have NO := Aside0.mk (Q_NO (hon 4 (by kernel_rfl)) (hon 8 (by kernel_rfl)))
     refine value_ (w1 := w') (v := .agg #[.int .u32 seq, .slice (some ⟨x0, 0, none⟩) 11 y0, .slice (some ⟨x1, 0, none⟩) n y1, .int .i64 t0, .int .i64 t1]) (by rfl) rfl ?_ ?_
     ·go_simp
      (try simp only [i64_w])
      try rfl
     refine hK.out _ _ ⟨x0, y0, g7, x1, y1, m4_, m8_, (.agg #[.int .u32 seq, .slice (some ⟨x0, 0, none⟩) 11 y0, .slice (some ⟨x1, 0, none⟩) n y1, .int .i64 t0, .int .i64 t1]), m12_, (ptup_ ha.out 7 hb_ rfl rfl rfl), Q_BB, Q_L7, Q_L0, Q_OP, Q_OY, Q_NX, Q_HZ, Q_GE, off_ (hoff 13 (by kernel_rfl)), Q_L1, Q_OS, Q_OZ, Q_NZ, Q_NO, Q_X4_, Q_X8_, fun _ => rfl, Q_X12_⟩
    refine steps_cons ?_ ?_
    ·rintro b a w' ⟨x0, y0, g7, x1, y1, m4_, m8_, m11_, m12_, ha, Q_BB, Q_L7, Q_L0, Q_OP, Q_OY, Q_NX, Q_HZ, Q_GE, Q_HV, Q_L1, Q_OS, Q_OZ, Q_NZ, Q_NO, Q_X4_, Q_X8_, Q_X11_, Q_X12_⟩ hb_ hon hoff
     refine ⟨_, rfl, fun K hK => ?_⟩
     replace ha := Aside0.mk ha
     have BB := Aside0.mk Q_BB
     have L7 := Aside0.mk Q_L7
     have L0 := Aside0.mk Q_L0
     have L1 := Aside0.mk Q_L1
     refine value_ (w1 := w'.alloc (.cells #[.int .u32 0, .slice none 0 0, .slice none 0 0, .int .i64 0, .int .i64 0] 108)) (v := .pointer (some ⟨w'.heap.size, 0, none⟩)) (by rfl) rfl ?_ ?_
     ·go_simp
      try rfl
     refine hK.out _ _ ⟨x0, y0, w'.heap.size, x1, y1, m4_, m8_, m11_, (.pointer (some ⟨w'.heap.size, 0, none⟩)), (ptup_ ha.out 8 hb_ rfl rfl rfl), bl_seq BB.out (bl_alloc (Below.refl w'.heap.size w') (.cells #[.int .u32 0, .slice none 0 0, .slice none 0 0, .int .i64 0, .int .i64 0] 108)), (by simp), Nat.lt_of_lt_of_le L0.out (bl_alloc (Below.refl w'.heap.size w') (.cells #[.int .u32 0, .slice none 0 0, .slice none 0 0, .int .i64 0, .int .i64 0] 108)).size, fun h0_ => pw_own_below (Q_OP h0_) (bl_alloc (Below.refl w'.heap.size w') (.cells #[.int .u32 0, .slice none 0 0, .slice none 0 0, .int .i64 0, .int .i64 0] 108)), fun h0_ => (Q_OY h0_), fun _ _ => Nat.ne_of_lt L0.out, fun _ _ => heap_alloc_new w' _, fun _ => BB.out.size, off_ (hoff 13 (by kernel_rfl)), Nat.lt_of_lt_of_le L1.out (bl_alloc (Below.refl w'.heap.size w') (.cells #[.int .u32 0, .slice none 0 0, .slice none 0 0, .int .i64 0, .int .i64 0] 108)).size, fun h0_ => pw_own_below (Q_OS h0_) (bl_alloc (Below.refl w'.heap.size w') (.cells #[.int .u32 0, .slice none 0 0, .slice none 0 0, .int .i64 0, .int .i64 0] 108)), fun h0_ => (Q_OZ h0_), fun _ _ => Nat.ne_of_lt L1.out, fun h0_ h1_ => (Q_NO h0_ h1_), Q_X4_, Q_X8_, Q_X11_, fun _ => rfl⟩
    refine steps_cons ?_ ?_
    ·rintro b a w' ⟨x0, y0, g7, x1, y1, m4_, m8_, m11_, m12_, ha, Q_BB, Q_L7, Q_L0, Q_OP, Q_OY, Q_NX, Q_HZ, Q_GE, Q_HV, Q_L1, Q_OS, Q_OZ, Q_NZ, Q_NO, Q_X4_, Q_X8_, Q_X11_, Q_X12_⟩ hb_ hon hoff
     refine ⟨_, rfl, fun K hK => ?_⟩
     have e7 : a.tmps[7]? = some (m12_) := pton_ ha 8 rfl rfl (hon 12 (by kernel_rfl)) rfl
     rw [Q_X12_ (hon 12 (by kernel_rfl))] at e7
     have e36 : a.tmps[36]? = some (m11_) := pton_ ha 7 rfl rfl (hon 11 (by kernel_rfl)) rfl
     rw [Q_X11_ (hon 11 (by kernel_rfl))] at e36
     replace ha := Aside0.mk ha
     have BB := Aside0.mk Q_BB
     have L7 := Aside0.mk Q_L7
     have L0 := Aside0.mk Q_L0
     have OP := Aside0.mk (Q_OP (hon 4 (by kernel_rfl)))
     have OY := Aside0.mk (Q_OY (hon 4 (by kernel_rfl)))
     have NX := Aside0.mk (Q_NX (hon 4 (by kernel_rfl)) (hon 12 (by kernel_rfl)))
     have HZ := Aside0.mk (Q_HZ (hon 12 (by kernel_rfl)) hb_)
     have GE := Aside0.mk (Q_GE (hon 12 (by kernel_rfl)))
     have L1 := Aside0.mk Q_L1
     have OS := Aside0.mk (Q_OS (hon 8 (by kernel_rfl)))
     have OZ := Aside0.mk (Q_OZ (hon 8 (by kernel_rfl)))
     have NZ := Aside0.mk (Q_NZ (hon 8 (by kernel_rfl)) (hon 12 (by kernel_rfl)))
     have NO := Aside0.mk (Q_NO (hon 4 (by kernel_rfl)) (hon 8 (by kernel_rfl)))
     have zc0_ : w'.cell? ⟨g7, 0, none⟩ = some (.int .u32 0) := (blk_cell HZ.out 0).trans rfl
     have zc1_ : w'.cell? ⟨g7, 1, none⟩ = some (.slice none 0 0) := (blk_cell HZ.out 1).trans rfl
     have zc2_ : w'.cell? ⟨g7, 2, none⟩ = some (.slice none 0 0) := (blk_cell HZ.out 2).trans rfl
     have zc3_ : w'.cell? ⟨g7, 3, none⟩ = some (.int .i64 0) := (blk_cell HZ.out 3).trans rfl
     have zc4_ : w'.cell? ⟨g7, 4, none⟩ = some (.int .i64 0) := (blk_cell HZ.out 4).trans rfl
     have zf0_ := blk_frozen HZ.out 0
     have zf1_ := blk_frozen HZ.out 1
     have zf2_ := blk_frozen HZ.out 2
     have zf3_ := blk_frozen HZ.out 3
     have zf4_ := blk_frozen HZ.out 4
     refine skip_ (w1 := ((((w'.setCell ⟨g7, 0, none⟩ (.int .u32 seq)).setCell ⟨g7, 1, none⟩ (.slice (some ⟨x0, 0, none⟩) 11 y0)).setCell ⟨g7, 2, none⟩ (.slice (some ⟨x1, 0, none⟩) n y1)).setCell ⟨g7, 3, none⟩ (.int .i64 t0)).setCell ⟨g7, 4, none⟩ (.int .i64 t1)) (by rfl) rfl ?_ ?_
     ·go_simp
      try simp only [zc0_, zf0_, zc1_, zf1_, zc2_, zf2_, zc3_, zf3_, zc4_, zf4_]
      try rfl
     refine hK.out _ _ ⟨x0, y0, g7, x1, y1, m4_, m8_, m11_, m12_, (by rw [ha.out]; exact putSel_none (v := undef) rfl), bel5 BB.out GE.out _ _ _ _ _, (by simpa [World.setCell] using L7.out), (by simpa [World.setCell] using L0.out), fun _ => own5 OP.out NX.out _ _ _ _ _, fun _ => OY.out, fun _ _ => NX.out, fun _ h1_ => absurd ((up_self b 13).symm.trans h1_) (by decide), fun _ => GE.out, fun _ => put5 HZ.out _ _ _ _ _, (by simpa [World.setCell] using L1.out), fun _ => own5 OS.out NZ.out _ _ _ _ _, fun _ => OZ.out, fun _ _ => NZ.out, fun _ _ => NO.out, Q_X4_, Q_X8_, Q_X11_, Q_X12_⟩
    exact steps_nil
   ·rintro b a w' hall ⟨x0, y0, g7, x1, y1, m4_, m8_, m11_, m12_, ha, Q_BB, Q_L7, Q_L0, Q_OP, Q_OY, Q_NX, Q_HZ, Q_GE, Q_HV, Q_L1, Q_OS, Q_OZ, Q_NZ, Q_NO, Q_X4_, Q_X8_, Q_X11_, Q_X12_⟩
    clear BB L0 L1 L7
    have hb1_ := hall 1 (by kernel_rfl)
    have hb3_ := hall 3 (by kernel_rfl)
    have hb4_ := hall 4 (by kernel_rfl)
    have hb6_ := hall 6 (by kernel_rfl)
    have hb7_ := hall 7 (by kernel_rfl)
    have hb8_ := hall 8 (by kernel_rfl)
    have hb10_ := hall 10 (by kernel_rfl)
    have hb11_ := hall 11 (by kernel_rfl)
    have hb12_ := hall 12 (by kernel_rfl)
    have hb13_ := hall 13 (by kernel_rfl)
    subst ha
    obtain rfl := Q_X4_ hb4_
    obtain rfl := Q_X8_ hb8_
    obtain rfl := Q_X11_ hb11_
    obtain rfl := Q_X12_ hb12_
    simp only [putSel, hb1_, hb3_, hb4_, hb6_, hb7_, hb8_, hb10_, hb11_, hb12_, hb13_, if_true, Act.put, List.setIfInBounds_toArray, List.set_cons_zero, List.set_cons_succ]
    have BB := Aside0.mk Q_BB
    clear Q_BB
    have L7 := Aside0.mk Q_L7
    clear Q_L7
    have L0 := Aside0.mk Q_L0
    clear Q_L0
    have OP := Aside0.mk (Q_OP hb4_)
    clear Q_OP
    have OY := Aside0.mk (Q_OY hb4_)
    clear Q_OY
    have NX := Aside0.mk (Q_NX hb4_ hb12_)
    clear Q_NX
    clear Q_HZ
    have GE := Aside0.mk (Q_GE hb12_)
    clear Q_GE
    have HV := Aside0.mk (Q_HV hb13_)
    clear Q_HV
    have L1 := Aside0.mk Q_L1
    clear Q_L1
    have OS := Aside0.mk (Q_OS hb8_)
    clear Q_OS
    have OZ := Aside0.mk (Q_OZ hb8_)
    clear Q_OZ
    have NZ := Aside0.mk (Q_NZ hb8_ hb12_)
    clear Q_NZ
    have NO := Aside0.mk (Q_NO hb4_ hb8_)
    clear Q_NO
    clear hall hb1_ hb3_ hb4_ hb6_ hb7_ hb8_ hb10_ hb11_ hb12_ hb13_
    have HV0 := Lib.hid HV.out
    have OP0 := Lib.hid (own_lower OP.out (SZ.out ▸ HBi.out.size))
    have BB0 := Lib.hid (bl_seq HBi.out (DZ.out _ BB.out))
    have H20 := Lib.hid (blk_below H2i.out (DZ.out _ BB.out))
    have H40 := Lib.hid (blk_below H4i.out (DZ.out _ BB.out))
    have hl4 := blk_lt H4i.out
    have hl2 := blk_lt H2i.out
    have hge := GE.out
    have hsz := SZ.out
    have hbs := HBi.out.size
    have NE0 := Lib.hid (show x0 ≠ g7 ∧ g7 ≠ g4 ∧ g7 ≠ g2 ∧ x0 ≠ g4 ∧ x0 ≠ g2 ∧ w.heap.size ≤ g7 ∧ w.heap.size ≤ x0 from ⟨NX.out, by omega, by omega, by have := OY.out.2; omega, by have := OY.out.2; omega, by omega, by have := OY.out.2; omega⟩)
    have OS0 := Lib.hid (own_lower OS.out (SZ.out ▸ HBi.out.size))
    have NS0 := Lib.hid (show x1 ≠ g7 ∧ x1 ≠ g4 ∧ w.heap.size ≤ x1 ∧ x0 ≠ x1 from ⟨NZ.out, by have := OZ.out.2; omega, by have := OZ.out.2; omega, NO.out⟩)
    have NN8 := Lib.hid NS0.out.2.2.2
    have YY8 := Lib.hid (And.intro OY.out.1 (And.intro OZ.out.1 trivial))
    have XX8 := Lib.hid (And.intro NE0.out.2.2.2.2.2.2 NS0.out.2.2.1)
    clear BB HV OP OY GE NX L7 L0 DZ SZ ZP hge hsz hbs hl4 hl2 H2z RPz OS OZ NZ NO L1 RSz
    have s1 := HS0.out w' BB0.out
    have k1 : w'.cell? ⟨g7, 1, none⟩ = some (.slice (some ⟨x0, 0, none⟩) 11 y0) := (blk_cell HV0.out 1).trans rfl
    have kf1 := blk_frozen HV0.out 1
    have k3 : w'.cell? ⟨g7, 3, none⟩ = some (.int .i64 t0) := (blk_cell HV0.out 3).trans rfl
    have kf3 := blk_frozen HV0.out 3
    have k4 : w'.cell? ⟨g7, 4, none⟩ = some (.int .i64 t1) := (blk_cell HV0.out 4).trans rfl
    have kf4 := blk_frozen HV0.out 4
    have t2c : w'.cell? ⟨g2, 2, none⟩ = some (.slice (some SA) (n + 1) sc) := (blk_cell H20.out 2).trans rfl
    rcases HVv.out with ⟨rfl, rfl⟩ | ⟨rfl, rfl⟩ | ⟨kb, hb, rfl, rfl⟩
    ·go_wp2_with fail
     go_region
     have hm8 : Below w.heap.size w (w'.setCell ⟨g7, 3, none⟩ (.int .i64 s0)) := bl_set BB0.out (p := ⟨g7, 3, none⟩) NE0.out.2.2.2.2.2.1 _
     have hv8 := blk_put HV0.out 3 (.int .i64 s0) (cs' := #[.int .u32 seq, .slice (some ⟨x0, 0, none⟩) 11 y0, .slice (some ⟨x1, 0, none⟩) n y1, .int .i64 s0, .int .i64 t1]) (by simp)
     have h48 := blk_far H40.out (p := ⟨g7, 3, none⟩) (Ne.symm NE0.out.2.1) (.int .i64 s0)
     have ho8 := own_setCell (p := ⟨g7, 3, none⟩) OP0.out (by simp [Value.ownBlock]; exact Ne.symm NE0.out.1) (.int .i64 s0)
     have hs8 := own_setCell (p := ⟨g7, 3, none⟩) OS0.out (by simp [Value.ownBlock]; exact Ne.symm NS0.out.1) (.int .i64 s0)
     obtain ⟨w8, hw8⟩ : ∃ w8, (w'.setCell ⟨g7, 3, none⟩ (.int .i64 s0)).drew = w8 := ⟨_, rfl⟩
     have HB8 := Lib.hid (show Below w.heap.size w w8 by rw [← hw8]; exact bl_drew hm8)
     have HV8 := Lib.hid (show w8.heap[g7]? = some (.cells #[.int .u32 seq, .slice (some ⟨x0, 0, none⟩) 11 y0, .slice (some ⟨x1, 0, none⟩) n y1, .int .i64 s0, .int .i64 t1] 108 (0, 0)) by rw [← hw8]; exact hv8)
     have H48 := Lib.hid (show w8.heap[g4]? = some (.cells #[.int .u32 0, .slice none 0 0, .slice none 0 0, .int .i64 0, .int .i64 0] 108 (0, 0)) by rw [← hw8]; exact h48)
     have OP8 := Lib.hid (show w8.ownsRow w.heap.size 3 1 (.slice (some ⟨x0, 0, none⟩) 11 y0) 11 (nums .i64 pl) by rw [← hw8]; exact ho8)
     have OS8 := Lib.hid (show w8.ownsRow w.heap.size 3 1 (.slice (some ⟨x1, 0, none⟩) n y1) n (nums .i64 rest) by rw [← hw8]; exact hs8)
     have NE8 := Lib.hid (And.intro NE0.out.2.2.2.1 NS0.out.2.1)
     try rw [hw8]
     clear hw8 hm8 hv8 h48 ho8 k1 k3 k4 kf1 kf3 kf4 t2c s1 hs8
     have k0 : w8.cell? ⟨g7, 0, none⟩ = some (.int .u32 seq) := (blk_cell HV8.out 0).trans rfl
     have k1 : w8.cell? ⟨g7, 1, none⟩ = some (.slice (some ⟨x0, 0, none⟩) 11 y0) := (blk_cell HV8.out 1).trans rfl
     have k2 : w8.cell? ⟨g7, 2, none⟩ = some (.slice (some ⟨x1, 0, none⟩) n y1) := (blk_cell HV8.out 2).trans rfl
     have k3 : w8.cell? ⟨g7, 3, none⟩ = some (.int .i64 s0) := (blk_cell HV8.out 3).trans rfl
     have k4 : w8.cell? ⟨g7, 4, none⟩ = some (.int .i64 t1) := (blk_cell HV8.out 4).trans rfl
     have z0 : w8.cell? ⟨g4, 0, none⟩ = some (.int .u32 0) := (blk_cell H48.out 0).trans rfl
     have f0 := blk_frozen H48.out 0
     have z1 : w8.cell? ⟨g4, 1, none⟩ = some (.slice none 0 0) := (blk_cell H48.out 1).trans rfl
     have f1 := blk_frozen H48.out 1
     have z2 : w8.cell? ⟨g4, 2, none⟩ = some (.slice none 0 0) := (blk_cell H48.out 2).trans rfl
     have f2 := blk_frozen H48.out 2
     have z3 : w8.cell? ⟨g4, 3, none⟩ = some (.int .i64 0) := (blk_cell H48.out 3).trans rfl
     have f3 := blk_frozen H48.out 3
     have z4 : w8.cell? ⟨g4, 4, none⟩ = some (.int .i64 0) := (blk_cell H48.out 4).trans rfl
     have f4 := blk_frozen H48.out 4
     go_wp2_with fail
     have hz9 := put5 H48.out (.int .u32 seq) (.slice (some ⟨x0, 0, none⟩) 11 y0) (.slice (some ⟨x1, 0, none⟩) n y1) (.int .i64 s0) (.int .i64 t1)
     have hb9 := bel5 HB8.out HG4.out.1 (.int .u32 seq) (.slice (some ⟨x0, 0, none⟩) 11 y0) (.slice (some ⟨x1, 0, none⟩) n y1) (.int .i64 s0) (.int .i64 t1)
     have ho9 := own5 OP8.out NE8.out.1 (.int .u32 seq) (.slice (some ⟨x0, 0, none⟩) 11 y0) (.slice (some ⟨x1, 0, none⟩) n y1) (.int .i64 s0) (.int .i64 t1)
     have hs9 := own5 OS8.out NE8.out.2 (.int .u32 seq) (.slice (some ⟨x0, 0, none⟩) 11 y0) (.slice (some ⟨x1, 0, none⟩) n y1) (.int .i64 s0) (.int .i64 t1)
     obtain ⟨w9, hw9⟩ : ∃ w9, (((((w8.setCell ⟨g4, 0, none⟩ (.int .u32 seq)).setCell ⟨g4, 1, none⟩ (.slice (some ⟨x0, 0, none⟩) 11 y0)).setCell ⟨g4, 2, none⟩ (.slice (some ⟨x1, 0, none⟩) n y1)).setCell ⟨g4, 3, none⟩ (.int .i64 s0)).setCell ⟨g4, 4, none⟩ (.int .i64 t1)) = w9 := ⟨_, rfl⟩
     rw [hw9] at hz9 hb9 ho9 hs9 ⊢
     have c0 : w9.cell? ⟨g4, 0, none⟩ = some (.int .u32 seq) := (blk_cell hz9 0).trans rfl
     have c1 : w9.cell? ⟨g4, 1, none⟩ = some (.slice (some ⟨x0, 0, none⟩) 11 y0) := (blk_cell hz9 1).trans rfl
     have c2 : w9.cell? ⟨g4, 2, none⟩ = some (.slice (some ⟨x1, 0, none⟩) n y1) := (blk_cell hz9 2).trans rfl
     have c3 : w9.cell? ⟨g4, 3, none⟩ = some (.int .i64 s0) := (blk_cell hz9 3).trans rfl
     have c4 : w9.cell? ⟨g4, 4, none⟩ = some (.int .i64 t1) := (blk_cell hz9 4).trans rfl
     have HT9 : Hid (TbR w9 (fun k => w.heap.size ≤ k) #[.int .u32 seq, .slice (some ⟨x0, 0, none⟩) 11 y0, .slice (some ⟨x1, 0, none⟩) n y1, .int .i64 s0, .int .i64 t1] (Tb.take0 ⟨seq, pl, s0 :: rest, t0, t1⟩)) := Lib.hid (TbR.mk_ (T := Tb.take0 ⟨seq, pl, s0 :: rest, t0, t1⟩) n HNE.out YY8.out.1 YY8.out.2.1 HN3.out (own_reads' ho9) (own_reads' hs9) XX8.out.1 (fun x hx => by obtain rfl := Option.some.inj hx; exact XX8.out.2))
     refine bodyPost_ret (v := .tuple #[.agg #[.int .u32 seq, .slice (some ⟨x0, 0, none⟩) 11 y0, .slice (some ⟨x1, 0, none⟩) n y1, .int .i64 s0, .int .i64 t1], .int .i64 t0, .int .i64 0]) (by simp [results, Try.results41, go_sem, c0, c1, c2, c3, c4]) rfl ⟨hb9, .inr ⟨by simp, _, _, rfl, HT9.out, x0, y0, rfl, own_re ho9 XX8.out.1, own_ne_some NN8.out⟩⟩
    ·go_wp2_with fail
     go_region
     have hm8 : Below w.heap.size w (w'.setCell ⟨g7, 4, none⟩ (.int .i64 s0)) := bl_set BB0.out (p := ⟨g7, 4, none⟩) NE0.out.2.2.2.2.2.1 _
     have hv8 := blk_put HV0.out 4 (.int .i64 s0) (cs' := #[.int .u32 seq, .slice (some ⟨x0, 0, none⟩) 11 y0, .slice (some ⟨x1, 0, none⟩) n y1, .int .i64 t0, .int .i64 s0]) (by simp)
     have h48 := blk_far H40.out (p := ⟨g7, 4, none⟩) (Ne.symm NE0.out.2.1) (.int .i64 s0)
     have ho8 := own_setCell (p := ⟨g7, 4, none⟩) OP0.out (by simp [Value.ownBlock]; exact Ne.symm NE0.out.1) (.int .i64 s0)
     have hs8 := own_setCell (p := ⟨g7, 4, none⟩) OS0.out (by simp [Value.ownBlock]; exact Ne.symm NS0.out.1) (.int .i64 s0)
     obtain ⟨w8, hw8⟩ : ∃ w8, (w'.setCell ⟨g7, 4, none⟩ (.int .i64 s0)).drew = w8 := ⟨_, rfl⟩
     have HB8 := Lib.hid (show Below w.heap.size w w8 by rw [← hw8]; exact bl_drew hm8)
     have HV8 := Lib.hid (show w8.heap[g7]? = some (.cells #[.int .u32 seq, .slice (some ⟨x0, 0, none⟩) 11 y0, .slice (some ⟨x1, 0, none⟩) n y1, .int .i64 t0, .int .i64 s0] 108 (0, 0)) by rw [← hw8]; exact hv8)
     have H48 := Lib.hid (show w8.heap[g4]? = some (.cells #[.int .u32 0, .slice none 0 0, .slice none 0 0, .int .i64 0, .int .i64 0] 108 (0, 0)) by rw [← hw8]; exact h48)
     have OP8 := Lib.hid (show w8.ownsRow w.heap.size 3 1 (.slice (some ⟨x0, 0, none⟩) 11 y0) 11 (nums .i64 pl) by rw [← hw8]; exact ho8)
     have OS8 := Lib.hid (show w8.ownsRow w.heap.size 3 1 (.slice (some ⟨x1, 0, none⟩) n y1) n (nums .i64 rest) by rw [← hw8]; exact hs8)
     have NE8 := Lib.hid (And.intro NE0.out.2.2.2.1 NS0.out.2.1)
     try rw [hw8]
     clear hw8 hm8 hv8 h48 ho8 k1 k3 k4 kf1 kf3 kf4 t2c s1 hs8
     have k0 : w8.cell? ⟨g7, 0, none⟩ = some (.int .u32 seq) := (blk_cell HV8.out 0).trans rfl
     have k1 : w8.cell? ⟨g7, 1, none⟩ = some (.slice (some ⟨x0, 0, none⟩) 11 y0) := (blk_cell HV8.out 1).trans rfl
     have k2 : w8.cell? ⟨g7, 2, none⟩ = some (.slice (some ⟨x1, 0, none⟩) n y1) := (blk_cell HV8.out 2).trans rfl
     have k3 : w8.cell? ⟨g7, 3, none⟩ = some (.int .i64 t0) := (blk_cell HV8.out 3).trans rfl
     have k4 : w8.cell? ⟨g7, 4, none⟩ = some (.int .i64 s0) := (blk_cell HV8.out 4).trans rfl
     have z0 : w8.cell? ⟨g4, 0, none⟩ = some (.int .u32 0) := (blk_cell H48.out 0).trans rfl
     have f0 := blk_frozen H48.out 0
     have z1 : w8.cell? ⟨g4, 1, none⟩ = some (.slice none 0 0) := (blk_cell H48.out 1).trans rfl
     have f1 := blk_frozen H48.out 1
     have z2 : w8.cell? ⟨g4, 2, none⟩ = some (.slice none 0 0) := (blk_cell H48.out 2).trans rfl
     have f2 := blk_frozen H48.out 2
     have z3 : w8.cell? ⟨g4, 3, none⟩ = some (.int .i64 0) := (blk_cell H48.out 3).trans rfl
     have f3 := blk_frozen H48.out 3
     have z4 : w8.cell? ⟨g4, 4, none⟩ = some (.int .i64 0) := (blk_cell H48.out 4).trans rfl
     have f4 := blk_frozen H48.out 4
     go_wp2_with fail
     have hz9 := put5 H48.out (.int .u32 seq) (.slice (some ⟨x0, 0, none⟩) 11 y0) (.slice (some ⟨x1, 0, none⟩) n y1) (.int .i64 t0) (.int .i64 s0)
     have hb9 := bel5 HB8.out HG4.out.1 (.int .u32 seq) (.slice (some ⟨x0, 0, none⟩) 11 y0) (.slice (some ⟨x1, 0, none⟩) n y1) (.int .i64 t0) (.int .i64 s0)
     have ho9 := own5 OP8.out NE8.out.1 (.int .u32 seq) (.slice (some ⟨x0, 0, none⟩) 11 y0) (.slice (some ⟨x1, 0, none⟩) n y1) (.int .i64 t0) (.int .i64 s0)
     have hs9 := own5 OS8.out NE8.out.2 (.int .u32 seq) (.slice (some ⟨x0, 0, none⟩) 11 y0) (.slice (some ⟨x1, 0, none⟩) n y1) (.int .i64 t0) (.int .i64 s0)
     obtain ⟨w9, hw9⟩ : ∃ w9, (((((w8.setCell ⟨g4, 0, none⟩ (.int .u32 seq)).setCell ⟨g4, 1, none⟩ (.slice (some ⟨x0, 0, none⟩) 11 y0)).setCell ⟨g4, 2, none⟩ (.slice (some ⟨x1, 0, none⟩) n y1)).setCell ⟨g4, 3, none⟩ (.int .i64 t0)).setCell ⟨g4, 4, none⟩ (.int .i64 s0)) = w9 := ⟨_, rfl⟩
     rw [hw9] at hz9 hb9 ho9 hs9 ⊢
     have c0 : w9.cell? ⟨g4, 0, none⟩ = some (.int .u32 seq) := (blk_cell hz9 0).trans rfl
     have c1 : w9.cell? ⟨g4, 1, none⟩ = some (.slice (some ⟨x0, 0, none⟩) 11 y0) := (blk_cell hz9 1).trans rfl
     have c2 : w9.cell? ⟨g4, 2, none⟩ = some (.slice (some ⟨x1, 0, none⟩) n y1) := (blk_cell hz9 2).trans rfl
     have c3 : w9.cell? ⟨g4, 3, none⟩ = some (.int .i64 t0) := (blk_cell hz9 3).trans rfl
     have c4 : w9.cell? ⟨g4, 4, none⟩ = some (.int .i64 s0) := (blk_cell hz9 4).trans rfl
     have HT9 : Hid (TbR w9 (fun k => w.heap.size ≤ k) #[.int .u32 seq, .slice (some ⟨x0, 0, none⟩) 11 y0, .slice (some ⟨x1, 0, none⟩) n y1, .int .i64 t0, .int .i64 s0] (Tb.take1 ⟨seq, pl, s0 :: rest, t0, t1⟩)) := Lib.hid (TbR.mk_ (T := Tb.take1 ⟨seq, pl, s0 :: rest, t0, t1⟩) n HNE.out YY8.out.1 YY8.out.2.1 HN3.out (own_reads' ho9) (own_reads' hs9) XX8.out.1 (fun x hx => by obtain rfl := Option.some.inj hx; exact XX8.out.2))
     refine bodyPost_ret (v := .tuple #[.agg #[.int .u32 seq, .slice (some ⟨x0, 0, none⟩) 11 y0, .slice (some ⟨x1, 0, none⟩) n y1, .int .i64 t0, .int .i64 s0], .int .i64 t1, .int .i64 0]) (by simp [results, Try.results41, go_sem, c0, c1, c2, c3, c4]) rfl ⟨hb9, .inr ⟨by simp, _, _, rfl, HT9.out, x0, y0, rfl, own_re ho9 XX8.out.1, own_ne_some NN8.out⟩⟩
    ·have kv3 : decide (11 ≤ kb) = false := decide_eq_false (by omega)
     have kv4 : decide ((kb : Int) < 0) = false := decide_eq_false (by omega)
     obtain ⟨pv, hpv⟩ : ∃ pv, rd pl (kb : Int) = pv := ⟨_, rfl⟩
     obtain ⟨pc1, pc2⟩ := own_at OP0.out (kb : Int) (by omega) (by omega)
     rw [Int.toNat_natCast, hpv] at pc1
     rw [Int.toNat_natCast] at pc2
     have kI : (kb : Int) < 11 := by omega
     go_wp2_with fail
     go_region
     have ho8 := (own_store OP0.out (kb : Int) s0).1
     rw [Int.toNat_natCast] at ho8
     have hm8 : Below w.heap.size w (w'.setCell ⟨x0, kb, none⟩ (.int .i64 s0)) := bl_set BB0.out (p := ⟨x0, kb, none⟩) NE0.out.2.2.2.2.2.2 _
     have hv8 := blk_far HV0.out (p := ⟨x0, kb, none⟩) (Ne.symm NE0.out.1) (.int .i64 s0)
     have h48 := blk_far H40.out (p := ⟨x0, kb, none⟩) (Ne.symm NE0.out.2.2.2.1) (.int .i64 s0)
     have hs8 := own_setCell (p := ⟨x0, kb, none⟩) OS0.out (by simp [Value.ownBlock]; exact NS0.out.2.2.2) (.int .i64 s0)
     obtain ⟨w8, hw8⟩ : ∃ w8, (w'.setCell ⟨x0, kb, none⟩ (.int .i64 s0)).drew = w8 := ⟨_, rfl⟩
     have HB8 := Lib.hid (show Below w.heap.size w w8 by rw [← hw8]; exact bl_drew hm8)
     have HV8 := Lib.hid (show w8.heap[g7]? = some (.cells #[.int .u32 seq, .slice (some ⟨x0, 0, none⟩) 11 y0, .slice (some ⟨x1, 0, none⟩) n y1, .int .i64 t0, .int .i64 t1] 108 (0, 0)) by rw [← hw8]; exact hv8)
     have H48 := Lib.hid (show w8.heap[g4]? = some (.cells #[.int .u32 0, .slice none 0 0, .slice none 0 0, .int .i64 0, .int .i64 0] 108 (0, 0)) by rw [← hw8]; exact h48)
     have OP8 := Lib.hid (show w8.ownsRow w.heap.size 3 1 (.slice (some ⟨x0, 0, none⟩) 11 y0) 11 (nums .i64 (pl.set kb s0)) by rw [← hw8]; exact ho8)
     have OS8 := Lib.hid (show w8.ownsRow w.heap.size 3 1 (.slice (some ⟨x1, 0, none⟩) n y1) n (nums .i64 rest) by rw [← hw8]; exact hs8)
     have NE8 := Lib.hid (And.intro NE0.out.2.2.2.1 NS0.out.2.1)
     try rw [hw8]
     clear hw8 hm8 hv8 h48 ho8 k1 k3 k4 kf1 kf3 kf4 t2c s1 hs8 pc1 pc2
     have k0 : w8.cell? ⟨g7, 0, none⟩ = some (.int .u32 seq) := (blk_cell HV8.out 0).trans rfl
     have k1 : w8.cell? ⟨g7, 1, none⟩ = some (.slice (some ⟨x0, 0, none⟩) 11 y0) := (blk_cell HV8.out 1).trans rfl
     have k2 : w8.cell? ⟨g7, 2, none⟩ = some (.slice (some ⟨x1, 0, none⟩) n y1) := (blk_cell HV8.out 2).trans rfl
     have k3 : w8.cell? ⟨g7, 3, none⟩ = some (.int .i64 t0) := (blk_cell HV8.out 3).trans rfl
     have k4 : w8.cell? ⟨g7, 4, none⟩ = some (.int .i64 t1) := (blk_cell HV8.out 4).trans rfl
     have z0 : w8.cell? ⟨g4, 0, none⟩ = some (.int .u32 0) := (blk_cell H48.out 0).trans rfl
     have f0 := blk_frozen H48.out 0
     have z1 : w8.cell? ⟨g4, 1, none⟩ = some (.slice none 0 0) := (blk_cell H48.out 1).trans rfl
     have f1 := blk_frozen H48.out 1
     have z2 : w8.cell? ⟨g4, 2, none⟩ = some (.slice none 0 0) := (blk_cell H48.out 2).trans rfl
     have f2 := blk_frozen H48.out 2
     have z3 : w8.cell? ⟨g4, 3, none⟩ = some (.int .i64 0) := (blk_cell H48.out 3).trans rfl
     have f3 := blk_frozen H48.out 3
     have z4 : w8.cell? ⟨g4, 4, none⟩ = some (.int .i64 0) := (blk_cell H48.out 4).trans rfl
     have f4 := blk_frozen H48.out 4
     go_wp2_with fail
     have hz9 := put5 H48.out (.int .u32 seq) (.slice (some ⟨x0, 0, none⟩) 11 y0) (.slice (some ⟨x1, 0, none⟩) n y1) (.int .i64 t0) (.int .i64 t1)
     have hb9 := bel5 HB8.out HG4.out.1 (.int .u32 seq) (.slice (some ⟨x0, 0, none⟩) 11 y0) (.slice (some ⟨x1, 0, none⟩) n y1) (.int .i64 t0) (.int .i64 t1)
     have ho9 := own5 OP8.out NE8.out.1 (.int .u32 seq) (.slice (some ⟨x0, 0, none⟩) 11 y0) (.slice (some ⟨x1, 0, none⟩) n y1) (.int .i64 t0) (.int .i64 t1)
     have hs9 := own5 OS8.out NE8.out.2 (.int .u32 seq) (.slice (some ⟨x0, 0, none⟩) 11 y0) (.slice (some ⟨x1, 0, none⟩) n y1) (.int .i64 t0) (.int .i64 t1)
     obtain ⟨w9, hw9⟩ : ∃ w9, (((((w8.setCell ⟨g4, 0, none⟩ (.int .u32 seq)).setCell ⟨g4, 1, none⟩ (.slice (some ⟨x0, 0, none⟩) 11 y0)).setCell ⟨g4, 2, none⟩ (.slice (some ⟨x1, 0, none⟩) n y1)).setCell ⟨g4, 3, none⟩ (.int .i64 t0)).setCell ⟨g4, 4, none⟩ (.int .i64 t1)) = w9 := ⟨_, rfl⟩
     rw [hw9] at hz9 hb9 ho9 hs9 ⊢
     have c0 : w9.cell? ⟨g4, 0, none⟩ = some (.int .u32 seq) := (blk_cell hz9 0).trans rfl
     have c1 : w9.cell? ⟨g4, 1, none⟩ = some (.slice (some ⟨x0, 0, none⟩) 11 y0) := (blk_cell hz9 1).trans rfl
     have c2 : w9.cell? ⟨g4, 2, none⟩ = some (.slice (some ⟨x1, 0, none⟩) n y1) := (blk_cell hz9 2).trans rfl
     have c3 : w9.cell? ⟨g4, 3, none⟩ = some (.int .i64 t0) := (blk_cell hz9 3).trans rfl
     have c4 : w9.cell? ⟨g4, 4, none⟩ = some (.int .i64 t1) := (blk_cell hz9 4).trans rfl
     have HT9 : Hid (TbR w9 (fun k => w.heap.size ≤ k) #[.int .u32 seq, .slice (some ⟨x0, 0, none⟩) 11 y0, .slice (some ⟨x1, 0, none⟩) n y1, .int .i64 t0, .int .i64 t1] (Tb.takeV ⟨seq, pl, s0 :: rest, t0, t1⟩ kb)) := Lib.hid (TbR.mk_ (T := Tb.takeV ⟨seq, pl, s0 :: rest, t0, t1⟩ kb) n HNE.out YY8.out.1 YY8.out.2.1 HN3.out (own_reads' ho9) (own_reads' hs9) XX8.out.1 (fun x hx => by obtain rfl := Option.some.inj hx; exact XX8.out.2))
     refine bodyPost_ret (v := .tuple #[.agg #[.int .u32 seq, .slice (some ⟨x0, 0, none⟩) 11 y0, .slice (some ⟨x1, 0, none⟩) n y1, .int .i64 t0, .int .i64 t1], .int .i64 pv, .int .i64 0]) (by simp [results, Try.results41, go_sem, c0, c1, c2, c3, c4]) rfl ⟨hb9, .inr ⟨by simp, _, _, rfl, HT9.out, x0, y0, rfl, own_re ho9 XX8.out.1, own_ne_some NN8.out⟩⟩
theorem take_v (C : Array Value) (T : Tb) (N : Nat → Prop) (kb : Nat) (hb : kb < 11) (w : World) (h : TbR w N C T) : Calls Try.prog 41 #[.agg C, .int .i64 (kb : Int)] w (TakeQ w C T (T.takeV kb)) := take_any C T N _ _ (.inr (.inr ⟨kb, hb, rfl, rfl⟩)) w h
theorem take_0 (C : Array Value) (T : Tb) (N : Nat → Prop) (w : World) (h : TbR w N C T) : Calls Try.prog 41 #[.agg C, .int .i64 (-1)] w (TakeQ w C T (T.take0)) := take_any C T N _ _ (.inl ⟨rfl, rfl⟩) w h
theorem take_1 (C : Array Value) (T : Tb) (N : Nat → Prop) (w : World) (h : TbR w N C T) : Calls Try.prog 41 #[.agg C, .int .i64 (-2)] w (TakeQ w C T (T.take1)) := take_any C T N _ _ (.inr (.inl ⟨rfl, rfl⟩)) w h
end Go.Proofs.Ytffalemndjampaa
