import Derived.Test.YthmhbnpaalgdfaaCends
/-! The law CursorEnds: its walk. -/
set_option linter.unusedVariables false
set_option linter.unusedSimpArgs false
namespace Go.Proofs.Ythmhbnpaalgdfaa
open Go.RowKit Go.Proofs.YthmhbnpaalgdfaaW.PrintWords
theorem alloc3 (w : World) (c1 c2 c3 : Array Value) (t1 t2 t3 : TypeId) : (((w.alloc (.cells c1 t1)).alloc (.cells c2 t2)).alloc (.cells c3 t3)).heap[w.heap.size]? = some (.cells c1 t1 (0, 0)) ∧ (((w.alloc (.cells c1 t1)).alloc (.cells c2 t2)).alloc (.cells c3 t3)).heap[w.heap.size + 1]? = some (.cells c2 t2 (0, 0)) ∧
    (((w.alloc (.cells c1 t1)).alloc (.cells c2 t2)).alloc (.cells c3 t3)).heap[w.heap.size + 1 + 1]? = some (.cells c3 t3 (0, 0)) ∧ Below w.heap.size w (((w.alloc (.cells c1 t1)).alloc (.cells c2 t2)).alloc (.cells c3 t3)) ∧ (((w.alloc (.cells c1 t1)).alloc (.cells c2 t2)).alloc (.cells c3 t3)).heap.size = w.heap.size + 3 := by
  have h2 := heap_alloc_new (w.alloc (.cells c1 t1)) (.cells c2 t2)
  have h3 := heap_alloc_new ((w.alloc (.cells c1 t1)).alloc (.cells c2 t2)) (.cells c3 t3)
  simp only [World.size_alloc] at h2 h3
  exact ⟨blk_alloc (blk_alloc (heap_alloc_new w _) _) _, blk_alloc h2 _, h3, bl_alloc (bl_alloc (bl_alloc (Below.refl _ _) _) _) _, by simp⟩
theorem two (w : World) (c1 c2 : Array Value) (t1 t2 : TypeId) : ((w.alloc (.cells c1 t1)).alloc (.cells c2 t2)).heap[w.heap.size]? = some (.cells c1 t1 (0, 0)) ∧ ((w.alloc (.cells c1 t1)).alloc (.cells c2 t2)).heap[w.heap.size + 1]? = some (.cells c2 t2 (0, 0)) ∧ Below w.heap.size w ((w.alloc (.cells c1 t1)).alloc (.cells c2 t2)) ∧ ((w.alloc (.cells c1 t1)).alloc (.cells c2 t2)).heap.size = w.heap.size + 2 := by
  have h2 := heap_alloc_new (w.alloc (.cells c1 t1)) (.cells c2 t2)
  simp only [World.size_alloc] at h2
  exact ⟨blk_alloc (heap_alloc_new w _) _, h2, bl_alloc (bl_alloc (Below.refl _ _) _) _, by simp⟩
set_option maxHeartbeats 1000000 in
theorem endl_heavy (A Ak An : Option Addr) (m c nk ck nn cn : Nat) (w : World) (hm : m ≤ 9223372036854775807) (hk : nk ≤ 9223372036854775807) (hl : 500 < m ∨ 30 < nk) :
    Calls Try.prog 7 #[.slice A m c, .slice Ak nk ck, .slice An nn cn] w fun e w' => e = .returned (.bool true) ∧ Below w.heap.size w w' := by
  have h2 := two w #[.slice Ak nk ck] #[.slice An nn cn] 61 61
  have H2 := Lib.hid h2
  clear h2
  by_cases b2 : (500 : Int) < m
  · clear hl
    go_enter Try.func7, Try.ntmps7
    go_wp2_with fail
    refine (laid_any _).mono ?_
    rintro e w1 ⟨rfl, hb1⟩
    have zk : w1.cell? ⟨w.heap.size, 0, none⟩ = some (.slice Ak nk ck) := (blk_cell (blk_below H2.out.1 hb1) 0).trans rfl
    have T1 := Lib.hid (bl_seq H2.out.2.2.1 hb1)
    clear hb1
    go_wp2_with fail
    refine (laid_any _).mono ?_
    rintro e w2 ⟨rfl, hb2⟩
    have T2 := Lib.hid (bl_seq T1.out hb2)
    clear hb2
    go_wp2_with fail
    go_ret
    exact ⟨by simp, T2.out⟩
  · have b3 : (30 : Int) < nk := by omega
    clear hl
    go_enter Try.func7, Try.ntmps7
    go_wp2_with fail
    refine (laid_any _).mono ?_
    rintro e w1 ⟨rfl, hb1⟩
    have zk : w1.cell? ⟨w.heap.size, 0, none⟩ = some (.slice Ak nk ck) := (blk_cell (blk_below H2.out.1 hb1) 0).trans rfl
    have T1 := Lib.hid (bl_seq H2.out.2.2.1 hb1)
    clear hb1
    go_wp2_with fail
    refine (laid_any _).mono ?_
    rintro e w2 ⟨rfl, hb2⟩
    have T2 := Lib.hid (bl_seq T1.out hb2)
    clear hb2
    go_wp2_with fail
    go_ret
    exact ⟨by simp, T2.out⟩
/-- The reckoning ahead of the reading. -/
def okE (b ks ns : List Int) (i k : Nat) (o : Bool) : Prop := if o then runE b ks ns i = some k else runE b ks ns i = none
theorem okE_yes {b ks ns : List Int} {i k : Nat} {v n : Int} (h : okE b ks ns i k true) (hv : ks.getD i 0 = v) (hn : szE v ns[i]? b k = n) (h0 : 0 ≤ n) (h1 : n ≤ (b.length : Int) - k) : okE b ks ns (i + 1) (k + n.toNat) true := runE_yes h hv hn h0 h1
theorem okE_no {b ks ns : List Int} {i k : Nat} {v n : Int} (h : okE b ks ns i k true) (hv : ks.getD i 0 = v) (hn : szE v ns[i]? b k = n) (h1 : ¬ (0 ≤ n ∧ n ≤ (b.length : Int) - k)) : okE b ks ns (i + 1) k false := runE_no h hv hn h1
set_option maxHeartbeats 8000000 in
set_option maxRecDepth 100000 in
theorem endl_main (b ks ns : List Int) (A Ak An : Option Addr) (c ck cn : Nat) (w : World) (hb : ReadsInt w .u8 A b.length b) (hy : Byt b) (hc : b.length ≤ c) (hcc : c ≤ 9223372036854775807) (hk : ReadsInt w .i64 Ak ks.length ks) (hn : ReadsInt w .i64 An ns.length ns) (fA : ∀ a, A = some a → a.block < w.heap.size) (fK : ∀ a, Ak = some a → a.block < w.heap.size) (fN : ∀ a, An = some a → a.block < w.heap.size)
    (rn : ∀ x ∈ ns, -9223372036854775808 ≤ x ∧ x ≤ 9223372036854775807) (hm : b.length ≤ 500) (hkl : ks.length ≤ 30) :
    Calls Try.prog 7 #[.slice A b.length c, .slice Ak ks.length ck, .slice An ns.length cn] w fun e w' => e = .returned (.bool true) ∧ Below w.heap.size w w' := by
  have h2 := two w #[.slice Ak ks.length ck] #[.slice An ns.length cn] 61 61
  have H2 := Lib.hid h2
  have HA := Lib.hid (And.intro hb (And.intro hk hn))
  have HF := Lib.hid (And.intro fA (And.intro fK fN))
  have HY := Lib.hid hy
  have HN := Lib.hid rn
  have hmf := makeFunc_
  have b2 : ¬ (500 : Int) < b.length := by omega
  have b3 : ¬ (30 : Int) < ks.length := by omega
  have hnn := hn.2.1
  clear h2 hb hk hn fA fK fN hy rn
  go_enter Try.func7, Try.ntmps7
  go_wp2_with fail
  refine (laid_any _).mono ?_
  rintro e w1 ⟨rfl, hb1⟩
  have B1 := Lib.hid (And.intro (blk_below H2.out.1 hb1) (blk_below H2.out.2.1 hb1))
  have zk : w1.cell? ⟨w.heap.size, 0, none⟩ = some (.slice Ak ks.length ck) := (blk_cell B1.out.1 0).trans rfl
  have zn : w1.cell? ⟨w.heap.size + 1, 0, none⟩ = some (.slice An ns.length cn) := (blk_cell B1.out.2 0).trans rfl
  have T1 := Lib.hid (bl_seq H2.out.2.2.1 hb1)
  have hs1 : w.heap.size + 2 ≤ w1.heap.size := by have h_ := hb1.size; have h2 := H2.out.2.2.2; omega
  have OF := Lib.hid (And.intro (HA.out.1.below T1.out) (And.intro (HA.out.2.1.below T1.out) (HA.out.2.2.below T1.out)))
  clear hb1
  go_wp2_with fail
  go_loop [7, 8, 9] (fun a oo i' => ∃ (i k : Nat) (o : Bool), i ≤ ks.length ∧ k ≤ b.length ∧ a = .int .i64 (k : Int) ∧ oo = .bool o ∧ i' = .int .i64 (i : Int) ∧ Hid (okE b ks ns i k o)) (fun _ _ i' => ks.length - (intOf i').toNat)
  case atStart => exact ⟨0, 0, true, Nat.zero_le _, Nat.zero_le _, rfl, rfl, rfl, Lib.hid (show okE b ks ns 0 0 true from rfl)⟩
  case round =>
    obtain ⟨i, k, o, hik, hkm, rfl, rfl, rfl, HR⟩ := hrel
    cases o
    · by_cases hlt : i < ks.length
      all_goals
        have HR2 : Hid (runE b ks ns ks.length = none) := Lib.hid (runE_none (show runE b ks ns i = none from HR.out) _ hik)
        go_wp2_with fail
        have h3 := alloc3 w1 #[.int .i64 0] #[.int .i64 (-1)] #[.bool false] 3 3 4
        obtain ⟨W, hW⟩ : ∃ W, ((w1.alloc (.cells #[.int .i64 0] 3)).alloc (.cells #[.int .i64 (-1)] 3)).alloc (.cells #[.bool false] 4) = W := ⟨_, rfl⟩
        rw [hW] at h3 ⊢
        have HW := Lib.hid h3
        have hws := h3.2.2.2.2
        clear hW h3
        refine (read_mods A b.length c 31 #[.pointer (some ⟨w.heap.size, 0, none⟩), .pointer (some ⟨w.heap.size + 1, 0, none⟩), .pointer (some ⟨w1.heap.size, 0, none⟩), .pointer (some ⟨w1.heap.size + 1, 0, none⟩), .pointer (some ⟨w1.heap.size + 1 + 1, 0, none⟩)] W (fun i => i = w1.heap.size ∨ i = w1.heap.size + 1 ∨ i = w1.heap.size + 1 + 1)
          (fun w' => ∃ k : Nat, runE b ks ns ks.length = some k ∧ w'.heap[w1.heap.size]? = some (.cells #[.int .i64 (ks.length : Int)] 3 (0, 0)) ∧ w'.heap[w1.heap.size + 1]? = some (.cells #[.int .i64 ((b.length : Int) - k)] 3 (0, 0)) ∧ w'.heap[w1.heap.size + 1 + 1]? = some (.cells #[.bool ((b.drop k).all (· == 0))] 4 (0, 0)))
          (fun w' => runE b ks ns ks.length = none ∧ ∃ i : Nat, i < ks.length ∧ w'.heap[w1.heap.size]? = some (.cells #[.int .i64 (i : Int)] 3 (0, 0)) ∧ w'.heap[w1.heap.size + 1]? = some (.cells #[.int .i64 (-1)] 3 (0, 0)))
          Try.f31 Try.func31 (by kernel_rfl) (by kernel_rfl) (by rintro i (rfl | rfl | rfl) <;> omega)
          (fun wa wb h kk => by obtain ⟨k, h1, h2, h3, h4⟩ := h; exact ⟨k, h1, kk.blk h2 (by omega) (by simp), kk.blk h3 (by omega) (by simp), kk.blk h4 (by omega) (by simp)⟩)
          (fun wa wb h kk => by obtain ⟨h1, i, h2, h3, h4⟩ := h; exact ⟨h1, i, h2, kk.blk h3 (by omega) (by simp), kk.blk h4 (by omega) (by simp)⟩) ?_).mono ?_
        · intro w2 he hrd hbl hsz
          have EI : EIn b ks ns w2 (W.heap.size + 1) w.heap.size (w.heap.size + 1) w1.heap.size (w1.heap.size + 1) (w1.heap.size + 1 + 1) A Ak An b.length c ks.length ck ns.length cn :=
            ⟨(OF.out.1.below HW.out.2.2.2.1).below hbl, HY.out, hc, by omega, (OF.out.2.1.below HW.out.2.2.2.1).below hbl, (OF.out.2.2.below HW.out.2.2.2.1).below hbl, blk_below (blk_below B1.out.1 HW.out.2.2.2.1) hbl, blk_below (blk_below B1.out.2 HW.out.2.2.2.1) hbl, by
              rintro g (rfl | rfl | ⟨a, ha, rfl⟩ | ⟨a, ha, rfl⟩ | ⟨a, ha, rfl⟩)
              · omega
              · omega
              · have := HF.out.1 a ha; omega
              · have := HF.out.2.1 a ha; omega
              · have := HF.out.2.2 a ha; omega, by omega, HN.out⟩
          refine (ends1_any b ks ns w2 _ _ _ _ _ _ A Ak An _ _ _ _ _ _ EI ⟨hrd, Mods.refl _ _, blk_below HW.out.1 hbl, blk_below HW.out.2.1 hbl, blk_below HW.out.2.2.1 hbl⟩).mono ?_
          rintro e w' ⟨hM, ⟨he2, k, h1, h2, h3, h4⟩ | ⟨⟨q, he2⟩, h1, i, h2, h3, h4⟩⟩
          · exact ⟨hM, .inl ⟨he2, k, h1, h2, h3, h4⟩⟩
          · exact ⟨hM, .inr ⟨q, he2, h1, i, h2, h3, h4⟩⟩
        · rintro e w5 ⟨hM, ⟨_, k2, h1, _⟩ | ⟨rfl, _, j, h2, h3, h4⟩⟩
          · rw [HR2.out] at h1; cases h1
          · have T5 : Hid (Below w1.heap.size w1 w5) := Lib.hid (HW.out.2.2.2.1.trans (hM.below (B := w1.heap.size) (by omega) (by rintro i (rfl | rfl | rfl) <;> omega)))
            have zk5 : w5.cell? ⟨w.heap.size, 0, none⟩ = some (.slice Ak ks.length ck) := (blk_cell (blk_below B1.out.1 T5.out) 0).trans rfl
            have y1 : w5.cell? ⟨w1.heap.size, 0, none⟩ = some (.int .i64 (j : Int)) := (blk_cell h3 0).trans rfl
            have y2 : w5.cell? ⟨w1.heap.size + 1, 0, none⟩ = some (.int .i64 (-1)) := (blk_cell h4 0).trans rfl
            clear hM h3 h4
            go_wp2_with fail
            go_ret
            exact ⟨by first | (simp; done) | (simp; omega), bl_seq T1.out T5.out⟩
    · by_cases hlt : i < ks.length
      · obtain ⟨ad, he, hcl⟩ := OF.out.2.1.at_ (i : Int) (by omega) (by omega)
        rw [Int.toNat_natCast, rd_getD] at hcl
        obtain ⟨v, hv⟩ : ∃ v, ks.getD i 0 = v := ⟨_, rfl⟩
        rw [hv] at hcl
        have HV := Lib.hid hv
        obtain rfl := he
        clear hv
        by_cases hv : v = 1
        · obtain rfl : v = 1 := hv
          by_cases c1 : (1 : Int) ≤ (b.length : Int) - (k : Int)
          · have HR1 : Hid (okE b ks ns (i + 1) (k + 1) true) := Lib.hid (okE_yes (n := 1) HR.out HV.out (by simp [szE]) (by omega) c1)
            go_wp2_with fail
            go_round
            case rel => exact ⟨i + 1, k + 1, true, by omega, by omega, by go_num, rfl, by go_num, HR1⟩
            case measure => simp [intOf]; omega
          · have HR1 : Hid (okE b ks ns (i + 1) k false) := Lib.hid (okE_no (n := 1) HR.out HV.out (by simp [szE]) (by omega))
            go_wp2_with fail
            go_round
            case rel => exact ⟨i + 1, k, false, by omega, hkm, rfl, rfl, by go_num, HR1⟩
            case measure => simp [intOf]; omega
        have nv1 : (v == 1) = false := by simpa using hv
        have mv1 := Lib.hid hv
        clear hv
        by_cases hv : v = 2
        · obtain rfl : v = 2 := hv
          by_cases c1 : (2 : Int) ≤ (b.length : Int) - (k : Int)
          · have HR1 : Hid (okE b ks ns (i + 1) (k + 2) true) := Lib.hid (okE_yes (n := 2) HR.out HV.out (by simp [szE]) (by omega) c1)
            go_wp2_with fail
            go_round
            case rel => exact ⟨i + 1, k + 2, true, by omega, by omega, by go_num, rfl, by go_num, HR1⟩
            case measure => simp [intOf]; omega
          · have HR1 : Hid (okE b ks ns (i + 1) k false) := Lib.hid (okE_no (n := 2) HR.out HV.out (by simp [szE]) (by omega))
            go_wp2_with fail
            go_round
            case rel => exact ⟨i + 1, k, false, by omega, hkm, rfl, rfl, by go_num, HR1⟩
            case measure => simp [intOf]; omega
        have nv2 : (v == 2) = false := by simpa using hv
        have mv2 := Lib.hid hv
        clear hv
        by_cases hv : v = 4
        · obtain rfl : v = 4 := hv
          by_cases c1 : (4 : Int) ≤ (b.length : Int) - (k : Int)
          · have HR1 : Hid (okE b ks ns (i + 1) (k + 4) true) := Lib.hid (okE_yes (n := 4) HR.out HV.out (by simp [szE]) (by omega) c1)
            go_wp2_with fail
            go_round
            case rel => exact ⟨i + 1, k + 4, true, by omega, by omega, by go_num, rfl, by go_num, HR1⟩
            case measure => simp [intOf]; omega
          · have HR1 : Hid (okE b ks ns (i + 1) k false) := Lib.hid (okE_no (n := 4) HR.out HV.out (by simp [szE]) (by omega))
            go_wp2_with fail
            go_round
            case rel => exact ⟨i + 1, k, false, by omega, hkm, rfl, rfl, by go_num, HR1⟩
            case measure => simp [intOf]; omega
        have nv4 : (v == 4) = false := by simpa using hv
        have mv4 := Lib.hid hv
        clear hv
        by_cases hv : v = 8
        · obtain rfl : v = 8 := hv
          by_cases c1 : (8 : Int) ≤ (b.length : Int) - (k : Int)
          · have HR1 : Hid (okE b ks ns (i + 1) (k + 8) true) := Lib.hid (okE_yes (n := 8) HR.out HV.out (by simp [szE]) (by omega) c1)
            go_wp2_with fail
            go_round
            case rel => exact ⟨i + 1, k + 8, true, by omega, by omega, by go_num, rfl, by go_num, HR1⟩
            case measure => simp [intOf]; omega
          · have HR1 : Hid (okE b ks ns (i + 1) k false) := Lib.hid (okE_no (n := 8) HR.out HV.out (by simp [szE]) (by omega))
            go_wp2_with fail
            go_round
            case rel => exact ⟨i + 1, k, false, by omega, hkm, rfl, rfl, by go_num, HR1⟩
            case measure => simp [intOf]; omega
        have nv8 : (v == 8) = false := by simpa using hv
        have mv8 := Lib.hid hv
        clear hv
        by_cases hv : v = 3
        · obtain rfl : v = 3 := hv
          by_cases hn_ : i < ns.length
          · obtain ⟨an, hen, hcn⟩ := OF.out.2.2.at_ (i : Int) (by omega) (by omega)
            rw [Int.toNat_natCast, rd_getD] at hcn
            have hgn : ns[i]? = some (ns.getD i 0) := by rw [List.getD_eq_getElem?_getD, List.getElem?_eq_getElem hn_]; rfl
            have hri := HN.out (ns.getD i 0) (by rw [List.getD_eq_getElem?_getD, List.getElem?_eq_getElem hn_]; exact List.getElem_mem hn_)
            obtain ⟨nv, hnv⟩ : ∃ nv, ns.getD i 0 = nv := ⟨_, rfl⟩
            rw [hnv] at hcn hgn hri
            have HGN := Lib.hid hgn
            obtain rfl := hen
            clear hnv hgn
            by_cases c0 : (0 : Int) ≤ nv
            · by_cases c1 : nv ≤ (b.length : Int) - (k : Int)
              · obtain ⟨q, hq⟩ := Int.eq_ofNat_of_zero_le c0
                have HR1 : Hid (okE b ks ns (i + 1) (k + q) true) := Lib.hid (by have h_ := okE_yes (n := nv) HR.out HV.out (by rw [HGN.out]; simp [szE]) c0 c1; rwa [show (nv : Int).toNat = q by omega] at h_)
                have hkq : k + q ≤ b.length := by omega
                have HQ := Lib.hid hq
                clear hq
                go_wp2_with fail
                go_round
                case rel => exact ⟨i + 1, k + q, true, by omega, hkq, by have h_ := HQ.out; congr 1; omega, rfl, by go_num, HR1⟩
                case measure => simp [intOf]; omega
              · have HR1 : Hid (okE b ks ns (i + 1) k false) := Lib.hid (okE_no (n := nv) HR.out HV.out (by rw [HGN.out]; simp [szE]) (by omega))
                go_wp2_with fail
                go_round
                case rel => exact ⟨i + 1, k, false, by omega, hkm, rfl, rfl, by go_num, HR1⟩
                case measure => simp [intOf]; omega
            · have HR1 : Hid (okE b ks ns (i + 1) k false) := Lib.hid (okE_no (n := nv) HR.out HV.out (by rw [HGN.out]; simp [szE]) (by omega))
              go_wp2_with fail
              go_round
              case rel => exact ⟨i + 1, k, false, by omega, hkm, rfl, rfl, by go_num, HR1⟩
              case measure => simp [intOf]; omega
          · have hgn : ns[i]? = none := List.getElem?_eq_none (by omega)
            have HGN := Lib.hid hgn
            clear hgn
            have c1 : (0 : Int) ≤ (b.length : Int) - (k : Int) := by omega
            have HR1 : Hid (okE b ks ns (i + 1) (k + 0) true) := Lib.hid (okE_yes (n := 0) HR.out HV.out (by rw [HGN.out]; simp [szE]) (by omega) c1)
            clear c1
            go_wp2_with fail
            go_round
            case rel => exact ⟨i + 1, k + 0, true, by omega, by omega, by go_num, rfl, by go_num, HR1⟩
            case measure => simp [intOf]; omega
        have nv3 : (v == 3) = false := by simpa using hv
        have mv3 := Lib.hid hv
        clear hv
        by_cases hv : v = 5
        · obtain rfl : v = 5 := hv
          by_cases hkl : k < b.length
          · obtain ⟨ab, heb, hcb⟩ := OF.out.1.at_ (k : Int) (by omega) (by omega)
            rw [Int.toNat_natCast, rd_getD] at hcb
            have hbk := HY.out (b.getD k 0) (by rw [List.getD_eq_getElem?_getD, List.getElem?_eq_getElem hkl]; exact List.getElem_mem hkl)
            have hsz : szE 5 ns[i]? b k = 1 + b.getD k 0 := by simp only [szE]; rw [if_pos hkl]; rfl
            obtain ⟨x, hx⟩ : ∃ x, b.getD k 0 = x := ⟨_, rfl⟩
            rw [hx] at hcb hbk hsz
            obtain ⟨x0, x1⟩ := hbk
            have HSZ := Lib.hid hsz
            obtain rfl := heb
            clear hx hsz
            by_cases c0 : (0 : Int) ≤ 1 + x
            · by_cases c1 : 1 + x ≤ (b.length : Int) - (k : Int)
              · obtain ⟨q, hq⟩ := Int.eq_ofNat_of_zero_le c0
                have HR1 : Hid (okE b ks ns (i + 1) (k + q) true) := Lib.hid (by have h_ := okE_yes (n := 1 + x) HR.out HV.out HSZ.out c0 c1; rwa [show (1 + x : Int).toNat = q by omega] at h_)
                have hkq : k + q ≤ b.length := by omega
                have HQ := Lib.hid hq
                clear hq
                go_wp2_with fail
                go_round
                case rel => exact ⟨i + 1, k + q, true, by omega, hkq, by have h_ := HQ.out; congr 1; omega, rfl, by go_num, HR1⟩
                case measure => simp [intOf]; omega
              · have HR1 : Hid (okE b ks ns (i + 1) k false) := Lib.hid (okE_no (n := 1 + x) HR.out HV.out HSZ.out (by omega))
                go_wp2_with fail
                go_round
                case rel => exact ⟨i + 1, k, false, by omega, hkm, rfl, rfl, by go_num, HR1⟩
                case measure => simp [intOf]; omega
            · have HR1 : Hid (okE b ks ns (i + 1) k false) := Lib.hid (okE_no (n := 1 + x) HR.out HV.out HSZ.out (by omega))
              go_wp2_with fail
              go_round
              case rel => exact ⟨i + 1, k, false, by omega, hkm, rfl, rfl, by go_num, HR1⟩
              case measure => simp [intOf]; omega
          · have hsz : szE 5 ns[i]? b k = 1 := by simp only [szE]; rw [if_neg hkl]; rfl
            have HSZ := Lib.hid hsz
            clear hsz
            by_cases c1 : (1 : Int) ≤ (b.length : Int) - (k : Int)
            · have HR1 : Hid (okE b ks ns (i + 1) (k + 1) true) := Lib.hid (okE_yes (n := 1) HR.out HV.out HSZ.out (by omega) c1)
              go_wp2_with fail
              go_round
              case rel => exact ⟨i + 1, k + 1, true, by omega, by omega, by go_num, rfl, by go_num, HR1⟩
              case measure => simp [intOf]; omega
            · have HR1 : Hid (okE b ks ns (i + 1) k false) := Lib.hid (okE_no (n := 1) HR.out HV.out HSZ.out (by omega))
              go_wp2_with fail
              go_round
              case rel => exact ⟨i + 1, k, false, by omega, hkm, rfl, rfl, by go_num, HR1⟩
              case measure => simp [intOf]; omega
        have nv5 : (v == 5) = false := by simpa using hv
        have mv5 := Lib.hid hv
        clear hv
        have hs0 : szE v ns[i]? b k = 0 := by simp only [szE]; rw [if_neg mv1.out, if_neg mv2.out, if_neg mv4.out, if_neg mv8.out, if_neg mv3.out, if_neg mv5.out]
        have HSZ := Lib.hid hs0
        clear hs0
        have c1 : (0 : Int) ≤ (b.length : Int) - (k : Int) := by omega
        have HR1 : Hid (okE b ks ns (i + 1) (k + 0) true) := Lib.hid (okE_yes (n := 0) HR.out HV.out HSZ.out (by omega) c1)
        clear c1
        go_wp2_with fail
        go_round
        case rel => exact ⟨i + 1, k + 0, true, by omega, by omega, by go_num, rfl, by go_num, HR1⟩
        case measure => simp [intOf]; omega
      · obtain rfl : i = ks.length := by omega
        have HR2 : Hid (runE b ks ns ks.length = some k) := HR
        obtain ⟨i0, hi0, _, hs0, _⟩ := info_parts info5'
        obtain ⟨C, q1, q2, q3⟩ := print_drop_of (P := Try.prog) (Value.int .u8) 0 22 5 .i64 Try.underlying22 hi0 hs0 A c b (k : Int) (by omega) (by omega) hc
        rw [Int.toNat_natCast] at q1 q2 q3
        have Q2 := Lib.hid q2
        clear hi0 hs0 q2 q3
        go_wp2_with fail
        have h3 := alloc3 w1 #[.int .i64 0] #[.int .i64 (-1)] #[.bool false] 3 3 4
        obtain ⟨W, hW⟩ : ∃ W, ((w1.alloc (.cells #[.int .i64 0] 3)).alloc (.cells #[.int .i64 (-1)] 3)).alloc (.cells #[.bool false] 4) = W := ⟨_, rfl⟩
        rw [hW] at h3 ⊢
        have HW := Lib.hid h3
        have hws := h3.2.2.2.2
        clear hW h3
        refine (read_mods A b.length c 31 #[.pointer (some ⟨w.heap.size, 0, none⟩), .pointer (some ⟨w.heap.size + 1, 0, none⟩), .pointer (some ⟨w1.heap.size, 0, none⟩), .pointer (some ⟨w1.heap.size + 1, 0, none⟩), .pointer (some ⟨w1.heap.size + 1 + 1, 0, none⟩)] W (fun i => i = w1.heap.size ∨ i = w1.heap.size + 1 ∨ i = w1.heap.size + 1 + 1)
          (fun w' => ∃ k : Nat, runE b ks ns ks.length = some k ∧ w'.heap[w1.heap.size]? = some (.cells #[.int .i64 (ks.length : Int)] 3 (0, 0)) ∧ w'.heap[w1.heap.size + 1]? = some (.cells #[.int .i64 ((b.length : Int) - k)] 3 (0, 0)) ∧ w'.heap[w1.heap.size + 1 + 1]? = some (.cells #[.bool ((b.drop k).all (· == 0))] 4 (0, 0)))
          (fun w' => runE b ks ns ks.length = none ∧ ∃ i : Nat, i < ks.length ∧ w'.heap[w1.heap.size]? = some (.cells #[.int .i64 (i : Int)] 3 (0, 0)) ∧ w'.heap[w1.heap.size + 1]? = some (.cells #[.int .i64 (-1)] 3 (0, 0)))
          Try.f31 Try.func31 (by kernel_rfl) (by kernel_rfl) (by rintro i (rfl | rfl | rfl) <;> omega)
          (fun wa wb h kk => by obtain ⟨k, h1, h2, h3, h4⟩ := h; exact ⟨k, h1, kk.blk h2 (by omega) (by simp), kk.blk h3 (by omega) (by simp), kk.blk h4 (by omega) (by simp)⟩)
          (fun wa wb h kk => by obtain ⟨h1, i, h2, h3, h4⟩ := h; exact ⟨h1, i, h2, kk.blk h3 (by omega) (by simp), kk.blk h4 (by omega) (by simp)⟩) ?_).mono ?_
        · intro w2 he hrd hbl hsz
          have EI : EIn b ks ns w2 (W.heap.size + 1) w.heap.size (w.heap.size + 1) w1.heap.size (w1.heap.size + 1) (w1.heap.size + 1 + 1) A Ak An b.length c ks.length ck ns.length cn :=
            ⟨(OF.out.1.below HW.out.2.2.2.1).below hbl, HY.out, hc, by omega, (OF.out.2.1.below HW.out.2.2.2.1).below hbl, (OF.out.2.2.below HW.out.2.2.2.1).below hbl, blk_below (blk_below B1.out.1 HW.out.2.2.2.1) hbl, blk_below (blk_below B1.out.2 HW.out.2.2.2.1) hbl, by
              rintro g (rfl | rfl | ⟨a, ha, rfl⟩ | ⟨a, ha, rfl⟩ | ⟨a, ha, rfl⟩)
              · omega
              · omega
              · have := HF.out.1 a ha; omega
              · have := HF.out.2.1 a ha; omega
              · have := HF.out.2.2 a ha; omega, by omega, HN.out⟩
          refine (ends1_any b ks ns w2 _ _ _ _ _ _ A Ak An _ _ _ _ _ _ EI ⟨hrd, Mods.refl _ _, blk_below HW.out.1 hbl, blk_below HW.out.2.1 hbl, blk_below HW.out.2.2.1 hbl⟩).mono ?_
          rintro e w' ⟨hM, ⟨he2, k, h1, h2, h3, h4⟩ | ⟨⟨q, he2⟩, h1, i, h2, h3, h4⟩⟩
          · exact ⟨hM, .inl ⟨he2, k, h1, h2, h3, h4⟩⟩
          · exact ⟨hM, .inr ⟨q, he2, h1, i, h2, h3, h4⟩⟩
        · rintro e w5 ⟨hM, ⟨rfl, k2, h1, h2, h3, h4⟩ | ⟨_, h1, _⟩⟩
          · obtain rfl : k2 = k := Option.some.inj (h1.symm.trans HR2.out)
            have T5 : Hid (Below w1.heap.size w1 w5) := Lib.hid (HW.out.2.2.2.1.trans (hM.below (B := w1.heap.size) (by omega) (by rintro i (rfl | rfl | rfl) <;> omega)))
            have zk5 : w5.cell? ⟨w.heap.size, 0, none⟩ = some (.slice Ak ks.length ck) := (blk_cell (blk_below B1.out.1 T5.out) 0).trans rfl
            have y1 : w5.cell? ⟨w1.heap.size, 0, none⟩ = some (.int .i64 (ks.length : Int)) := (blk_cell h2 0).trans rfl
            have y2 : w5.cell? ⟨w1.heap.size + 1, 0, none⟩ = some (.int .i64 ((b.length : Int) - k2)) := (blk_cell h3 0).trans rfl
            obtain ⟨z, hz⟩ : ∃ z, (b.drop k2).all (· == 0) = z := ⟨_, rfl⟩
            rw [hz] at h4
            have y3 : w5.cell? ⟨w1.heap.size + 1 + 1, 0, none⟩ = some (.bool z) := (blk_cell h4 0).trans rfl
            have HZ := Lib.hid hz
            clear hM h1 h2 h3 h4 hz
            have HQ : Hid (∀ n, Calls Try.prog 36 #[.slice C (b.length - k2) (c - k2)] (w5.drewN n) (fun e w' => e = .returned (.bool z) ∧ ∃ m, w' = (w5.drewN n).drewN m)) := Lib.hid (fun n => by
              have h_ := rIsZero_any (b.drop k2) C (c - k2) (w5.drewN n) ((Q2.out w5 (HA.out.1.below (bl_seq T1.out T5.out))).drewN n)
              rw [List.length_drop, HZ.out] at h_
              exact h_.mono fun e w' ⟨he, hd⟩ => ⟨he, hd.out⟩)
            go_wp2_with fail
            go_quiet ((go_at_call 36; exact Calls.quiet_of (HQ.out _)))
            go_wp2_with fail
            go_ret
            exact ⟨by simp, bl_drewN (bl_seq T1.out T5.out) _⟩
          · rw [HR2.out] at h1; cases h1
theorem endl_walk (b ks ns : List Int) (A Ak An : Option Addr) (c ck cn : Nat) (w : World) (hb : ReadsInt w .u8 A b.length b) (hy : Byt b) (hc : b.length ≤ c) (hcc : c ≤ 9223372036854775807) (hk : ReadsInt w .i64 Ak ks.length ks) (hn : ReadsInt w .i64 An ns.length ns) (fA : ∀ a, A = some a → a.block < w.heap.size) (fK : ∀ a, Ak = some a → a.block < w.heap.size) (fN : ∀ a, An = some a → a.block < w.heap.size)
    (rn : ∀ x ∈ ns, -9223372036854775808 ≤ x ∧ x ≤ 9223372036854775807) :
    Calls Try.prog 7 #[.slice A b.length c, .slice Ak ks.length ck, .slice An ns.length cn] w fun e w' => e = .returned (.bool true) ∧ Below w.heap.size w w' := by
  by_cases h1 : b.length ≤ 500
  · by_cases h2 : ks.length ≤ 30
    · exact endl_main b ks ns A Ak An c ck cn w hb hy hc hcc hk hn fA fK fN rn h1 h2
    · exact endl_heavy A Ak An _ c _ ck _ cn w hb.2.1 hk.2.1 (.inr (by omega))
  · exact endl_heavy A Ak An _ c _ ck _ cn w hb.2.1 hk.2.1 (.inl (by omega))
end Go.Proofs.Ythmhbnpaalgdfaa
