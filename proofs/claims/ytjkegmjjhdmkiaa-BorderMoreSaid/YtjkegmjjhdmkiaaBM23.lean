/- The law BorderPairs, walked. -/
import Derived.Test.YtjkegmjjhdmkiaaBM19
import Derived.Test.YtjkegmjjhdmkiaaBM22
namespace Go.Proofs.Ytjkegmjjhdmkiaa
open Go.RowKit Go.Shelf
set_option maxHeartbeats 3200000
set_option maxRecDepth 100000
set_option linter.unusedSimpArgs false

theorem BoArg.below {w w' : World} {b : Bo} {fa sa : Option Addr} (h : BoArg w b fa sa) (hb : Below w.heap.size w w') : BoArg w' b fa sa := ⟨h.f.below hb (Nat.le_refl _), h.s.below hb (Nat.le_refl _), h.lf, h.ls⟩

theorem lawPairs_any (b : Bo) (fa sa : Option Addr) (fc sc : Nat) (w : World) (hb : BoArg0 w b fa sa) :
    Calls Try.prog 7 #[.agg #[.int .i64 b.e.lo, .int .i64 b.e.hi, .int .i64 b.n.lo, .int .i64 b.n.hi, .slice fa b.fs.length fc, .slice sa b.ss.length sc]] w fun e w' => e = .returned (.bool true) ∧ Below w.heap.size w w' := by
  have HB0 := Lib.hid hb
  clear hb
  go_enter Try.func7, Try.ntmps7
  go_wp2_with fail
  obtain ⟨W0, hW0⟩ : ∃ W, (w.alloc (.cells #[.int .i64 b.e.lo, .int .i64 b.e.hi, .int .i64 b.n.lo, .int .i64 b.n.hi, .slice fa b.fs.length fc, .slice sa b.ss.length sc] 26)) = W := ⟨_, rfl⟩
  rw [hW0]
  try simp only [Nat.add_assoc, Nat.reduceAdd]
  have hst_W0 : Steps (fun _ => False) w W0 := by rw [← hW0]; exact Steps.alloc _ w _
  have hz_W0 : W0.heap.size = w.heap.size + 1 := by rw [← hW0]; simp
  have g0_W0 : W0.heap[w.heap.size]? = some (.cells #[.int .i64 b.e.lo, .int .i64 b.e.hi, .int .i64 b.n.lo, .int .i64 b.n.hi, .slice fa b.fs.length fc, .slice sa b.ss.length sc] 26) := by rw [← hW0]; simp only [alloc_get, World.size_alloc]; repeat (first | exact if_pos trivial | exact if_pos (by omega) | rw [if_neg (by omega)])
  clear hW0
  have hb0 : Below w.heap.size w W0 := hst_W0.below (Nat.le_refl _) (fun _ _ h => h)
  refine (heavy_any b fa sa fc sc 5 60 W0 (HB0.out.below hb0)).mono ?_
  rintro e w1 ⟨rfl, hb1⟩
  have g1 := obj_later hb1 g0_W0
  replace hb0 := hb0.trans (hb1.mono hb0.size)
  clear hb1 g0_W0
  cases hh : heavyB b 5 60
  case true =>
    clear hh
    go_wp2_with fail
    refine (awake_any _).mono ?_
    rintro e w2 ⟨rfl, hb1⟩
    go_wp2
    go_ret
    exact ⟨rfl, hb0.trans (hb1.mono hb0.size)⟩
  have HB := Lib.hid (HB0.out.small hh)
  clear hh
  have c0 := cell_block g1 0
  have c1 := cell_block g1 1
  have c2 := cell_block g1 2
  have c3 := cell_block g1 3
  have c4 := cell_block g1 4
  have c5 := cell_block g1 5
  simp only [List.getElem?_toArray, List.getElem?_cons_zero, List.getElem?_cons_succ] at c0 c1 c2 c3 c4 c5
  go_wp2_with fail
  refine (border_any b fa sa fc sc _ (HB.out.below hb0)).mono ?_
  rintro e w2 ⟨rfl, hb1⟩
  have g2 := obj_later hb1 g1
  replace hb0 := hb0.trans (hb1.mono hb0.size)
  clear hb1 g1 c0 c1 c2 c3 c4 c5
  cases hok : b.ok
  case false =>
    clear hok
    go_wp2_with fail
    refine (awake_any _).mono ?_
    rintro e w3 ⟨rfl, hb1⟩
    go_wp2
    go_ret
    exact ⟨rfl, hb0.trans (hb1.mono hb0.size)⟩
  have HOK := Lib.hid hok
  clear hok
  have c0 := cell_block g2 0
  have c1 := cell_block g2 1
  have c2 := cell_block g2 2
  have c3 := cell_block g2 3
  have c4 := cell_block g2 4
  have c5 := cell_block g2 5
  simp only [List.getElem?_toArray, List.getElem?_cons_zero, List.getElem?_cons_succ] at c0 c1 c2 c3 c4 c5
  go_wp2_with fail
  refine (alone_any b fa sa fc sc _ (HB.out.below hb0)).mono ?_
  rintro e w3 ⟨he, hb1⟩
  have g3 := obj_later hb1 g2
  replace hb0 := hb0.trans (hb1.mono hb0.size)
  clear hb1 g2 c0 c1 c2 c3 c4 c5
  have c0 := cell_block g3 0
  have c1 := cell_block g3 1
  have c2 := cell_block g3 2
  have c3 := cell_block g3 3
  have c4 := cell_block g3 4
  have c5 := cell_block g3 5
  simp only [List.getElem?_toArray, List.getElem?_cons_zero, List.getElem?_cons_succ] at c0 c1 c2 c3 c4 c5
  by_cases hne : allOf b (sures b.fs) (sures b.ss) = []
  · have h1 : bAlone b = (0, 0, 4) := by simp [bAlone, HOK.out, hne]
    have h2 : bBest b = (none, 4) := by simp [bBest, HOK.out, hne, bestOf]
    rw [h1] at he
    simp only at he
    subst he
    have H2 := Lib.hid h2
    clear h1 h2 hne
    go_wp2_with fail
    refine (best_any b fa sa fc sc _ (HB.out.below hb0)).mono ?_
    rintro e w4 ⟨he, hb1⟩
    rw [H2.out] at he
    simp only [BestOut] at he
    subst he
    replace hb0 := hb0.trans (hb1.mono hb0.size)
    clear hb1
    go_wp2_with fail
    refine (awake_any _).mono ?_
    rintro e w5 ⟨rfl, hb1⟩
    go_wp2
    go_ret
    exact ⟨rfl, hb0.trans (hb1.mono hb0.size)⟩
  · have HJ := Lib.hid (allOf_jlist HOK.out hne)
    obtain ⟨y, hy⟩ : ∃ y, bestOf (allOf b (sures b.fs) (sures b.ss)) = some y := by
      cases hq : bestOf (allOf b (sures b.fs) (sures b.ss)) with
      | none => exact absurd (bestOf_none hq) hne
      | some y => exact ⟨y, rfl⟩
    have h1 : bAlone b = (andN (2 ^ b.fs.length - 1) (allFirst ((allOf b (sures b.fs) (sures b.ss)).map (·.2))), andN (2 ^ b.ss.length - 1) (allSecond ((allOf b (sures b.fs) (sures b.ss)).map (·.2))), 0) := by simp [bAlone, HOK.out, hne]
    have h2 : bBest b = (some y, 0) := by simp [bBest, HOK.out, hy]
    have hym := Lib.hid (bestOf_mem _ _ hy)
    have hpr := fun i (hi : i < b.fs.length) => show bPairs b (i : Int) = ((prsAt (allOf b (sures b.fs) (sures b.ss)) i).every, (prsAt (allOf b (sures b.fs) (sures b.ss)) i).some, 0) by
      have hr : (decide (0 ≤ (i : Int)) && decide ((i : Int) ≤ (b.fs.length : Int) - 1)) = true := by simp; omega
      simp only [bPairs, HOK.out, hne, hr, if_true, if_false, Int.toNat_natCast, prsAt]
    have HPR := Lib.hid hpr
    rw [h1] at he
    simp only at he
    have H2 := Lib.hid h2
    clear h1 h2 hne hy hpr
    generalize hL : allOf b (sures b.fs) (sures b.ss) = L at he HJ hym HPR
    clear hL
    obtain ⟨A1, hA1⟩ : ∃ x, andN (2 ^ b.fs.length - 1) (allFirst (L.map (·.2))) = x := ⟨_, rfl⟩
    obtain ⟨A2, hA2⟩ : ∃ x, andN (2 ^ b.ss.length - 1) (allSecond (L.map (·.2))) = x := ⟨_, rfl⟩
    rw [hA1, hA2] at he
    subst he
    have HA1 := Lib.hid hA1
    have HA2 := Lib.hid hA2
    clear hA1 hA2
    have hlens := bo_lens HOK.out
    have l1 : (b.fs.length : Int) ≤ 6 := by omega
    have l2 : (b.ss.length : Int) ≤ 6 := by omega
    go_wp2_with fail
    refine (best_any b fa sa fc sc _ (HB.out.below hb0)).mono ?_
    rintro e w4 ⟨he, hb1⟩
    rw [H2.out] at he
    simp only [BestOut] at he
    obtain ⟨q, cap, rfl, hI⟩ := he
    have g4 := obj_later hb1 g3
    replace hb0 := hb0.trans (hb1.mono hb0.size)
    clear hb1 g3 c0 c1 c2 c3 c4 c5
    have c0 := cell_block g4 0
    have c1 := cell_block g4 1
    have c2 := cell_block g4 2
    have c3 := cell_block g4 3
    have c4 := cell_block g4 4
    have c5 := cell_block g4 5
    simp only [List.getElem?_toArray, List.getElem?_cons_zero, List.getElem?_cons_succ] at c0 c1 c2 c3 c4 c5
    have hyl := HJ.out.len y hym.out
    have hlb : ((y.2.length : Int) != (b.fs.length : Int)) = false := by rw [hyl]; simp
    have HYL := Lib.hid hyl
    clear hyl
    have ha1 : A1 < 2 ^ b.fs.length := by rw [← HA1.out]; exact Nat.lt_of_le_of_lt Nat.and_le_left (by have := Nat.two_pow_pos b.fs.length; omega)
    have ha2 : A2 < 2 ^ b.ss.length := by rw [← HA2.out]; exact Nat.lt_of_le_of_lt Nat.and_le_left (by have := Nat.two_pow_pos b.ss.length; omega)
    have d1 : (A1 : Int) / 2 ^ b.fs.length = 0 := by rw [shr_u64, Nat.div_eq_of_lt ha1]; rfl
    have d2 : (A2 : Int) / 2 ^ b.ss.length = 0 := by rw [shr_u64, Nat.div_eq_of_lt ha2]; rfl
    go_upto_if 90 with fail
    go_wp2_with fail
    have hw4 := hb0.size
    have hg4 := (Array.getElem?_eq_some_iff.1 g4).1
    have hp2 : 2 ^ b.ss.length ≤ 2 ^ 6 := Nat.pow_le_pow_right (by omega) hlens.2
    have hp1 : 2 ^ b.fs.length ≤ 2 ^ 6 := Nat.pow_le_pow_right (by omega) hlens.1
    clear c0 c1 c2 c3 c4 c5 hlb d1 d2
    go_loopw [10, 11, 12, 13, 14, 94] (fun al _ _ _ _ i wr => ∃ k : Nat, k ≤ b.fs.length ∧ i = .int .i64 k ∧ al = .int .i64 (canTo L k) ∧ Below w4.heap.size w4 wr) (fun _ _ _ _ _ i _ => b.fs.length - (intOf i).toNat)
    case atStart => exact ⟨0, Nat.zero_le _, rfl, rfl, Below.refl _ _⟩
    case round =>
      rename_i wr
      obtain ⟨k, hk, rfl, rfl, hbr⟩ := hrel
      have hbw := hb0.trans (hbr.mono hw4)
      by_cases hlt : k < b.fs.length
      · have gr := obj_later hbr g4
        have hIr := hI.later (hbr.block _ hI.lt)
        have c0 := cell_block gr 0
        have c1 := cell_block gr 1
        have c2 := cell_block gr 2
        have c3 := cell_block gr 3
        have c4 := cell_block gr 4
        have c5 := cell_block gr 5
        simp only [List.getElem?_toArray, List.getElem?_cons_zero, List.getElem?_cons_succ] at c0 c1 c2 c3 c4 c5
        go_wp2_with fail
        refine (pairs_any b (k : Int) fa sa fc sc _ (HB.out.below hbw)).mono ?_
        rintro e w5 ⟨he, hb1⟩
        rw [HPR.out k hlt] at he
        simp only at he
        subst he
        have hb5 := hbr.trans (hb1.mono hbr.size)
        have hbw5 := hbw.trans (hb1.mono hbw.size)
        have g5 := obj_later hb1 gr
        have hI5 := hIr.later (hb1.block _ hIr.lt)
        clear hb1 c0 c1 c2 c3 c4 c5 gr hIr
        have c0 := cell_block g5 0
        have c1 := cell_block g5 1
        have c2 := cell_block g5 2
        have c3 := cell_block g5 3
        have c4 := cell_block g5 4
        have c5 := cell_block g5 5
        simp only [List.getElem?_toArray, List.getElem?_cons_zero, List.getElem?_cons_succ] at c0 c1 c2 c3 c4 c5
        have hcy := hI5.cell k (by rw [HYL.out]; exact hlt)
        have hyget : y.2[k]'(by rw [HYL.out]; exact hlt) = y.2.getD k (-1) := (getD_get _).symm
        rw [hyget] at hcy
        have hky : (k : Int) < y.2.length := by rw [HYL.out]; omega
        have hkf : (k : Int) < b.fs.length := by omega
        obtain ⟨bq, bo, hfa, hbql, hEd⟩ := (HB.out.f.below hbw5 (Nat.le_refl _)) k hlt
        have c6 := hEd.c6
        have hsa : (sures b.fs).testBit k = (b.fs[k]).sure := by unfold sures; rw [maskOf_testBit]; simp [hlt, sureAt]
        rw [← hsa] at c6
        subst hfa
        -- the laws
        have J := HJ.out
        have z1 := prsAt_lt J hlt
        have z2 := prsAt_sub J hlt
        have z3 := prsAt_one J hlt
        have z4 := allFirst_at J k hlt
        have z5 := prsAt_sure J hlt
        have z8 := fun h => J.fsure y hym.out k hlt h
        have z6 := fun h => prsAt_best J hlt hym.out h
        have z7 := fun h => prsAt_none J hlt hym.out h
        have hnext : canTo L (k + 1) = canTo L k ||| (prsAt L k).some := rfl
        have hcl := canTo_lt J k hk
        generalize (prsAt L k).every = E1 at z1 z2 z3 z5 z6 z7 ⊢
        generalize (prsAt L k).some = E2 at z1 z2 z4 z5 z6 hnext ⊢
        generalize (sures b.fs).testBit k = s at c6 z5 z8
        generalize y.2.getD k (-1) = yk at hcy z6 z7 z8
        clear hyget hsa hEd J
        obtain ⟨z11, z12⟩ := z1
        have b1 : E1 < 64 := by omega
        have b2 : E2 < 64 := by omega
        have b3 : canTo L k < 64 := by omega
        have t1 : (E2 : Int) / 2 ^ b.ss.length = 0 := by rw [shr_u64, Nat.div_eq_of_lt z12]; rfl
        have t2 : bits .andNot .i64 (E1 : Int) (E2 : Int) = 0 := by rw [andNotI _ _ b1 b2, z2]; rfl
        have t3 : bits .and .i64 (E1 : Int) ((E1 : Int) - 1) = 0 := (singleI E1 b1).2 (z3.imp id (fun ⟨j, hj, h, _⟩ => ⟨j, by omega, h⟩))
        have t4 : bits .or .i64 (canTo L k : Int) (E2 : Int) = ((canTo L (k + 1) : Nat) : Int) := by rw [orI _ _ b3 b2, hnext]
        have hA1b : A1.testBit k = !((allFirst (L.map (·.2))).testBit k) := by
          rw [← HA1.out, andN_testBit _ _ k (Nat.lt_of_lt_of_le (allFirst_lt (N := 6) _ (fun x hx => by
            obtain ⟨z, hz, rfl⟩ := List.mem_map.1 hx
            rw [HJ.out.len z hz]; exact hlens.1)) (by decide)) (by omega), Nat.testBit_two_pow_sub_one]
          simp [hlt]
        have ha1' : A1 < 64 := by omega
        have t5 := bitI A1 k ha1'
        have HN := Lib.hid hnext
        have HZ3 := Lib.hid z3
        have HZ5 := Lib.hid z5
        have HZ6 := Lib.hid z6
        have HZ7 := Lib.hid z7
        have HZ8 := Lib.hid z8
        clear hnext z3 z5 z6 z7 z8 z2
        have u0 : (bits BinOp.and IntKind.i64 0 (-1) != 0) = false := by kernel_rfl
        have u9 : 0 ≤ (E2 : Int) := by omega
        have u8 : 0 ≤ (E1 : Int) := by omega
        by_cases hE2 : E2 = 0
        · have hbit : A1.testBit k = true := by
            rw [hA1b]
            cases hq : (allFirst (L.map (·.2))).testBit k
            · rfl
            · exact absurd hE2 (z4.1 hq)
          have hyk : yk = -1 := by
            apply Classical.byContradiction
            intro h
            obtain ⟨n, _, _, h3, _⟩ := HZ6.out h
            rw [hE2] at h3
            simp at h3
          have hs : s = false := by
            cases s
            · rfl
            · exact absurd hE2 (HZ5.out rfl).1
          have hE1 : E1 = 0 := HZ7.out hyk
          subst hE2 hyk hs hE1
          rw [hbit] at t5
          simp only [if_true] at t5
          simp only [Int.natCast_zero] at t1 t2 t4
          clear hbit hA1b z4
          go_wp2_with fail
          go_roundw
          case rel => exact ⟨k + 1, by omega, by go_num, rfl, hb5⟩
          case measure => simp [intOf]; omega
        · have hbit : A1.testBit k = false := by
            rw [hA1b, z4.2 hE2]; rfl
          rw [hbit] at t5
          simp only [Bool.false_eq_true, if_false] at t5
          have u1 : ((E2 : Int) == 0) = false := by simp; omega
          have HE2 := Lib.hid hE2
          clear hbit hA1b z4 hE2
          by_cases hyk : yk = -1
          · have hs : s = false := by
              cases s
              · rfl
              · exact absurd hyk (HZ8.out rfl)
            have hE1 : E1 = 0 := HZ7.out hyk
            subst hyk hs hE1
            simp only [Int.natCast_zero] at t2 t3
            go_wp2_with fail
            go_roundw
            case rel => exact ⟨k + 1, by omega, by go_num, rfl, hb5⟩
            case measure => simp [intOf]; omega
          · obtain ⟨n, hn, hyn, hbn, hE1⟩ := HZ6.out hyk
            subst hyn
            have t6 := bitI E2 n b2
            rw [hbn] at t6
            simp only [if_true] at t6
            have t7 := powI n (by omega)
            have hn6 : (n : Int) < 64 := by omega
            have hn0 : ((n : Int) == -1) = false := by simp
            have hn1 : ((n : Int) != -1) = true := by simp
            have hpos := Nat.two_pow_pos n
            have hpn : 2 ^ n ≤ 2 ^ 6 := Nat.pow_le_pow_right (by omega) (by omega)
            obtain ⟨x, hx⟩ : ∃ x, 2 ^ n = x := ⟨_, rfl⟩
            rw [hx] at t7 hE1 hpos hpn
            rcases hE1 with hE1 | hE1
            · subst hE1
              simp only [Int.natCast_zero] at t2 t3
              cases s
              · go_wp2_with fail
                go_roundw
                case rel => exact ⟨k + 1, by omega, by go_num, rfl, hb5⟩
                case measure => simp [intOf]; omega
              · have hsg : bits .and .i64 (E2 : Int) ((E2 : Int) - 1) ≠ 0 := fun h => by
                  rcases (singleI E2 b2).1 h with h | ⟨j, _, h⟩
                  · exact HE2.out h
                  · have := (HZ5.out rfl).2 j h
                    have := Nat.two_pow_pos j
                    omega
                have hsg' : (bits .and .i64 (E2 : Int) ((E2 : Int) - 1) == 0) = false := by simpa using hsg
                clear hsg
                go_wp2_with fail
                go_roundw
                case rel => exact ⟨k + 1, by omega, by go_num, rfl, hb5⟩
                case measure => simp [intOf]; omega
            · subst hE1
              have v1 : ((E1 : Int) != 0) = true := by simp; omega
              have v2 : ((E1 : Int) == 0) = false := by simp; omega
              cases s
              · go_wp2_with fail
                go_roundw
                case rel => exact ⟨k + 1, by omega, by go_num, rfl, hb5⟩
                case measure => simp [intOf]; omega
              · by_cases hsg : bits .and .i64 (E2 : Int) ((E2 : Int) - 1) = 0
                · have hsg' : (bits .and .i64 (E2 : Int) ((E2 : Int) - 1) == 0) = true := by simpa using hsg
                  have he12 : E1 = E2 := by
                    rcases (singleI E2 b2).1 hsg with h | ⟨j, _, h⟩
                    · exact absurd h HE2.out
                    · rw [h]; exact (HZ5.out rfl).2 j h
                  have hen : ((E1 : Int) != (E2 : Int)) = false := by rw [he12]; simp
                  clear hsg he12
                  go_wp2_with fail
                  go_roundw
                  case rel => exact ⟨k + 1, by omega, by go_num, rfl, hb5⟩
                  case measure => simp [intOf]; omega
                · have hsg' : (bits .and .i64 (E2 : Int) ((E2 : Int) - 1) == 0) = false := by simpa using hsg
                  clear hsg
                  go_wp2_with fail
                  go_roundw
                  case rel => exact ⟨k + 1, by omega, by go_num, rfl, hb5⟩
                  case measure => simp [intOf]; omega
      · obtain rfl : k = b.fs.length := by omega
        have gr := obj_later hbr g4
        have c0 := cell_block gr 0
        have c1 := cell_block gr 1
        have c2 := cell_block gr 2
        have c3 := cell_block gr 3
        have c4 := cell_block gr 4
        have c5 := cell_block gr 5
        simp only [List.getElem?_toArray, List.getElem?_cons_zero, List.getElem?_cons_succ] at c0 c1 c2 c3 c4 c5
        have hz1 := canTo_all HJ.out
        have hcl := canTo_lt HJ.out b.fs.length (Nat.le_refl _)
        have hz2 := sure_second HJ.out
        rw [← hz1, ← hz1.symm] at hz2
        have hA2 := HA2.out
        rw [← hz1] at hA2
        have hz3 : A2 &&& sures b.ss = 0 := by rw [← hA2, hz1]; exact sure_second HJ.out
        have hpos := Nat.two_pow_pos b.ss.length
        have hcn := andNotI (2 ^ b.ss.length - 1) (canTo L b.fs.length) (by omega) (by omega)
        rw [hA2] at hcn
        have hpw := powI b.ss.length hlens.2
        have hsures := sures_lt b.ss
        have hand := andI A2 (sures b.ss) (by omega) (by omega)
        rw [hz3] at hand
        have hns6 : (b.ss.length : Int) < 64 := by omega
        clear hz1 hz2 hz3 hA2
        obtain ⟨x, hx⟩ : ∃ x, 2 ^ b.ss.length = x := ⟨_, rfl⟩
        rw [hx] at hcn hpos hp2 hpw
        have hx1 : ((x : Int) - 1) = ((x - 1 : Nat) : Int) := by omega
        rw [← hx1] at hcn
        simp only [Int.natCast_zero] at hand
        clear hx1 hx ha2 ha1 hsures hcl
        go_wp2_with fail
        refine (rsures_any sa sc b.ss _ hlens.2 (HB.out.s.below hbw (Nat.le_refl _))).mono ?_
        rintro e w6 ⟨rfl, rfl⟩
        go_wp2_with fail
        refine (awake_any _).mono ?_
        rintro e w7 ⟨rfl, hb1⟩
        go_wp2
        go_ret
        exact ⟨rfl, hbw.trans (hb1.mono hbw.size)⟩
end Go.Proofs.Ytjkegmjjhdmkiaa
