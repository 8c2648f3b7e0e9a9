/- The law BorderPairs, walked. The law BorderBest: is a list a joining; is a number in a span; how many pairs has a list. The document's answer: which stars can be the same; is it a shift; is a number in a list. The document's answer: rows of lists that a call collects. The document's joinings, plain: the same lists. The document's joinings, walked: where all stars of the first zone are put. -/
import Derived.Test.YtjkegmjjhdmkiaaBU19
import Derived.Test.YtjkegmjjhdmkiaaBU23
namespace Go.Proofs.Ytjkegmjjhdmkiaa
open Go.RowKit Go.Shelf
set_option maxHeartbeats 3200000
set_option maxRecDepth 100000
set_option linter.unusedSimpArgs false

theorem BoArg.below {w w' : World} {b : Bo} {fa sa : Option Addr} (h : BoArg w b fa sa) (hb : Below w.heap.size w w') : BoArg w' b fa sa := ⟨h.f.below hb (Nat.le_refl _), h.s.below hb (Nat.le_refl _), h.lf, h.ls⟩

theorem lawPairs_any (b : Bo) (fa sa : Option Addr) (fc sc : Nat) (w : World) (hb : BoArg0 w b fa sa) :
    Calls Try.prog 7 #[.agg #[.int .i64 b.e.lo, .int .i64 b.e.hi, .int .i64 b.n.lo, .int .i64 b.n.hi, .slice fa b.fs.length fc, .slice sa b.ss.length sc]] w fun e w' => e = .returned (.bool true) ∧ Below w.heap.size w w' := by
  have HB0 := Lib.hid hb
  clear hb
  go_enter Try.func7, Try.ntmps7
  go_wp2_with fail
  obtain ⟨W0, hW0⟩ : ∃ W, (w.alloc (.cells #[.int .i64 b.e.lo, .int .i64 b.e.hi, .int .i64 b.n.lo, .int .i64 b.n.hi, .slice fa b.fs.length fc, .slice sa b.ss.length sc] 26)) = W := ⟨_, rfl⟩
  rw [hW0]
  try simp only [Nat.add_assoc, Nat.reduceAdd]
  have hst_W0 : Steps (fun _ => False) w W0 := by rw [← hW0]; exact Steps.alloc _ w _
  have hz_W0 : W0.heap.size = w.heap.size + 1 := by rw [← hW0]; simp
  have g0_W0 : W0.heap[w.heap.size]? = some (.cells #[.int .i64 b.e.lo, .int .i64 b.e.hi, .int .i64 b.n.lo, .int .i64 b.n.hi, .slice fa b.fs.length fc, .slice sa b.ss.length sc] 26) := by rw [← hW0]; simp only [alloc_get, World.size_alloc]; repeat (first | exact if_pos trivial | exact if_pos (by omega) | rw [if_neg (by omega)])
  clear hW0
  have hb0 : Below w.heap.size w W0 := hst_W0.below (Nat.le_refl _) (fun _ _ h => h)
  refine (heavy_any b fa sa fc sc 5 60 W0 (HB0.out.below hb0)).mono ?_
  rintro e w1 ⟨rfl, hb1⟩
  have g1 := obj_later hb1 g0_W0
  replace hb0 := hb0.trans (hb1.mono hb0.size)
  clear hb1 g0_W0
  cases hh : heavyB b 5 60
  case true =>
    clear hh
    go_wp2_with fail
    refine (awake_any _).mono ?_
    rintro e w2 ⟨rfl, hb1⟩
    go_wp2
    go_ret
    exact ⟨rfl, hb0.trans (hb1.mono hb0.size)⟩
  have HB := Lib.hid (HB0.out.small hh)
  clear hh
  have c0 := cell_block g1 0
  have c1 := cell_block g1 1
  have c2 := cell_block g1 2
  have c3 := cell_block g1 3
  have c4 := cell_block g1 4
  have c5 := cell_block g1 5
  simp only [List.getElem?_toArray, List.getElem?_cons_zero, List.getElem?_cons_succ] at c0 c1 c2 c3 c4 c5
  go_wp2_with fail
  refine (border_any b fa sa fc sc _ (HB.out.below hb0)).mono ?_
  rintro e w2 ⟨rfl, hb1⟩
  have g2 := obj_later hb1 g1
  replace hb0 := hb0.trans (hb1.mono hb0.size)
  clear hb1 g1 c0 c1 c2 c3 c4 c5
  cases hok : b.ok
  case false =>
    clear hok
    go_wp2_with fail
    refine (awake_any _).mono ?_
    rintro e w3 ⟨rfl, hb1⟩
    go_wp2
    go_ret
    exact ⟨rfl, hb0.trans (hb1.mono hb0.size)⟩
  have HOK := Lib.hid hok
  clear hok
  have c0 := cell_block g2 0
  have c1 := cell_block g2 1
  have c2 := cell_block g2 2
  have c3 := cell_block g2 3
  have c4 := cell_block g2 4
  have c5 := cell_block g2 5
  simp only [List.getElem?_toArray, List.getElem?_cons_zero, List.getElem?_cons_succ] at c0 c1 c2 c3 c4 c5
  go_wp2_with fail
  refine (alone_any b fa sa fc sc _ (HB.out.below hb0)).mono ?_
  rintro e w3 ⟨he, hb1⟩
  have g3 := obj_later hb1 g2
  replace hb0 := hb0.trans (hb1.mono hb0.size)
  clear hb1 g2 c0 c1 c2 c3 c4 c5
  have c0 := cell_block g3 0
  have c1 := cell_block g3 1
  have c2 := cell_block g3 2
  have c3 := cell_block g3 3
  have c4 := cell_block g3 4
  have c5 := cell_block g3 5
  simp only [List.getElem?_toArray, List.getElem?_cons_zero, List.getElem?_cons_succ] at c0 c1 c2 c3 c4 c5
  by_cases hne : allOf b (sures b.fs) (sures b.ss) = []
  · have h1 : bAlone b = (0, 0, 4) := by simp [bAlone, HOK.out, hne]
    have h2 : bBest b = (none, 4) := by simp [bBest, HOK.out, hne, bestOf]
    rw [h1] at he
    simp only at he
    subst he
    have H2 := Lib.hid h2
    clear h1 h2 hne
    go_wp2_with fail
    refine (best_any b fa sa fc sc _ (HB.out.below hb0)).mono ?_
    rintro e w4 ⟨he, hb1⟩
    rw [H2.out] at he
    simp only [BestOut] at he
    subst he
    replace hb0 := hb0.trans (hb1.mono hb0.size)
    clear hb1
    go_wp2_with fail
    refine (awake_any _).mono ?_
    rintro e w5 ⟨rfl, hb1⟩
    go_wp2
    go_ret
    exact ⟨rfl, hb0.trans (hb1.mono hb0.size)⟩
  · have HJ := Lib.hid (allOf_jlist HOK.out hne)
    obtain ⟨y, hy⟩ : ∃ y, bestOf (allOf b (sures b.fs) (sures b.ss)) = some y := by
      cases hq : bestOf (allOf b (sures b.fs) (sures b.ss)) with
      | none => exact absurd (bestOf_none hq) hne
      | some y => exact ⟨y, rfl⟩
    have h1 : bAlone b = (andN (2 ^ b.fs.length - 1) (allFirst ((allOf b (sures b.fs) (sures b.ss)).map (·.2))), andN (2 ^ b.ss.length - 1) (allSecond ((allOf b (sures b.fs) (sures b.ss)).map (·.2))), 0) := by simp [bAlone, HOK.out, hne]
    have h2 : bBest b = (some y, 0) := by simp [bBest, HOK.out, hy]
    have hym := Lib.hid (bestOf_mem _ _ hy)
    have hpr := fun i (hi : i < b.fs.length) => show bPairs b (i : Int) = ((prsAt (allOf b (sures b.fs) (sures b.ss)) i).every, (prsAt (allOf b (sures b.fs) (sures b.ss)) i).some, 0) by
      have hr : (decide (0 ≤ (i : Int)) && decide ((i : Int) ≤ (b.fs.length : Int) - 1)) = true := by simp; omega
      simp only [bPairs, HOK.out, hne, hr, if_true, if_false, Int.toNat_natCast, prsAt]
    have HPR := Lib.hid hpr
    rw [h1] at he
    simp only at he
    have H2 := Lib.hid h2
    clear h1 h2 hne hy hpr
    generalize hL : allOf b (sures b.fs) (sures b.ss) = L at he HJ hym HPR
    clear hL
    obtain ⟨A1, hA1⟩ : ∃ x, andN (2 ^ b.fs.length - 1) (allFirst (L.map (·.2))) = x := ⟨_, rfl⟩
    obtain ⟨A2, hA2⟩ : ∃ x, andN (2 ^ b.ss.length - 1) (allSecond (L.map (·.2))) = x := ⟨_, rfl⟩
    rw [hA1, hA2] at he
    subst he
    have HA1 := Lib.hid hA1
    have HA2 := Lib.hid hA2
    clear hA1 hA2
    have hlens := bo_lens HOK.out
    have l1 : (b.fs.length : Int) ≤ 6 := by omega
    have l2 : (b.ss.length : Int) ≤ 6 := by omega
    go_wp2_with fail
    refine (best_any b fa sa fc sc _ (HB.out.below hb0)).mono ?_
    rintro e w4 ⟨he, hb1⟩
    rw [H2.out] at he
    simp only [BestOut] at he
    obtain ⟨q, cap, rfl, hI⟩ := he
    have g4 := obj_later hb1 g3
    replace hb0 := hb0.trans (hb1.mono hb0.size)
    clear hb1 g3 c0 c1 c2 c3 c4 c5
    have c0 := cell_block g4 0
    have c1 := cell_block g4 1
    have c2 := cell_block g4 2
    have c3 := cell_block g4 3
    have c4 := cell_block g4 4
    have c5 := cell_block g4 5
    simp only [List.getElem?_toArray, List.getElem?_cons_zero, List.getElem?_cons_succ] at c0 c1 c2 c3 c4 c5
    have hyl := HJ.out.len y hym.out
    have hlb : ((y.2.length : Int) != (b.fs.length : Int)) = false := by rw [hyl]; simp
    have HYL := Lib.hid hyl
    clear hyl
    have ha1 : A1 < 2 ^ b.fs.length := by rw [← HA1.out]; exact Nat.lt_of_le_of_lt Nat.and_le_left (by have := Nat.two_pow_pos b.fs.length; omega)
    have ha2 : A2 < 2 ^ b.ss.length := by rw [← HA2.out]; exact Nat.lt_of_le_of_lt Nat.and_le_left (by have := Nat.two_pow_pos b.ss.length; omega)
    have d1 : (A1 : Int) / 2 ^ b.fs.length = 0 := by rw [shr_u64, Nat.div_eq_of_lt ha1]; rfl
    have d2 : (A2 : Int) / 2 ^ b.ss.length = 0 := by rw [shr_u64, Nat.div_eq_of_lt ha2]; rfl
    go_upto_if 90 with fail
    go_wp2_with fail
    have hw4 := hb0.size
    have hg4 := (Array.getElem?_eq_some_iff.1 g4).1
    have hp2 : 2 ^ b.ss.length ≤ 2 ^ 6 := Nat.pow_le_pow_right (by omega) hlens.2
    have hp1 : 2 ^ b.fs.length ≤ 2 ^ 6 := Nat.pow_le_pow_right (by omega) hlens.1
    clear c0 c1 c2 c3 c4 c5 hlb d1 d2
    go_loopw [10, 11, 12, 13, 14, 94] (fun al _ _ _ _ i wr => ∃ k : Nat, k ≤ b.fs.length ∧ i = .int .i64 k ∧ al = .int .i64 (canTo L k) ∧ Below w4.heap.size w4 wr) (fun _ _ _ _ _ i _ => b.fs.length - (intOf i).toNat)
    case atStart => exact ⟨0, Nat.zero_le _, rfl, rfl, Below.refl _ _⟩
    case round =>
      rename_i wr
      obtain ⟨k, hk, rfl, rfl, hbr⟩ := hrel
      have hbw := hb0.trans (hbr.mono hw4)
      by_cases hlt : k < b.fs.length
      · have gr := obj_later hbr g4
        have hIr := hI.later (hbr.block _ hI.lt)
        have c0 := cell_block gr 0
        have c1 := cell_block gr 1
        have c2 := cell_block gr 2
        have c3 := cell_block gr 3
        have c4 := cell_block gr 4
        have c5 := cell_block gr 5
        simp only [List.getElem?_toArray, List.getElem?_cons_zero, List.getElem?_cons_succ] at c0 c1 c2 c3 c4 c5
        go_wp2_with fail
        refine (pairs_any b (k : Int) fa sa fc sc _ (HB.out.below hbw)).mono ?_
        rintro e w5 ⟨he, hb1⟩
        rw [HPR.out k hlt] at he
        simp only at he
        subst he
        have hb5 := hbr.trans (hb1.mono hbr.size)
        have hbw5 := hbw.trans (hb1.mono hbw.size)
        have g5 := obj_later hb1 gr
        have hI5 := hIr.later (hb1.block _ hIr.lt)
        clear hb1 c0 c1 c2 c3 c4 c5 gr hIr
        have c0 := cell_block g5 0
        have c1 := cell_block g5 1
        have c2 := cell_block g5 2
        have c3 := cell_block g5 3
        have c4 := cell_block g5 4
        have c5 := cell_block g5 5
        simp only [List.getElem?_toArray, List.getElem?_cons_zero, List.getElem?_cons_succ] at c0 c1 c2 c3 c4 c5
        have hcy := hI5.cell k (by rw [HYL.out]; exact hlt)
        have hyget : y.2[k]'(by rw [HYL.out]; exact hlt) = y.2.getD k (-1) := (getD_get _).symm
        rw [hyget] at hcy
        have hky : (k : Int) < y.2.length := by rw [HYL.out]; omega
        have hkf : (k : Int) < b.fs.length := by omega
        obtain ⟨bq, bo, hfa, hbql, hEd⟩ := (HB.out.f.below hbw5 (Nat.le_refl _)) k hlt
        have c6 := hEd.c6
        have hsa : (sures b.fs).testBit k = (b.fs[k]).sure := by unfold sures; rw [maskOf_testBit]; simp [hlt, sureAt]
        rw [← hsa] at c6
        subst hfa
        -- the laws
        have J := HJ.out
        have z1 := prsAt_lt J hlt
        have z2 := prsAt_sub J hlt
        have z3 := prsAt_one J hlt
        have z4 := allFirst_at J k hlt
        have z5 := prsAt_sure J hlt
        have z8 := fun h => J.fsure y hym.out k hlt h
        have z6 := fun h => prsAt_best J hlt hym.out h
        have z7 := fun h => prsAt_none J hlt hym.out h
        have hnext : canTo L (k + 1) = canTo L k ||| (prsAt L k).some := rfl
        have hcl := canTo_lt J k hk
        generalize (prsAt L k).every = E1 at z1 z2 z3 z5 z6 z7 ⊢
        generalize (prsAt L k).some = E2 at z1 z2 z4 z5 z6 hnext ⊢
        generalize (sures b.fs).testBit k = s at c6 z5 z8
        generalize y.2.getD k (-1) = yk at hcy z6 z7 z8
        clear hyget hsa hEd J
        obtain ⟨z11, z12⟩ := z1
        have b1 : E1 < 64 := by omega
        have b2 : E2 < 64 := by omega
        have b3 : canTo L k < 64 := by omega
        have t1 : (E2 : Int) / 2 ^ b.ss.length = 0 := by rw [shr_u64, Nat.div_eq_of_lt z12]; rfl
        have t2 : bits .andNot .i64 (E1 : Int) (E2 : Int) = 0 := by rw [andNotI _ _ b1 b2, z2]; rfl
        have t3 : bits .and .i64 (E1 : Int) ((E1 : Int) - 1) = 0 := (singleI E1 b1).2 (z3.imp id (fun ⟨j, hj, h, _⟩ => ⟨j, by omega, h⟩))
        have t4 : bits .or .i64 (canTo L k : Int) (E2 : Int) = ((canTo L (k + 1) : Nat) : Int) := by rw [orI _ _ b3 b2, hnext]
        have hA1b : A1.testBit k = !((allFirst (L.map (·.2))).testBit k) := by
          rw [← HA1.out, andN_testBit _ _ k (Nat.lt_of_lt_of_le (allFirst_lt (N := 6) _ (fun x hx => by
            obtain ⟨z, hz, rfl⟩ := List.mem_map.1 hx
            rw [HJ.out.len z hz]; exact hlens.1)) (by decide)) (by omega), Nat.testBit_two_pow_sub_one]
          simp [hlt]
        have ha1' : A1 < 64 := by omega
        have t5 := bitI A1 k ha1'
        have HN := Lib.hid hnext
        have HZ3 := Lib.hid z3
        have HZ5 := Lib.hid z5
        have HZ6 := Lib.hid z6
        have HZ7 := Lib.hid z7
        have HZ8 := Lib.hid z8
        clear hnext z3 z5 z6 z7 z8 z2
        have u0 : (bits BinOp.and IntKind.i64 0 (-1) != 0) = false := by kernel_rfl
        have u9 : 0 ≤ (E2 : Int) := by omega
        have u8 : 0 ≤ (E1 : Int) := by omega
        by_cases hE2 : E2 = 0
        · have hbit : A1.testBit k = true := by
            rw [hA1b]
            cases hq : (allFirst (L.map (·.2))).testBit k
            · rfl
            · exact absurd hE2 (z4.1 hq)
          have hyk : yk = -1 := by
            apply Classical.byContradiction
            intro h
            obtain ⟨n, _, _, h3, _⟩ := HZ6.out h
            rw [hE2] at h3
            simp at h3
          have hs : s = false := by
            cases s
            · rfl
            · exact absurd hE2 (HZ5.out rfl).1
          have hE1 : E1 = 0 := HZ7.out hyk
          subst hE2 hyk hs hE1
          rw [hbit] at t5
          simp only [if_true] at t5
          simp only [Int.natCast_zero] at t1 t2 t4
          clear hbit hA1b z4
          go_wp2_with fail
          go_roundw
          case rel => exact ⟨k + 1, by omega, by go_num, rfl, hb5⟩
          case measure => simp [intOf]; omega
        · have hbit : A1.testBit k = false := by
            rw [hA1b, z4.2 hE2]; rfl
          rw [hbit] at t5
          simp only [Bool.false_eq_true, if_false] at t5
          have u1 : ((E2 : Int) == 0) = false := by simp; omega
          have HE2 := Lib.hid hE2
          clear hbit hA1b z4 hE2
          by_cases hyk : yk = -1
          · have hs : s = false := by
              cases s
              · rfl
              · exact absurd hyk (HZ8.out rfl)
            have hE1 : E1 = 0 := HZ7.out hyk
            subst hyk hs hE1
            simp only [Int.natCast_zero] at t2 t3
            go_wp2_with fail
            go_roundw
            case rel => exact ⟨k + 1, by omega, by go_num, rfl, hb5⟩
            case measure => simp [intOf]; omega
          · obtain ⟨n, hn, hyn, hbn, hE1⟩ := HZ6.out hyk
            subst hyn
            have t6 := bitI E2 n b2
            rw [hbn] at t6
            simp only [if_true] at t6
            have t7 := powI n (by omega)
            have hn6 : (n : Int) < 64 := by omega
            have hn0 : ((n : Int) == -1) = false := by simp
            have hn1 : ((n : Int) != -1) = true := by simp
            have hpos := Nat.two_pow_pos n
            have hpn : 2 ^ n ≤ 2 ^ 6 := Nat.pow_le_pow_right (by omega) (by omega)
            obtain ⟨x, hx⟩ : ∃ x, 2 ^ n = x := ⟨_, rfl⟩
            rw [hx] at t7 hE1 hpos hpn
            rcases hE1 with hE1 | hE1
            · subst hE1
              simp only [Int.natCast_zero] at t2 t3
              cases s
              · go_wp2_with fail
                go_roundw
                case rel => exact ⟨k + 1, by omega, by go_num, rfl, hb5⟩
                case measure => simp [intOf]; omega
              · have hsg : bits .and .i64 (E2 : Int) ((E2 : Int) - 1) ≠ 0 := fun h => by
                  rcases (singleI E2 b2).1 h with h | ⟨j, _, h⟩
                  · exact HE2.out h
                  · have := (HZ5.out rfl).2 j h
                    have := Nat.two_pow_pos j
                    omega
                have hsg' : (bits .and .i64 (E2 : Int) ((E2 : Int) - 1) == 0) = false := by simpa using hsg
                clear hsg
                go_wp2_with fail
                go_roundw
                case rel => exact ⟨k + 1, by omega, by go_num, rfl, hb5⟩
                case measure => simp [intOf]; omega
            · subst hE1
              have v1 : ((E1 : Int) != 0) = true := by simp; omega
              have v2 : ((E1 : Int) == 0) = false := by simp; omega
              cases s
              · go_wp2_with fail
                go_roundw
                case rel => exact ⟨k + 1, by omega, by go_num, rfl, hb5⟩
                case measure => simp [intOf]; omega
              · by_cases hsg : bits .and .i64 (E2 : Int) ((E2 : Int) - 1) = 0
                · have hsg' : (bits .and .i64 (E2 : Int) ((E2 : Int) - 1) == 0) = true := by simpa using hsg
                  have he12 : E1 = E2 := by
                    rcases (singleI E2 b2).1 hsg with h | ⟨j, _, h⟩
                    · exact absurd h HE2.out
                    · rw [h]; exact (HZ5.out rfl).2 j h
                  have hen : ((E1 : Int) != (E2 : Int)) = false := by rw [he12]; simp
                  clear hsg he12
                  go_wp2_with fail
                  go_roundw
                  case rel => exact ⟨k + 1, by omega, by go_num, rfl, hb5⟩
                  case measure => simp [intOf]; omega
                · have hsg' : (bits .and .i64 (E2 : Int) ((E2 : Int) - 1) == 0) = false := by simpa using hsg
                  clear hsg
                  go_wp2_with fail
                  go_roundw
                  case rel => exact ⟨k + 1, by omega, by go_num, rfl, hb5⟩
                  case measure => simp [intOf]; omega
      · obtain rfl : k = b.fs.length := by omega
        have gr := obj_later hbr g4
        have c0 := cell_block gr 0
        have c1 := cell_block gr 1
        have c2 := cell_block gr 2
        have c3 := cell_block gr 3
        have c4 := cell_block gr 4
        have c5 := cell_block gr 5
        simp only [List.getElem?_toArray, List.getElem?_cons_zero, List.getElem?_cons_succ] at c0 c1 c2 c3 c4 c5
        have hz1 := canTo_all HJ.out
        have hcl := canTo_lt HJ.out b.fs.length (Nat.le_refl _)
        have hz2 := sure_second HJ.out
        rw [← hz1, ← hz1.symm] at hz2
        have hA2 := HA2.out
        rw [← hz1] at hA2
        have hz3 : A2 &&& sures b.ss = 0 := by rw [← hA2, hz1]; exact sure_second HJ.out
        have hpos := Nat.two_pow_pos b.ss.length
        have hcn := andNotI (2 ^ b.ss.length - 1) (canTo L b.fs.length) (by omega) (by omega)
        rw [hA2] at hcn
        have hpw := powI b.ss.length hlens.2
        have hsures := sures_lt b.ss
        have hand := andI A2 (sures b.ss) (by omega) (by omega)
        rw [hz3] at hand
        have hns6 : (b.ss.length : Int) < 64 := by omega
        clear hz1 hz2 hz3 hA2
        obtain ⟨x, hx⟩ : ∃ x, 2 ^ b.ss.length = x := ⟨_, rfl⟩
        rw [hx] at hcn hpos hp2 hpw
        have hx1 : ((x : Int) - 1) = ((x - 1 : Nat) : Int) := by omega
        rw [← hx1] at hcn
        simp only [Int.natCast_zero] at hand
        clear hx1 hx ha2 ha1 hsures hcl
        go_wp2_with fail
        refine (rsures_any sa sc b.ss _ hlens.2 (HB.out.s.below hbw (Nat.le_refl _))).mono ?_
        rintro e w6 ⟨rfl, rfl⟩
        go_wp2_with fail
        refine (awake_any _).mono ?_
        rintro e w7 ⟨rfl, hb1⟩
        go_wp2
        go_ret
        exact ⟨rfl, hbw.trans (hb1.mono hbw.size)⟩
end Go.Proofs.Ytjkegmjjhdmkiaa
namespace Go.Proofs.Ytjkegmjjhdmkiaa
open Go.RowKit Go.Shelf
set_option maxHeartbeats 3200000
set_option maxRecDepth 100000
set_option linter.unusedSimpArgs false

theorem inside_any (s : Sp) (n : Int) (w : World) :
    Calls Try.prog 30 #[.agg #[.int .i64 s.lo, .int .i64 s.hi], .int .i64 n] w fun e w' => e = .returned (.bool (s.has n)) ∧ Below w.heap.size w w' := by
  have hd : s.has n = (decide (s.lo ≤ n) && decide (n ≤ s.hi)) := rfl
  have HD := Lib.hid hd
  clear hd
  go_enter Try.func30, Try.ntmps30
  by_cases h1 : s.lo ≤ n
  · have e1 : decide (s.lo ≤ n) = true := by simpa using h1
    go_wp2
    go_ret
    exact ⟨ret_bool (by rw [HD.out, e1]; simp), (Below.refl _ _).alloc (Nat.le_refl _) _⟩
  · have e1 : decide (s.lo ≤ n) = false := by simpa using h1
    go_wp2
    go_ret
    exact ⟨ret_bool (by rw [HD.out, e1]; rfl), (Below.refl _ _).alloc (Nat.le_refl _) _⟩

theorem pairsIn_take (xs : List Int) (k : Nat) (h : k < xs.length) : pairsIn (xs.take (k + 1)) = pairsIn (xs.take k) + if xs[k] = -1 then 0 else 1 := by
  rw [List.take_succ_eq_append_getElem h, pairsIn_snoc]

theorem count_any (a : Option Addr) (c : Nat) (xs : List Int) (w : World) (hx : IntsV w a xs) (hlx : xs.length ≤ 100) :
    Calls Try.prog 31 #[.slice a xs.length c] w fun e w' => e = .returned (.int .i64 (pairsIn xs)) ∧ Below w.heap.size w w' := by
  have i1 : (xs.length : Int) ≤ 100 := by omega
  go_enter Try.func31, Try.ntmps31
  go_wp2_with fail
  go_loopw [3, 4] (fun n i wr => ∃ k : Nat, k ≤ xs.length ∧ i = .int .i64 k ∧ n = .int .i64 (pairsIn (xs.take k)) ∧ Below w.heap.size w wr) (fun _ i _ => xs.length - (intOf i).toNat)
  case atStart => exact ⟨0, Nat.zero_le _, rfl, rfl, Below.refl _ _⟩
  case round =>
    rename_i wr
    obtain ⟨k, hk, rfl, rfl, hbw⟩ := hrel
    have hpl : pairsIn (xs.take k) ≤ k := Nat.le_trans (pairsIn_le _) (List.length_take_le _ _)
    have hpi : (pairsIn (xs.take k) : Int) ≤ 100 := by omega
    by_cases hlt : k < xs.length
    · obtain ⟨q, o, rfl, hq, hc⟩ := (hx.below hbw (Nat.le_refl _)) k hlt
      have hki : (k : Int) < xs.length := by omega
      have ht := pairsIn_take xs k hlt
      generalize xs[k] = y at hc ht
      by_cases hy : y = -1
      · subst hy
        have HT := Lib.hid ht
        clear ht
        go_wp2_with fail
        go_roundw
        case rel => exact ⟨k + 1, by omega, by go_num, by rw [HT.out]; simp, hbw⟩
        case measure => simp [intOf]; omega
      · have h1 : (y != -1) = true := by simpa using hy
        have h2 : (y == -1) = false := by simpa using hy
        rw [if_neg hy] at ht
        have HT := Lib.hid ht
        clear ht hy
        go_wp2_with fail
        go_roundw
        case rel => exact ⟨k + 1, by omega, by go_num, by rw [HT.out]; go_num, hbw⟩
        case measure => simp [intOf]; omega
    · obtain rfl : k = xs.length := by omega
      have hf : xs.take xs.length = xs := List.take_length
      have HF := Lib.hid hf
      clear hf
      go_wp2_with fail
      go_ret
      exact ⟨ret_int (by rw [HF.out]), hbw⟩

/-- Is entry i right? -/
def okAt (b : Bo) (z : Int × Int) (x : List Int) (i : Nat) : Bool :=
  if x.getD i (-1) = -1 then !(sures b.fs).testBit i else b.same z i (x.getD i (-1)).toNat && !(jSecond (x.take i)).testBit (x.getD i (-1)).toNat
def joinB (b : Bo) (z : Int × Int) (x : List Int) : Bool := (List.range x.length).all (okAt b z x) && (andN (sures b.ss) (jSecond x) == 0)

theorem joinB_iff {b : Bo} (hl : b.fs.length ≤ 6 ∧ b.ss.length ≤ 6) (z : Int × Int) (x : List Int) (hx : x.length = b.fs.length) (he : ∀ y ∈ x, y = -1 ∨ (0 ≤ y ∧ y < b.ss.length)) : joinB b z x = true ↔ IsJoin b (sures b.fs) (sures b.ss) z x := by
  have hs6 : sures b.ss < 64 := Nat.lt_of_lt_of_le (sures_lt _) (Nat.pow_le_pow_right (by omega) hl.2)
  have hnn : ∀ n, ∀ y ∈ x.take n, y = -1 ∨ 0 ≤ y := fun n y hy => (he y (List.mem_of_mem_take hy)).imp id (fun h => h.1)
  have hjs : jSecond x < 64 := Nat.lt_of_lt_of_le (jSecond_lt x he) (Nat.pow_le_pow_right (by omega) hl.2)
  have hand : andN (sures b.ss) (jSecond x) = 0 ↔ ∀ k, k < b.ss.length → (sures b.ss).testBit k = true → (k : Int) ∈ x := by
    have hb : ∀ k, (jSecond x).testBit k = true ↔ (k : Int) ∈ x := fun k => jSecond_bit x (fun y hy => (he y hy).imp id (fun h => h.1)) k
    constructor
    · intro h k hk hsk
      have h1 := andN_testBit (sures b.ss) (jSecond x) k (by omega) (by omega)
      rw [h, Nat.zero_testBit, hsk] at h1
      rw [← hb]
      simpa using h1.symm
    · intro h
      refine Nat.eq_of_testBit_eq (fun k => ?_)
      rw [Nat.zero_testBit]
      by_cases hk : k < b.ss.length
      · rw [andN_testBit _ _ k (by omega) (by omega)]
        cases hq : (sures b.ss).testBit k
        · rfl
        · rw [(hb k).2 (h k hk hq)]; rfl
      · exact Nat.testBit_lt_two_pow (Nat.lt_of_le_of_lt Nat.and_le_left (Nat.lt_of_lt_of_le (sures_lt b.ss) (Nat.pow_le_pow_right (by omega) (by omega))))
  unfold joinB
  rw [Bool.and_eq_true, List.all_eq_true, beq_iff_eq, hand]
  constructor
  · rintro ⟨h1, h2⟩
    refine ⟨hx, fun i hi => ?_, h2⟩
    have := h1 i (List.mem_range.2 (by omega))
    unfold okAt at this
    split at this
    · rename_i hn
      exact .inl ⟨hn, by simpa using this⟩
    · rename_i hn
      have hg : x.getD i (-1) = x[i]'(by omega) := getD_get (by omega)
      have hmem := he (x[i]'(by omega)) (List.getElem_mem _)
      rw [← hg] at hmem
      obtain ⟨k, hk⟩ := Int.eq_ofNat_of_zero_le (show 0 ≤ x.getD i (-1) by omega)
      rw [hk] at this hmem
      simp only [Int.toNat_natCast, Bool.and_eq_true, Bool.not_eq_true'] at this
      refine .inr ⟨k, by omega, hk, this.1, ?_⟩
      rw [← getD_take_mem k (by omega)]
      intro hm
      have := (jSecond_bit (x.take i) (hnn i) k).2 hm
      simp_all
  · rintro ⟨h1, h2, h3⟩
    refine ⟨fun i hi => ?_, h3⟩
    rw [List.mem_range] at hi
    unfold okAt
    rcases h2 i (by omega) with ⟨h4, h5⟩ | ⟨k, h4, h5, h6, h7⟩
    · rw [if_pos h4, h5]; rfl
    · rw [if_neg (by omega), h5, Int.toNat_natCast, h6]
      have : (jSecond (x.take i)).testBit k = false := by
        cases hq : (jSecond (x.take i)).testBit k
        · rfl
        · exact absurd ((jSecond_bit (x.take i) (hnn i) k).1 hq) ((getD_take_mem k (by omega)).2 h7)
      rw [this]; rfl

theorem joinB_no {b : Bo} {z : Int × Int} {x : List Int} (k : Nat) (hk : k < x.length) (h : okAt b z x k = false) : joinB b z x = false := by
  unfold joinB
  have : (List.range x.length).all (okAt b z x) = false := by
    rw [List.all_eq_false]
    exact ⟨k, List.mem_range.2 hk, by rw [h]; decide⟩
  rw [this]; rfl

/-- The closure: is a list a joining with a shift? -/
theorem joined1_any (b : Bo) (fa sa : Option Addr) (fc sc p c : Nat) (a : Option Addr) (x : List Int) (z : Int × Int) (w : World) (hb : BoArg w b fa sa) (hok : b.ok = true) (hz : b.shift z = true) (hxl : x.length = b.fs.length)
    (he : ∀ y ∈ x, y = -1 ∨ (0 ≤ y ∧ y < b.ss.length)) (hx : IntsV w a x)
    (hp : w.heap[p]? = some (.cells #[.int .i64 b.e.lo, .int .i64 b.e.hi, .int .i64 b.n.lo, .int .i64 b.n.hi, .slice fa b.fs.length fc, .slice sa b.ss.length sc] 26)) :
    Calls Try.prog 33 #[.slice a x.length c, .int .i64 z.1, .int .i64 z.2, .pointer (some ⟨p, 0, none⟩)] w fun e w' => e = .returned (.bool (joinB b z x)) ∧ Below w.heap.size w w' := by
  have hlens := bo_lens hok
  have hxl6 : x.length ≤ 6 := by omega
  have HXL := Lib.hid hxl
  have HOK := Lib.hid hok
  have HZ := Lib.hid hz
  have HB := Lib.hid hb
  have HE := Lib.hid he
  clear hxl hok hz hb he
  have i1 : (x.length : Int) ≤ 6 := by omega
  go_enter Try.func33, Try.ntmps33
  go_wp2_with fail
  go_loopw [7, 8, 9, 10, 11, 12, 15] (fun r u _ _ _ _ i wr => ∃ k : Nat, k ≤ x.length ∧ i = .int .i64 k ∧ r = .bool false ∧ u = .int .i64 (jSecond (x.take k)) ∧ (∀ j, j < k → okAt b z x j = true) ∧ Below w.heap.size w wr) (fun _ _ _ _ _ _ i _ => x.length - (intOf i).toNat)
  case atStart => exact ⟨0, Nat.zero_le _, rfl, rfl, rfl, fun j hj => absurd hj (Nat.not_lt_zero _), Below.refl _ _⟩
  case round =>
    rename_i wr
    obtain ⟨k, hk, rfl, rfl, rfl, hall, hbr⟩ := hrel
    have HALL := Lib.hid hall
    clear hall
    have gr := obj_later hbr hp
    have c0 := cell_block gr 0
    have c1 := cell_block gr 1
    have c2 := cell_block gr 2
    have c3 := cell_block gr 3
    have c4 := cell_block gr 4
    have c5 := cell_block gr 5
    simp only [List.getElem?_toArray, List.getElem?_cons_zero, List.getElem?_cons_succ] at c0 c1 c2 c3 c4 c5
    have hus : ∀ n, jSecond (x.take n) < 64 := fun n => Nat.lt_of_lt_of_le (jSecond_lt (x.take n) (fun y hy => HE.out y (List.mem_of_mem_take hy))) (Nat.pow_le_pow_right (n := 2) (by omega) hlens.2)
    have hu := hus k
    have hui : (jSecond (x.take k) : Int) < 64 := by omega
    by_cases hlt : k < x.length
    · have hki : (k : Int) < x.length := by omega
      obtain ⟨q, o, rfl, hq, hc⟩ := (hx.below hbr (Nat.le_refl _)) k hlt
      have hgx : x.getD k (-1) = x[k] := getD_get hlt
      have hent := HE.out x[k] (List.getElem_mem hlt)
      have hjt := jSecond_take x k hlt
      have hok1 : okAt b z x k = if x[k] = -1 then !(sures b.fs).testBit k else b.same z k (x[k]).toNat && !(jSecond (x.take k)).testBit (x[k]).toNat := by unfold okAt; rw [hgx]
      generalize x[k] = y at hc hent hjt hok1
      clear hgx
      rcases hent with rfl | ⟨hy0, hy1⟩
      · obtain ⟨bq, bo, hfa, hbql, hEd⟩ := (HB.out.f.below hbr (Nat.le_refl _)) k (by rw [← HXL.out]; exact hlt)
        have c6 := hEd.c6
        have hsa : (sures b.fs).testBit k = (b.fs[k]'(by rw [← HXL.out]; exact hlt)).sure := by unfold sures; rw [maskOf_testBit]; simp [← HXL.out, hlt, sureAt]
        have hkf : (k : Int) < b.fs.length := by rw [← HXL.out]; exact hki
        rw [← hsa] at c6
        rw [if_pos rfl] at hok1
        subst hfa
        generalize (sures b.fs).testBit k = s at c6 hok1
        have hj2 : jSecond (x.take (k + 1)) = jSecond (x.take k) := by rw [hjt]; simp [bitOf]
        have HJ := Lib.hid hj2
        have HK := Lib.hid hok1
        clear hjt hj2 hok1 hsa hEd
        cases s
        · go_wp2_with fail
          go_roundw
          case rel =>
            refine ⟨k + 1, by omega, by go_num, rfl, by rw [HJ.out], fun j hj => ?_, hbr⟩
            by_cases h : j < k
            · exact HALL.out j h
            · obtain rfl : j = k := by omega
              rw [HK.out]; rfl
          case measure => simp [intOf]; omega
        · go_wp2_with fail
          go_ret
          exact ⟨ret_bool (joinB_no k hlt HK.out).symm, hbr⟩
      · obtain ⟨n, rfl⟩ := Int.eq_ofNat_of_zero_le hy0
        have hn0 : ((n : Int) == -1) = false := by simp
        have hn6 : n < 6 := by omega
        have hni : (n : Int) < 6 := by omega
        rw [if_neg (by omega), Int.toNat_natCast] at hok1
        have hsm : bSame b (k : Int) (n : Int) z.1 z.2 = (b.same z k n, 0) := by
          unfold bSame
          have e1 : (inR (k : Int) 0 ((b.fs.length : Int) - 1) && inR (n : Int) 0 ((b.ss.length : Int) - 1) && b.shift (z.1, z.2)) = true := by
            have := HZ.out
            have := HXL.out
            simp only [inR, Bool.and_eq_true, decide_eq_true_eq]
            refine ⟨⟨⟨by omega, by omega⟩, ⟨by omega, by omega⟩⟩, HZ.out⟩
          rw [if_pos HOK.out, if_pos e1]
          rfl
        have hsx := xsame_any b (k : Int) (n : Int) z.1 z.2 fa sa fc sc wr (HB.out.below hbr)
        unfold SamePost at hsx
        rw [hsm] at hsx
        have hj2 : jSecond (x.take (k + 1)) = jSecond (x.take k) ||| 2 ^ n := by rw [hjt]; simp [bitOf]
        have hu' := hus (k + 1)
        have hbt := bitI (jSecond (x.take k)) n hu
        have hpn : 2 ^ n < 64 := Nat.pow_lt_pow_right (m := n) (n := 6) (by omega) hn6
        have hor := orI (jSecond (x.take k)) (2 ^ n) hu hpn
        have hpw := powI n (by omega)
        rw [← hj2] at hor
        have HK := Lib.hid hok1
        clear hjt hj2 hok1 hsm
        generalize b.same z k n = s at hsx HK
        generalize (jSecond (x.take k)).testBit n = t at hbt HK
        obtain ⟨m, hm⟩ : ∃ m, 2 ^ n = m := ⟨_, rfl⟩
        rw [hm] at hpn hor hpw
        clear hm
        cases s
        · go_wp2_with fail
          refine hsx.mono ?_
          rintro e w1 ⟨rfl, hb1⟩
          go_wp2_with fail
          go_ret
          exact ⟨ret_bool (joinB_no k hlt HK.out).symm, hbr.trans (hb1.mono hbr.size)⟩
        · cases t
          · simp only [Bool.false_eq_true, if_false] at hbt
            go_wp2_with fail
            refine hsx.mono ?_
            rintro e w1 ⟨rfl, hb1⟩
            go_wp2_with fail
            go_roundw
            case rel =>
              refine ⟨k + 1, by omega, by go_num, rfl, rfl, fun j hj => ?_, hbr.trans (hb1.mono hbr.size)⟩
              by_cases h : j < k
              · exact HALL.out j h
              · obtain rfl : j = k := by omega
                rw [HK.out]; rfl
            case measure => simp [intOf]; omega
          · simp only [if_true] at hbt
            go_wp2_with fail
            refine hsx.mono ?_
            rintro e w1 ⟨rfl, hb1⟩
            go_wp2_with fail
            go_ret
            exact ⟨ret_bool (joinB_no k hlt HK.out).symm, hbr.trans (hb1.mono hbr.size)⟩
    · obtain rfl : k = x.length := by omega
      have hs6 : sures b.ss < 64 := Nat.lt_of_lt_of_le (sures_lt _) (Nat.pow_le_pow_right (by omega) hlens.2)
      have hj : joinB b z x = (andN (sures b.ss) (jSecond x) == 0) := by
        unfold joinB
        have : (List.range x.length).all (okAt b z x) = true := List.all_eq_true.2 (fun i hi => HALL.out i (List.mem_range.1 hi))
        rw [this]; rfl
      rw [List.take_length] at hu hui ⊢
      have hno := andNotI (sures b.ss) (jSecond x) hs6 hu
      have hls := rsures_any sa sc b.ss wr hlens.2 (HB.out.s.below hbr (Nat.le_refl _))
      have HJ := Lib.hid hj
      clear hj
      go_wp2_with fail
      refine hls.mono ?_
      rintro e w1 ⟨rfl, rfl⟩
      go_wp2_with fail
      go_ret
      refine ⟨ret_bool ?_, hbr⟩
      rw [HJ.out]
      generalize andN (sures b.ss) (jSecond x) = m
      rw [Bool.eq_iff_iff]
      simp
end Go.Proofs.Ytjkegmjjhdmkiaa
namespace Go.Proofs.Ytjkegmjjhdmkiaa
open Go.RowKit Go.Shelf
set_option maxHeartbeats 3200000
set_option maxRecDepth 100000
set_option linter.unusedSimpArgs false

theorem rin_any (n lo hi : Int) (w : World) :
    Calls Try.prog 47 #[.int .i64 n, .int .i64 lo, .int .i64 hi] w fun e w' => e = .returned (.bool (inR n lo hi)) ∧ w = w' := by
  have hd : inR n lo hi = (decide (lo ≤ n) && decide (n ≤ hi)) := rfl
  have HD := Lib.hid hd
  clear hd
  go_enter Try.func47, Try.ntmps47
  by_cases h1 : lo ≤ n
  · have e1 : decide (lo ≤ n) = true := by simpa using h1
    go_wp2
    go_ret
    exact ⟨ret_bool (by rw [HD.out, e1]; simp), rfl⟩
  · have e1 : decide (lo ≤ n) = false := by simpa using h1
    go_wp2
    go_ret
    exact ⟨ret_bool (by rw [HD.out, e1]; rfl), rfl⟩

theorem rshifted_any (b : Bo) (fa sa : Option Addr) (fc sc : Nat) (e n : Int) (w : World) :
    Calls Try.prog 48 #[.agg #[.int .i64 b.e.lo, .int .i64 b.e.hi, .int .i64 b.n.lo, .int .i64 b.n.hi, .slice fa b.fs.length fc, .slice sa b.ss.length sc], .int .i64 e, .int .i64 n] w fun r w' => r = .returned (.bool (b.shift (e, n))) ∧ Below w.heap.size w w' := by
  have hd : b.shift (e, n) = (inR e b.e.lo b.e.hi && inR n b.n.lo b.n.hi) := rfl
  have HD := Lib.hid hd
  clear hd
  have hb0 := below_alloc w (.cells #[.int .i64 b.e.lo, .int .i64 b.e.hi, .int .i64 b.n.lo, .int .i64 b.n.hi, .slice fa b.fs.length fc, .slice sa b.ss.length sc] 26)
  cases h1 : inR e b.e.lo b.e.hi
  · go_enter Try.func48, Try.ntmps48
    have H1 := Lib.hid h1
    clear h1
    go_wp2_with fail
    refine (rin_any e b.e.lo b.e.hi _).mono ?_
    rintro r w' ⟨rfl, rfl⟩
    rw [H1.out]
    go_wp2
    go_ret
    exact ⟨ret_bool (by rw [HD.out, H1.out]; rfl), hb0⟩
  · go_enter Try.func48, Try.ntmps48
    have H1 := Lib.hid h1
    clear h1
    go_wp2_with fail
    refine (rin_any e b.e.lo b.e.hi _).mono ?_
    rintro r w' ⟨rfl, rfl⟩
    rw [H1.out]
    go_wp2_with fail
    refine (rin_any n b.n.lo b.n.hi _).mono ?_
    rintro r w' ⟨rfl, rfl⟩
    go_wp2
    go_ret
    exact ⟨ret_bool (by rw [HD.out, H1.out]; simp), hb0⟩

theorem rmeet_any (x y : Sp) (d : Int) (hx : -2000000 ≤ y.lo ∧ y.lo ≤ 2000000) (hy : -2000000 ≤ y.hi ∧ y.hi ≤ 2000000) (hd : -1000 ≤ d ∧ d ≤ 1000) (w : World) :
    Calls Try.prog 72 #[.agg #[.int .i64 x.lo, .int .i64 x.hi], .agg #[.int .i64 y.lo, .int .i64 y.hi], .int .i64 d] w fun e w' => e = .returned (.bool (meets x y d)) ∧ Below w.heap.size w w' := by
  have hm : meets x y d = (decide (x.lo ≤ y.hi + d) && decide (y.lo + d ≤ x.hi)) := rfl
  have HM := Lib.hid hm
  clear hm
  obtain ⟨hx1, hx2⟩ := hx
  obtain ⟨hy1, hy2⟩ := hy
  obtain ⟨hd1, hd2⟩ := hd
  have hbel : Below w.heap.size w ((w.alloc (.cells #[.int .i64 x.lo, .int .i64 x.hi] 23)).alloc (.cells #[.int .i64 y.lo, .int .i64 y.hi] 23)) := (below_alloc _ _).alloc (by rw [World.size_alloc]; exact Nat.le_succ _) _
  go_enter Try.func72, Try.ntmps72
  by_cases h1 : x.lo ≤ y.hi + d
  · have e1 : decide (x.lo ≤ y.hi + d) = true := by simpa using h1
    go_wp2
    go_ret
    exact ⟨ret_bool (by rw [HM.out, e1]; simp), hbel⟩
  · have e1 : decide (x.lo ≤ y.hi + d) = false := by simpa using h1
    go_wp2
    go_ret
    exact ⟨ret_bool (by rw [HM.out, e1]; rfl), hbel⟩

theorem rare_any (x y : Ed) (z : Int × Int) (hy : y.ok = true) (hz : (-20 ≤ z.1 ∧ z.1 ≤ 20) ∧ (-20 ≤ z.2 ∧ z.2 ≤ 20)) (w : World) :
    Calls Try.prog 49 #[.agg #[.int .i64 x.e.lo, .int .i64 x.e.hi, .int .i64 x.n.lo, .int .i64 x.n.hi, .int .i64 x.b.lo, .int .i64 x.b.hi, .bool x.sure], .agg #[.int .i64 y.e.lo, .int .i64 y.e.hi, .int .i64 y.n.lo, .int .i64 y.n.hi, .int .i64 y.b.lo, .int .i64 y.b.hi, .bool y.sure], .int .i64 z.1, .int .i64 z.2] w
      fun e w' => e = .returned (.bool (x.same y z)) ∧ Below w.heap.size w w' := by
  have hm : x.same y z = (meets x.e y.e z.1 && meets x.n y.n z.2 && meets x.b y.b 0) := rfl
  have HM := Lib.hid hm
  have hok := (edok_iff y).1 hy
  have c1 := fun W => rmeet_any x.e y.e z.1 (by omega) (by omega) (by omega) W
  have c2 := fun W => rmeet_any x.n y.n z.2 (by omega) (by omega) (by omega) W
  have c3 := fun W => rmeet_any x.b y.b 0 (by omega) (by omega) (by omega) W
  have C1 := Lib.hid c1
  have C2 := Lib.hid c2
  have C3 := Lib.hid c3
  clear hm c1 c2 c3 hok hz hy
  go_enter Try.func49, Try.ntmps49
  go_wp2_with fail
  obtain ⟨W0, hW0⟩ : ∃ W, ((w.alloc (.cells #[.int .i64 x.e.lo, .int .i64 x.e.hi, .int .i64 x.n.lo, .int .i64 x.n.hi, .int .i64 x.b.lo, .int .i64 x.b.hi, .bool x.sure] 55)).alloc (.cells #[.int .i64 y.e.lo, .int .i64 y.e.hi, .int .i64 y.n.lo, .int .i64 y.n.hi, .int .i64 y.b.lo, .int .i64 y.b.hi, .bool y.sure] 55)) = W := ⟨_, rfl⟩
  rw [hW0]
  try simp only [Nat.add_assoc, Nat.reduceAdd]
  have hst_W0 : Steps (fun _ => False) w W0 := by rw [← hW0]; exact (Steps.alloc _ w _).trans (Steps.alloc (fun _ => False) _ _) (fun _ _ h => h)
  have hz_W0 : W0.heap.size = w.heap.size + 2 := by rw [← hW0]; simp
  have g0_W0 : W0.heap[w.heap.size]? = some (.cells #[.int .i64 x.e.lo, .int .i64 x.e.hi, .int .i64 x.n.lo, .int .i64 x.n.hi, .int .i64 x.b.lo, .int .i64 x.b.hi, .bool x.sure] 55) := by rw [← hW0]; simp only [alloc_get, World.size_alloc]; repeat (first | exact if_pos trivial | exact if_pos (by omega) | rw [if_neg (by omega)])
  have g1_W0 : W0.heap[w.heap.size + 1]? = some (.cells #[.int .i64 y.e.lo, .int .i64 y.e.hi, .int .i64 y.n.lo, .int .i64 y.n.hi, .int .i64 y.b.lo, .int .i64 y.b.hi, .bool y.sure] 55) := by rw [← hW0]; simp only [alloc_get, World.size_alloc]; repeat (first | exact if_pos trivial | exact if_pos (by omega) | rw [if_neg (by omega)])
  clear hW0
  have hb0 : Below w.heap.size w W0 := hst_W0.below (Nat.le_refl _) (fun _ _ h => h)
  clear hst_W0 hz_W0
  refine (C1.out _).mono ?_
  rintro e w1 ⟨rfl, hb1⟩
  have x1 := obj_later hb1 g0_W0
  have y1 := obj_later hb1 g1_W0
  replace hb0 := hb0.trans (hb1.mono hb0.size)
  clear hb1 g0_W0 g1_W0 C1
  cases h1 : meets x.e y.e z.1
  · have H1 := Lib.hid h1
    clear h1
    go_wp2
    go_ret
    exact ⟨ret_bool (by rw [HM.out, H1.out]; rfl), hb0⟩
  have H1 := Lib.hid h1
  clear h1
  have a2 := cell_block x1 2
  have a3 := cell_block x1 3
  have d2 := cell_block y1 2
  have d3 := cell_block y1 3
  simp only [List.getElem?_toArray, List.getElem?_cons_zero, List.getElem?_cons_succ] at a2 a3 d2 d3
  go_wp2_with fail
  refine (C2.out _).mono ?_
  rintro e w2 ⟨rfl, hb1⟩
  have x2 := obj_later hb1 x1
  have y2 := obj_later hb1 y1
  replace hb0 := hb0.trans (hb1.mono hb0.size)
  clear hb1 x1 y1 C2 a2 a3 d2 d3
  cases h2 : meets x.n y.n z.2
  · have H2 := Lib.hid h2
    clear h2
    go_wp2
    go_ret
    exact ⟨ret_bool (by rw [HM.out, H1.out, H2.out]; rfl), hb0⟩
  have H2 := Lib.hid h2
  clear h2
  have a4 := cell_block x2 4
  have a5 := cell_block x2 5
  have d4 := cell_block y2 4
  have d5 := cell_block y2 5
  simp only [List.getElem?_toArray, List.getElem?_cons_zero, List.getElem?_cons_succ] at a4 a5 d4 d5
  go_wp2_with fail
  refine (C3.out _).mono ?_
  rintro e w3 ⟨rfl, hb1⟩
  go_wp2
  go_ret
  exact ⟨ret_bool (by rw [HM.out, H1.out, H2.out]; simp), hb0.trans (hb1.mono hb0.size)⟩

theorem rhasl_any (a : Option Addr) (c : Nat) (xs : List Int) (n : Int) (w : World) (hx : IntsV w a xs) (hlx : xs.length ≤ 100) :
    Calls Try.prog 56 #[.slice a xs.length c, .int .i64 n] w fun e w' => e = .returned (.bool (xs.contains n)) ∧ w = w' := by
  have i1 : (xs.length : Int) ≤ 100 := by omega
  go_enter Try.func56, Try.ntmps56
  go_wp2_with fail
  go_loopw [5] (fun i wr => ∃ k : Nat, k ≤ xs.length ∧ i = .int .i64 k ∧ wr = w ∧ n ∉ xs.take k) (fun i _ => xs.length - (intOf i).toNat)
  case atStart => exact ⟨0, Nat.zero_le _, rfl, rfl, by simp⟩
  case round =>
    obtain ⟨k, hk, rfl, rfl, hno⟩ := hrel
    have HNO := Lib.hid hno
    clear hno
    by_cases hlt : k < xs.length
    · obtain ⟨q, o, rfl, hq, hc⟩ := hx k hlt
      have hki : (k : Int) < xs.length := by omega
      have ht : xs.take (k + 1) = xs.take k ++ [xs[k]] := List.take_succ_eq_append_getElem hlt
      have hyes : xs[k] = n → xs.contains n = true := fun h => by rw [List.contains_eq_mem, ← h]; simp
      have HT := Lib.hid ht
      have HY := Lib.hid hyes
      clear ht hyes
      generalize xs[k] = y at hc HT HY
      by_cases hyn : y = n
      · have he : (y == n) = true := by simpa using hyn
        have HYN := Lib.hid hyn
        clear hyn
        go_wp2_with fail
        go_ret
        exact ⟨ret_bool (HY.out HYN.out).symm, rfl⟩
      · have he : (y == n) = false := by simpa using hyn
        have HYN := Lib.hid hyn
        clear hyn
        go_wp2_with fail
        go_roundw
        case rel => exact ⟨k + 1, by omega, by go_num, trivial, by rw [HT.out, List.mem_append, List.mem_singleton]; exact fun h => h.elim HNO.out (fun h => HYN.out h.symm)⟩
        case measure => simp [intOf]; omega
    · obtain rfl : k = xs.length := by omega
      have hf : xs.contains n = false := by
        have := HNO.out
        rw [List.take_length] at this
        simpa [List.contains_eq_mem] using this
      have HF := Lib.hid hf
      clear hf
      go_wp2_with fail
      go_ret
      exact ⟨ret_bool HF.out.symm, rfl⟩
end Go.Proofs.Ytjkegmjjhdmkiaa
namespace Go.Proofs.Ytjkegmjjhdmkiaa
open Go.RowKit Go.Shelf
set_option maxHeartbeats 3200000
set_option maxRecDepth 100000
set_option linter.unusedSimpArgs false

theorem infoRow : (Try.prog.info? 40).map (fun i => (i.zero, i.size, i.bytes)) = some (some (.slice none 0 0), 1, 24) := by kernel_rfl

/-- A list among those that are collected; rb: the block of the row. -/
def ElAt (w : World) (base : Nat) (rb : Option Nat) (x : List Int) (v : Value) : Prop :=
  ∃ a cap, v = .slice a x.length cap ∧ ((a = none ∧ x = []) ∨ ∃ q, a = some ⟨q, 0, none⟩ ∧ IntsAt w q x ∧ base ≤ q ∧ rb ≠ some q)
theorem ElAt.grown {w w' : World} {base : Nat} {rb rb' : Option Nat} {x : List Int} {v : Value} (h : ElAt w base rb x v) (hg : w.grownBy w' rb) (hr : rb' = rb ∨ ∃ g, rb' = some g ∧ w.heap.size ≤ g) : ElAt w' base rb' x v := by
  obtain ⟨a, cap, rfl, h⟩ := h
  refine ⟨a, cap, rfl, h.imp id ?_⟩
  rintro ⟨q, rfl, hI, hb, hq⟩
  refine ⟨q, rfl, hI.later (hg.block q hI.lt (fun e => hq e.symm)), hb, fun e => ?_⟩
  rcases hr with rfl | ⟨g, rfl, hlt⟩
  · exact hq e
  · have := hI.lt
    cases e
    omega

/-- What is collected. -/
def OutIs (w : World) (base : Nat) (v : Value) (L : List (List Int)) : Prop :=
  ∃ xs, w.ownsRow base 40 1 v L.length xs ∧ ∀ i (h : i < L.length), ∃ u, xs[i]? = some u ∧ ElAt w base v.ownBlock L[i] u
theorem OutIs.nil (w : World) (base : Nat) : OutIs w base (.slice none 0 0) [] := ⟨[], World.ownsRow_nil w base _ 1, fun i h => by cases h⟩

/-- How a row's block becomes another one. -/
def RowNext (w : World) (v v' : Value) : Prop := v'.ownBlock = v.ownBlock ∨ ∃ g, v'.ownBlock = some g ∧ w.heap.size ≤ g

/-- One value is appended to an owned row. -/
theorem appendOne (w : World) (base : Nat) (t e : TypeId) (i : TypeInfo) (z : Value) (bytes : Nat) (ht : Try.prog.underlying t = some (.slice e)) (hi : Try.prog.info? e = some i) (hz : i.zero = some z) (hsize : i.size = 1) (hby : i.bytes = bytes) (hzs : z.cells.size = 1)
    (v : Value) (n : Nat) (xs : List Value) (hown : w.ownsRow base e 1 v n xs) (u : Value) (hu : u.oneCell' = true) (m c : Nat) (hm : w.cell? ⟨m, 0, none⟩ = some u) (hn : (n + 1) * bytes ≤ 140737488355328) (hn2 : n + 1 ≤ maxLen) (hbase : base ≤ w.heap.size) :
    ∃ v' w', (Builtin.append_ #[t, t] t #[v, .slice (some ⟨m, 0, none⟩) 1 c]).run Try.prog w = .ok v' w' ∧ w'.ownsRow base e 1 v' (n + 1) (xs ++ [u]) ∧ w.grownBy w' v.ownBlock ∧ RowNext w v v' ∧ v' ≠ .slice none 0 0 := by
  have hnews : ∀ j x, [u][j]? = some x → w.cell? ((⟨m, 0, none⟩ : Addr).add j) = some x := by
    intro j x hx
    cases j with
    | zero =>
      simp at hx
      subst hx
      have e : ((⟨m, 0, none⟩ : Addr).add 0) = ⟨m, 0, none⟩ := by simp [Addr.add]
      rw [e]; exact hm
    | succ j => simp at hx
  have hone : ∀ x ∈ [u], x.oneCell' = true := fun x hx => by rw [List.mem_singleton] at hx; rw [hx]; exact hu
  have hm' := hn2
  unfold maxLen at hm'
  obtain ⟨v', w', hrun, hown', hgrow, hnil⟩ := run_append_own (P := Try.prog) w base t t e i z 1 bytes ht hi hz hsize hby hzs (by decide) v n xs hown ⟨m, 0, none⟩ 1 c [u] rfl hnews hone hn2 hn hbase
  refine ⟨v', w', hrun, hown', hgrow, ?_, fun e => by have := (hnil.1 e).2; cases this⟩
  rcases hown.2 with ⟨rfl, rfl⟩ | ⟨g, cap, cur, rfl, hbg, hg, hnc, hcm, hcs, htake⟩
  · have hr := run_append_nil (P := Try.prog) w t t e i z ht hi hz ⟨m, 0, none⟩ 1 c [u] (by rw [hsize]; rfl) hnews (by omega) (by omega) (by rw [hby]; omega)
    rw [hrun] at hr
    cases hr
    exact .inr ⟨_, rfl, Nat.le_refl _⟩
  · by_cases hroom : n + 1 ≤ cap
    · have hr := run_append_room (P := Try.prog) w t t e i ht hi g n cap cur hg ⟨m, 0, none⟩ 1 c [u] (by rw [hsize]; rfl) hnews hone hroom (by rw [hsize, hcs]; simp; omega)
      rw [hrun] at hr
      cases hr
      exact .inl rfl
    · have holds : ∀ j x, xs[j]? = some x → w.cell? ((⟨g, 0, none⟩ : Addr).add j) = some x := hown.cells (g := g) rfl
      have hr := run_append_grow (P := Try.prog) w t t e i z ht hi hz ⟨g, 0, none⟩ n cap xs (by rw [hsize]; exact hown.1) holds ⟨m, 0, none⟩ 1 c [u] (by rw [hsize]; rfl) hnews (by omega) (by omega) (by rw [hby]; exact growslice_fits (by omega) hn)
      rw [hrun] at hr
      cases hr
      exact .inr ⟨_, rfl, Nat.le_refl _⟩

/-- A list more. -/
theorem OutIs.append (w : World) (base : Nat) (v : Value) (L : List (List Int)) (h : OutIs w base v L) (x : List Int) (u : Value) (hx : ElAt w base v.ownBlock x u) (m c : Nat) (hm : w.cell? ⟨m, 0, none⟩ = some u) (hn : L.length ≤ 1000000000000) (hbase : base ≤ w.heap.size) :
    ∃ v' w', (Builtin.append_ #[86, 86] 86 #[v, .slice (some ⟨m, 0, none⟩) 1 c]).run Try.prog w = .ok v' w' ∧ OutIs w' base v' (L ++ [x]) ∧ w.grownBy w' v.ownBlock ∧ RowNext w v v' := by
  obtain ⟨xs, hown, hel⟩ := h
  obtain ⟨i0, hi, hz0, hz1, hz2⟩ := info_parts infoRow
  have hu : u.oneCell' = true := by obtain ⟨a, cap, rfl, _⟩ := hx; rfl
  obtain ⟨v', w', hrun, hown', hgrow, hnext, _⟩ := appendOne w base 86 40 i0 _ 24 Try.underlying86 hi hz0 hz1 hz2 rfl v L.length xs hown u hu m c hm (by omega) (by unfold maxLen; omega) hbase
  refine ⟨v', w', hrun, ⟨xs ++ [u], by rw [List.length_append]; exact hown', fun i hi => ?_⟩, hgrow, hnext⟩
  have hxl : xs.length = L.length := by have := hown.1; omega
  by_cases h : i < L.length
  · obtain ⟨u', h1, h2⟩ := hel i h
    refine ⟨u', by rw [List.getElem?_append_left (by omega)]; exact h1, ?_⟩
    rw [List.getElem_append_left h]
    exact h2.grown hgrow hnext
  · have : i = L.length := by simp at hi; omega
    subst this
    refine ⟨u, by rw [List.getElem?_append_right (by omega), hxl]; simp, ?_⟩
    rw [List.getElem_append_right (by omega)]
    simp only [Nat.sub_self, List.getElem_cons_zero]
    exact hx.grown hgrow hnext

theorem appendI_none (w : World) (q c : Nat) : (Builtin.append_ #[40, 40] 40 #[.slice (some ⟨q, 0, none⟩) 0 0, .slice none 0 c]).run Try.prog w = .ok (.slice (some ⟨q, 0, none⟩) 0 0) w := by kernel_rfl
theorem appendI_some (w : World) (q c : Nat) (a : Addr) : (Builtin.append_ #[40, 40] 40 #[.slice (some ⟨q, 0, none⟩) 0 0, .slice (some a) 0 c]).run Try.prog w = .ok (.slice (some ⟨q, 0, none⟩) 0 0) w := by kernel_rfl

/-- A copy of a list, in a row of the call's own. -/
theorem copyInts (w : World) (q : Nat) (hq : w.heap[q]? = some (.cells #[] 3)) (a : Option Addr) (c : Nat) (l : List Int) (hl : l.length ≤ 100) (hx : (a = none ∧ l = []) ∨ ∃ p, a = some ⟨p, 0, none⟩ ∧ IntsAt w p l) :
    ∃ v w', (Builtin.append_ #[40, 40] 40 #[.slice (some ⟨q, 0, none⟩) 0 0, .slice a l.length c]).run Try.prog w = .ok v w' ∧ w'.ownsRow q 3 1 v l.length (l.map (Value.int .i64)) ∧ w.grownBy w' (some q) ∧ v ≠ .slice none 0 0 ∧ (v.ownBlock = some q ∨ ∃ g, v.ownBlock = some g ∧ w.heap.size ≤ g) := by
  have hown0 : w.ownsRow q 3 1 (.slice (some ⟨q, 0, none⟩) 0 0) 0 [] :=
    ⟨rfl, .inr ⟨q, 0, #[], rfl, Nat.le_refl _, hq, Nat.le_refl _, Nat.zero_le _, rfl, rfl⟩⟩
  have hqlt := (Array.getElem?_eq_some_iff.1 hq).1
  by_cases h0 : l = []
  · subst h0
    refine ⟨_, w, ?_, hown0, World.grownBy.refl _ _, by simp, .inl rfl⟩
    rcases hx with ⟨rfl, _⟩ | ⟨p, rfl, _⟩
    · exact appendI_none w q c
    · exact appendI_some w q c _
  · obtain ⟨p, rfl, hI⟩ := hx.resolve_left (fun h => h0 h.2)
    obtain ⟨i0, hi, hz0, hz1, hz2⟩ := info_parts infoInt
    have hnews : ∀ j u, (l.map (Value.int .i64))[j]? = some u → w.cell? ((⟨p, 0, none⟩ : Addr).add j) = some u := fun j u hu => by
      rw [List.getElem?_map, Option.map_eq_some_iff] at hu
      obtain ⟨n, hn, rfl⟩ := hu
      obtain ⟨hj, rfl⟩ := List.getElem?_eq_some_iff.1 hn
      have e : ((⟨p, 0, none⟩ : Addr).add j) = ⟨p, j, none⟩ := by unfold Addr.add; split <;> simp_all
      rw [e]
      exact hI.cell j hj
    have hone : ∀ u ∈ l.map (Value.int .i64), u.oneCell' = true := fun u hu => by
      obtain ⟨n, _, rfl⟩ := List.mem_map.1 hu
      rfl
    obtain ⟨v', w', hrun, hown', hgrow, hnil⟩ := run_append_own (P := Try.prog) w q 40 40 3 i0 _ 1 8 Try.underlying40 hi hz0 hz1 hz2 rfl (by decide) _ 0 [] hown0 ⟨p, 0, none⟩ l.length c (l.map (Value.int .i64)) (by simp) hnews hone (by unfold maxLen; omega) (by omega) (Nat.le_of_lt hqlt)
    refine ⟨v', w', hrun, by simpa using hown', hgrow, fun e => (by have := (hnil.1 e).1; cases this), ?_⟩
    have hr := run_append_grow (P := Try.prog) w 40 40 3 i0 _ Try.underlying40 hi hz0 ⟨q, 0, none⟩ 0 0 [] (by simp) (by simp) ⟨p, 0, none⟩ l.length c (l.map (Value.int .i64)) (by rw [hz1]; simp) hnews (by have := List.length_pos_iff.2 h0; omega) (by omega) (by rw [hz2]; exact growslice_fits (by have := List.length_pos_iff.2 h0; omega) (by omega))
    rw [hrun] at hr
    cases hr
    exact .inr ⟨_, rfl, Nat.le_refl _⟩

/-- A number more, in a row of the call's own. -/
theorem appendInt (w : World) (q : Nat) (v : Value) (l : List Int) (hl : l.length ≤ 100) (hown : w.ownsRow q 3 1 v l.length (l.map (Value.int .i64))) (x : Int) (m c : Nat) (hm : w.cell? ⟨m, 0, none⟩ = some (.int .i64 x)) (hq : q ≤ w.heap.size) :
    ∃ g cap w', (Builtin.append_ #[40, 40] 40 #[v, .slice (some ⟨m, 0, none⟩) 1 c]).run Try.prog w = .ok (.slice (some ⟨g, 0, none⟩) (l.length + 1) cap) w' ∧ q ≤ g ∧ IntsAt w' g (l ++ [x]) ∧ w.grownBy w' v.ownBlock := by
  obtain ⟨i0, hi, hz0, hz1, hz2⟩ := info_parts infoInt
  obtain ⟨v', w', hrun, hown', hgrow, _, hnn⟩ := appendOne w q 40 3 i0 _ 8 Try.underlying40 hi hz0 hz1 hz2 rfl v l.length _ hown (.int .i64 x) rfl m c hm (by omega) (by unfold maxLen; omega) hq
  rcases hown'.2 with ⟨h, _⟩ | ⟨g, cap, cur, rfl, hbg, hg, hnc, hcm, hcs, htake⟩
  · exact absurd h hnn
  · refine ⟨g, cap, w', hrun, hbg, ⟨cur, _, hg, fun i hi => ?_⟩, hgrow⟩
    have e : (l ++ [x]).map (Value.int .i64) = l.map (Value.int .i64) ++ [Value.int .i64 x] := by simp
    rw [← e] at htake
    have h1 : (cur.toList.take ((l.length + 1) * 1))[i]? = some (.int .i64 (l ++ [x])[i]) := by
      rw [htake, List.getElem?_map, List.getElem?_eq_getElem hi]; rfl
    rw [List.getElem?_take] at h1
    split at h1
    · simpa using h1
    · cases h1
end Go.Proofs.Ytjkegmjjhdmkiaa
namespace Go.Proofs.Ytjkegmjjhdmkiaa
open Go.RowKit Go.Shelf
set_option maxRecDepth 100000

theorem joins_congr {m m' : Nat → Nat → Bool} {f f' s s' : Nat → Bool} {ns nf : Nat} (hm : ∀ i k, i < nf → k < ns → m i k = m' i k) (hf : ∀ i, i < nf → f i = f' i) (hs : ∀ k, k < ns → s k = s' k) :
    ∀ (r : Nat) (l : List Int), l.length + r = nf → joins m f s ns r l = joins m' f' s' ns r l := by
  intro r
  induction r with
  | zero =>
    intro l _
    have e : (List.range ns).all (fun k => !s k || l.contains (k : Int)) = (List.range ns).all (fun k => !s' k || l.contains (k : Int)) := by
      rw [Bool.eq_iff_iff, List.all_eq_true, List.all_eq_true]
      refine forall_congr' fun k => imp_congr_right fun hk => ?_
      rw [hs k (List.mem_range.1 hk)]
    unfold joins
    rw [e]
  | succ r ih =>
    intro l hl
    have e1 : ∀ y : Int, joins m f s ns r (l ++ [y]) = joins m' f' s' ns r (l ++ [y]) := fun y => ih _ (by simp; omega)
    have e0 : joins m f s ns (r + 1) l = (if f l.length then [] else joins m f s ns r (l ++ [-1])) ++ (List.range ns).flatMap fun k => if m l.length k && !l.contains (k : Int) then joins m f s ns r (l ++ [(k : Int)]) else [] := rfl
    have e0' : joins m' f' s' ns (r + 1) l = (if f' l.length then [] else joins m' f' s' ns r (l ++ [-1])) ++ (List.range ns).flatMap fun k => if m' l.length k && !l.contains (k : Int) then joins m' f' s' ns r (l ++ [(k : Int)]) else [] := rfl
    rw [e0, e0', hf _ (by omega), e1]
    congr 1
    unfold List.flatMap
    congr 1
    refine List.map_congr_left fun k hk => ?_
    rw [hm _ _ (by omega) (List.mem_range.1 hk), e1]

/-- The document's joinings that go on from a list. -/
def jl (b : Bo) (z : Int × Int) (r : Nat) (l : List Int) : List (List Int) := joins (b.same z) (sureAt b.fs) (sureAt b.ss) b.ss.length r l
theorem jl_all (b : Bo) (z : Int × Int) : jl b z b.fs.length [] = bJoins b (sures b.fs) (sures b.ss) z := by
  unfold jl bJoins jsFrom
  refine joins_congr (nf := b.fs.length) (fun i k _ hk => (row_bit b z i k hk).symm) (fun i hi => ?_) (fun k hk => ?_) _ _ (by simp)
  · unfold sures; rw [maskOf_testBit]; simp [hi]
  · unfold sures; rw [maskOf_testBit]; simp [hk]
theorem jl_len (b : Bo) (z : Int × Int) (r : Nat) (l : List Int) : (jl b z r l).length ≤ (b.ss.length + 1) ^ r := joins_len _ _
theorem jl_zero (b : Bo) (z : Int × Int) (l : List Int) : jl b z 0 l = if (List.range b.ss.length).all (fun k => !sureAt b.ss k || l.contains (k : Int)) then [l] else [] := rfl
/-- The joinings that go on with one of the first k stars. -/
def jk (b : Bo) (z : Int × Int) (r : Nat) (l : List Int) (k : Nat) : List (List Int) := (List.range k).flatMap fun i => if b.same z l.length i && !l.contains (i : Int) then jl b z r (l ++ [(i : Int)]) else []
theorem jl_succ (b : Bo) (z : Int × Int) (r : Nat) (l : List Int) : jl b z (r + 1) l = (if sureAt b.fs l.length then [] else jl b z r (l ++ [-1])) ++ jk b z r l b.ss.length := rfl
theorem jk_succ (b : Bo) (z : Int × Int) (r : Nat) (l : List Int) (k : Nat) : jk b z r l (k + 1) = jk b z r l k ++ if b.same z l.length k && !l.contains (k : Int) then jl b z r (l ++ [(k : Int)]) else [] := by
  unfold jk
  rw [List.range_succ, List.flatMap_append]
  simp
theorem jk_len (b : Bo) (z : Int × Int) (r : Nat) (l : List Int) (k : Nat) : (jk b z r l k).length ≤ k * (b.ss.length + 1) ^ r := by
  induction k with
  | zero => simp [jk]
  | succ k ih =>
    rw [jk_succ, List.length_append, Nat.succ_mul]
    refine Nat.add_le_add ih ?_
    split
    · exact jl_len _ _ _ _
    · exact Nat.zero_le _

theorem grown_trans {w w1 w2 : World} {rb rb1 : Option Nat} (h : w.grownBy w1 rb) (k : w1.grownBy w2 rb1) (hr : rb1 = rb ∨ ∃ g, rb1 = some g ∧ w.heap.size ≤ g) : w.grownBy w2 rb := by
  refine ⟨k.os.trans h.os, k.tape.trans h.tape, k.output.trans h.output, Nat.le_trans h.size k.size, fun i hi hn => ?_⟩
  refine (k.block i (Nat.lt_of_lt_of_le hi h.size) (fun e => ?_)).trans (h.block i hi hn)
  rcases hr with rfl | ⟨g, rfl, hg⟩
  · exact hn e
  · cases e; omega
theorem RowNext.trans {w w1 : World} {v v1 v2 : Value} (h : RowNext w v v1) (k : RowNext w1 v1 v2) (hs : w.heap.size ≤ w1.heap.size) : RowNext w v v2 := by
  rcases k with k | ⟨g, k, hg⟩
  · rcases h with h | ⟨g, h, hg⟩
    · exact .inl (k.trans h)
    · exact .inr ⟨g, k.trans h, hg⟩
  · exact .inr ⟨g, k, Nat.le_trans hs hg⟩
theorem OutIs.grown {w w' : World} {base : Nat} {v : Value} {L : List (List Int)} {rb : Option Nat} (h : OutIs w base v L) (hg : w.grownBy w' rb) (hr : ∀ q, rb = some q → w.heap.size ≤ q) : OutIs w' base v L := by
  obtain ⟨xs, hown, hel⟩ := h
  have hlt := hown.lt
  refine ⟨xs, hown.kept hg ?_, fun i hi => ?_⟩
  · cases hv : v.ownBlock with
    | none => exact .inl rfl
    | some g =>
      right
      intro e
      have := hr g e.symm
      have := (hlt g hv).2
      omega
  · obtain ⟨u, h1, a, cap, rfl, h2⟩ := hel i hi
    refine ⟨_, h1, a, cap, rfl, h2.imp id ?_⟩
    rintro ⟨q, rfl, hI, hb, hq⟩
    refine ⟨q, rfl, hI.later (hg.block q hI.lt (fun e => ?_)), hb, hq⟩
    have := hr q e.symm
    have := hI.lt
    omega
end Go.Proofs.Ytjkegmjjhdmkiaa
namespace Go.Proofs.Ytjkegmjjhdmkiaa
open Go.RowKit Go.Shelf
set_option maxHeartbeats 6400000
set_option maxRecDepth 100000
set_option linter.unusedSimpArgs false

def JPost (base : Nat) (v : Value) (L : List (List Int)) (w : World) (e : Ending) (w' : World) : Prop :=
  ∃ v', e = .returned v' ∧ OutIs w' base v' L ∧ w.grownBy w' v.ownBlock ∧ RowNext w v v'

theorem OutIs.alloc {w : World} {base : Nat} {v : Value} {L : List (List Int)} (h : OutIs w base v L) (o : Obj) : OutIs (w.alloc o) base v L := h.grown (World.grownBy_alloc w o none) (fun q e => by cases e)
theorem ElAt.alloc {w : World} {base : Nat} {rb : Option Nat} {x : List Int} {v : Value} (h : ElAt w base rb x v) (o : Obj) : ElAt (w.alloc o) base rb x v := h.grown (World.grownBy_alloc w o rb) (.inl rfl)
theorem ElAt.ints {w : World} {base : Nat} {rb : Option Nat} {x : List Int} {a : Option Addr} {n c : Nat} (h : ElAt w base rb x (.slice a n c)) : IntsV w a x ∧ n = x.length := by
  obtain ⟨a', cap, e, h⟩ := h
  cases e
  refine ⟨?_, rfl⟩
  rcases h with ⟨_, rfl⟩ | ⟨q, rfl, hI, _⟩
  · exact IntsV.nil _ _
  · exact hI.v

theorem joinings_leaf (b : Bo) (fa sa : Option Addr) (fc sc : Nat) (hok : b.ok = true) (z : Int × Int) (base : Nat) (l : List Int) (a : Option Addr) (cap : Nat) (v : Value) (L : List (List Int)) (w : World) (hl : l.length = b.fs.length) (hb : BoArg w b fa sa)
    (ho : OutIs w base v L) (hL : L.length ≤ 1000000000000) (he : ElAt w base v.ownBlock l (.slice a l.length cap)) (hbase : base ≤ w.heap.size) :
    Calls Try.prog 76 #[.agg #[.int .i64 b.e.lo, .int .i64 b.e.hi, .int .i64 b.n.lo, .int .i64 b.n.hi, .slice fa b.fs.length fc, .slice sa b.ss.length sc], .int .i64 z.1, .int .i64 z.2, .slice a l.length cap, v] w (JPost base v (L ++ jl b z 0 l) w) := by
  have hlens := bo_lens hok
  have HB := Lib.hid hb
  have HO := Lib.hid ho
  have HE := Lib.hid he
  have HL := Lib.hid hl
  have hlb : ((l.length : Int) == (b.fs.length : Int)) = true := by rw [hl]; simp
  have hll : (l.length : Int) ≤ 6 := by omega
  have hsl : (b.ss.length : Int) ≤ 6 := by omega
  have hl100 : l.length ≤ 100 := by omega
  have hjz := jl_zero b z l
  have HJ := Lib.hid hjz
  clear hb ho he hl hjz
  go_enter Try.func76, Try.ntmps76
  go_upto_region 3 with fail
  have ho0 := HO.out.alloc (.cells #[.int .i64 b.e.lo, .int .i64 b.e.hi, .int .i64 b.n.lo, .int .i64 b.n.hi, .slice fa b.fs.length fc, .slice sa b.ss.length sc] 26)
  have he0 := HE.out.alloc (.cells #[.int .i64 b.e.lo, .int .i64 b.e.hi, .int .i64 b.n.lo, .int .i64 b.n.hi, .slice fa b.fs.length fc, .slice sa b.ss.length sc] 26)
  have hg0 := World.grownBy_alloc w (.cells #[.int .i64 b.e.lo, .int .i64 b.e.hi, .int .i64 b.n.lo, .int .i64 b.n.hi, .slice fa b.fs.length fc, .slice sa b.ss.length sc] 26) v.ownBlock
  have g0 := obj_new w (.cells #[.int .i64 b.e.lo, .int .i64 b.e.hi, .int .i64 b.n.lo, .int .i64 b.n.hi, .slice fa b.fs.length fc, .slice sa b.ss.length sc] 26)
  have hb0 := below_alloc w (.cells #[.int .i64 b.e.lo, .int .i64 b.e.hi, .int .i64 b.n.lo, .int .i64 b.n.hi, .slice fa b.fs.length fc, .slice sa b.ss.length sc] 26)
  generalize w.alloc (.cells #[.int .i64 b.e.lo, .int .i64 b.e.hi, .int .i64 b.n.lo, .int .i64 b.n.hi, .slice fa b.fs.length fc, .slice sa b.ss.length sc] 26) = W0 at ho0 he0 hg0 g0 hb0 ⊢
  obtain ⟨p, hp⟩ : ∃ p, w.heap.size = p := ⟨_, rfl⟩
  rw [hp] at g0 ⊢
  have hbase0 : base ≤ W0.heap.size := Nat.le_trans hbase hb0.size
  clear hp
  have HO0 := Lib.hid ho0
  have HE0 := Lib.hid he0
  have hints := he0.ints.1
  clear ho0 he0 HO HE
  go_wp2_with fail
  go_loopw [12] (fun i wr => ∃ k : Nat, k ≤ b.ss.length ∧ i = .int .i64 k ∧ wr = W0 ∧ ∀ j, j < k → sureAt b.ss j = true → (j : Int) ∈ l) (fun i _ => b.ss.length - (intOf i).toNat)
  case atStart => exact ⟨0, Nat.zero_le _, rfl, rfl, fun j hj => absurd hj (Nat.not_lt_zero _)⟩
  case round =>
    obtain ⟨k, hk, rfl, rfl, hall⟩ := hrel
    have HALL := Lib.hid hall
    clear hall
    have c5 := cell_block g0 5
    simp only [List.getElem?_toArray, List.getElem?_cons_zero, List.getElem?_cons_succ] at c5
    by_cases hlt : k < b.ss.length
    · have hki : (k : Int) < b.ss.length := by omega
      obtain ⟨bq, bo, rfl, hbql, hE⟩ := (HB.out.s.below hb0 (Nat.le_refl _)) k hlt
      have c6 := hE.c6
      have hsa : sureAt b.ss k = b.ss[k].sure := by simp [sureAt, hlt]
      rw [← hsa] at c6
      have hnext : (sureAt b.ss k = true → (k : Int) ∈ l) → ∀ j, j < k + 1 → sureAt b.ss j = true → (j : Int) ∈ l := fun h j hj hs => by
        by_cases e : j = k
        · subst e; exact h hs
        · exact HALL.out j (by omega) hs
      have hno : sureAt b.ss k = true → (k : Int) ∉ l → jl b z 0 l = [] := fun h1 h2 => by
        rw [HJ.out, if_neg]
        intro h
        have := List.all_eq_true.1 h k (List.mem_range.2 hlt)
        simp [h1, h2] at this
      have HN := Lib.hid hnext
      have HNO := Lib.hid hno
      have hha := rhasl_any a cap l (k : Int) wr hints hl100
      have hmem : l.contains (k : Int) = true ↔ (k : Int) ∈ l := by simp
      have HM := Lib.hid hmem
      clear hE hsa hnext hno hmem
      generalize sureAt b.ss k = s at c6 HN HNO
      generalize l.contains (k : Int) = q at hha HM
      cases s
      · go_wp2_with fail
        go_roundw
        case rel => exact ⟨k + 1, by omega, by go_num, trivial, HN.out (fun h => by cases h)⟩
        case measure => simp [intOf]; omega
      · go_wp2_with fail
        refine hha.mono ?_
        rintro e w' ⟨rfl, rfl⟩
        cases q
        · go_wp2_with fail
          go_ret
          exact ⟨v, rfl, by rw [HNO.out (by first | rfl | trivial) (fun h => by have := HM.out.2 h; cases this), List.append_nil]; exact HO0.out, hg0, .inl rfl⟩
        · go_wp2_with fail
          go_roundw
          case rel => exact ⟨k + 1, by omega, by go_num, trivial, HN.out (fun _ => HM.out.1 (by first | rfl | trivial))⟩
          case measure => simp [intOf]; omega
    · obtain rfl : k = b.ss.length := by omega
      have hj : jl b z 0 l = [l] := by
        rw [HJ.out, if_pos]
        rw [List.all_eq_true]
        intro j hj
        cases hs : sureAt b.ss j
        · rfl
        · have := HALL.out j (List.mem_range.1 hj) hs
          simpa using this
      have HJ1 := Lib.hid hj
      clear hj
      have ho1 := HO0.out.alloc (.cells #[.slice a l.length cap] 40)
      have he1 := HE0.out.alloc (.cells #[.slice a l.length cap] 40)
      have hg1 := World.grownBy_alloc wr (.cells #[.slice a l.length cap] 40) v.ownBlock
      obtain ⟨v', w1, hrun, ho2, hg2, hn2⟩ := OutIs.append _ base v L ho1 l _ he1 wr.heap.size 1 (cell_new _ _ _ 0 _ rfl) hL (by rw [World.size_alloc]; omega)
      have HO2 := Lib.hid ho2
      have hgg := (grown_trans hg0 hg1 (.inl rfl))
      have hgt := grown_trans hgg hg2 (.inl rfl)
      have hnn : RowNext w v v' := by
        rcases hn2 with h | ⟨g, h1, h2⟩
        · exact .inl h
        · exact .inr ⟨g, h1, Nat.le_trans hgg.size h2⟩
      have HNN := Lib.hid hnn
      clear ho1 he1 hg1 ho2 hg2 hn2 hgg hnn
      go_wp2_with (at_builtin; refine wpList_plain rfl fun K hK => ?_; unfold Oper.wp; simp [execOp, resolve, invoke, builtin, hrun, Result.andThen, Act.eval]; refine hK _ _ ?_; clear hK)
      go_ret
      exact ⟨v', rfl, by rw [HJ1.out]; exact HO2.out, hgt, HNN.out⟩
end Go.Proofs.Ytjkegmjjhdmkiaa
