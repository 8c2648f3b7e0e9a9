/- The law BorderTrue, walked. -/
import Derived.Test.YtjkegmjjhdmkiaaBU30
import Derived.Test.YtjkegmjjhdmkiaaBU33
import Derived.Test.YtjkegmjjhdmkiaaBU24
import Derived.Test.YtjkegmjjhdmkiaaBU23
import Derived.Test.YtjkegmjjhdmkiaaBU34
namespace Go.Proofs.Ytjkegmjjhdmkiaa
open Go.RowKit Go.Shelf
set_option maxHeartbeats 25600000
set_option maxRecDepth 100000
set_option linter.unusedSimpArgs false
set_option linter.unusedVariables false

theorem lawTrue_any (a : Option Addr) (c : Nat) (xs : List Nat) (hx : ∀ x ∈ xs, x < 65536) (hl : xs.length ≤ 9223372036854775807) (w : World) (hu : U16B w w.heap.size a xs) :
    Calls Try.prog 5 #[.slice a xs.length c] w fun e w' => e = .returned (.bool true) ∧ Below w.heap.size w w' := by
  by_cases h0 : xs.length = 0
  · have hl0 : ((xs.length : Int) == 0) = true := by rw [h0]; rfl
    clear hl
    go_enter Try.func5, Try.ntmps5
    go_wp2_with fail
    refine (awake_any _).mono ?_
    rintro e w1 ⟨rfl, hb1⟩
    go_wp2
    go_ret
    exact ⟨rfl, hb1⟩
  have hl0 : ((xs.length : Int) == 0) = false := by simp; exact fun h => h0 (by rw [h]; rfl)
  have HX : Hid (NumsOk xs) := Lib.hid ⟨Nat.pos_of_ne_zero h0, hl, hx⟩
  have HU := Lib.hid hu
  clear hl hx hu h0
  go_enter Try.func5, Try.ntmps5
  go_wp2_with fail
  refine (draws_any a c xs w HU.out).mono ?_
  rintro e w1 ⟨pc, pb, rfl, hD, hpb, hb1⟩
  have HMK := Lib.hid (made_any pc pb a c xs HX.out w1 hD)
  have hpc : w.heap.size ≤ pc := Nat.le_trans hpb (Nat.le_of_lt hD.lt)
  clear hD hl0
  go_wp2_with fail
  refine HMK.out.mono ?_
  rintro e w2 ⟨b, fa, sa, fc, sc, z, sm, ia, ic, rfl, hBA, hIV, hok, hz, hj, hg⟩
  have hb0 : Below w.heap.size w w2 := hb1.grown hg hb1.size (fun q hq => by cases hq; exact hpc)
  have HT := Lib.hid (true_law hok hz hj)
  have HB := Lib.hid hBA
  have HI := Lib.hid hIV
  clear hBA hIV hok hz hj hg hb1 HMK hpb hpc
  go_upto_region 4 with fail
  obtain ⟨W3, hW3⟩ : ∃ W, (w2.alloc (.cells #[.int .i64 b.e.lo, .int .i64 b.e.hi, .int .i64 b.n.lo, .int .i64 b.n.hi, .slice fa b.fs.length fc, .slice sa b.ss.length sc] 26)) = W := ⟨_, rfl⟩
  rw [hW3]
  try simp only [Nat.add_assoc, Nat.reduceAdd]
  have hst_W3 : Steps (fun _ => False) w2 W3 := by rw [← hW3]; exact Steps.alloc _ w2 _
  have hz_W3 : W3.heap.size = w2.heap.size + 1 := by rw [← hW3]; simp
  have g0_W3 : W3.heap[w2.heap.size]? = some (.cells #[.int .i64 b.e.lo, .int .i64 b.e.hi, .int .i64 b.n.lo, .int .i64 b.n.hi, .slice fa b.fs.length fc, .slice sa b.ss.length sc] 26) := by rw [← hW3]; simp only [alloc_get, World.size_alloc]; repeat (first | exact if_pos trivial | exact if_pos (by omega) | rw [if_neg (by omega)])
  clear hW3
  have hbx : Below w2.heap.size w2 W3 := hst_W3.below (Nat.le_refl _) (fun _ _ h => h)
  have g3 := g0_W3
  have HBX := Lib.hid hbx
  have HB3 := Lib.hid (HB.out.below hbx)
  replace hb0 := hb0.trans (hbx.mono hb0.size)
  have HI3 := Lib.hid (HI.out.below hbx (Nat.le_refl _))
  obtain ⟨p3, hp3⟩ : ∃ p, w2.heap.size = p := ⟨_, rfl⟩
  rw [hp3] at g3 ⊢
  clear hst_W3 hz_W3 g0_W3 hbx HB HI HBX hp3
  obtain ⟨M, hM, hM1, hM2⟩ := HT.out.poss
  have hMi : ¬ (M : Int) < 1 := by omega
  have HM := Lib.hid hM
  clear hM
  have hbs := Below.refl W3.heap.size W3
  have c0 := cell_block g3 0
  have c1 := cell_block g3 1
  have c2 := cell_block g3 2
  have c3 := cell_block g3 3
  have c4 := cell_block g3 4
  have c5 := cell_block g3 5
  simp only [List.getElem?_toArray, List.getElem?_cons_zero, List.getElem?_cons_succ] at c0 c1 c2 c3 c4 c5
  go_wp2_with fail
  refine (possible_any b z.1 z.2 fa sa fc sc _ HB3.out).mono ?_
  rintro e w4 ⟨he, hb1⟩
  rw [HM.out] at he
  simp only at he
  subst he
  have g4 := obj_later hb1 g3
  replace hbs := hbs.trans (hb1.mono hbs.size)
  clear hb1 g3 HM c0 c1 c2 c3 c4 c5
  obtain ⟨sx, sy, hS, hS1, hS2⟩ := HT.out.shift
  have HS := Lib.hid hS
  have HS12 := Lib.hid (And.intro hS1 hS2)
  clear hS hS1 hS2
  have c0 := cell_block g4 0
  have c1 := cell_block g4 1
  have c2 := cell_block g4 2
  have c3 := cell_block g4 3
  have c4 := cell_block g4 4
  have c5 := cell_block g4 5
  simp only [List.getElem?_toArray, List.getElem?_cons_zero, List.getElem?_cons_succ] at c0 c1 c2 c3 c4 c5
  go_wp2_with fail
  refine (shift_any b fa sa fc sc _ (HB3.out.below hbs)).mono ?_
  rintro e w5 ⟨he, hb1⟩
  rw [HS.out] at he
  simp only at he
  subst he
  have g5 := obj_later hb1 g4
  replace hbs := hbs.trans (hb1.mono hbs.size)
  clear hb1 g4 HS c0 c1 c2 c3 c4 c5
  unfold spV
  go_upto_region 6 with fail
  obtain ⟨W6, hW6⟩ : ∃ W, ((w5.alloc (.cells #[.int .i64 sx.lo, .int .i64 sx.hi] 23)).alloc (.cells #[.int .i64 sy.lo, .int .i64 sy.hi] 23)) = W := ⟨_, rfl⟩
  rw [hW6]
  try simp only [Nat.add_assoc, Nat.reduceAdd]
  have hst_W6 : Steps (fun _ => False) w5 W6 := by rw [← hW6]; exact (Steps.alloc _ w5 _).trans (Steps.alloc (fun _ => False) _ _) (fun _ _ h => h)
  have hz_W6 : W6.heap.size = w5.heap.size + 2 := by rw [← hW6]; simp
  have g0_W6 : W6.heap[w5.heap.size]? = some (.cells #[.int .i64 sx.lo, .int .i64 sx.hi] 23) := by rw [← hW6]; simp only [alloc_get, World.size_alloc]; repeat (first | exact if_pos trivial | exact if_pos (by omega) | rw [if_neg (by omega)])
  have g1_W6 : W6.heap[w5.heap.size + 1]? = some (.cells #[.int .i64 sy.lo, .int .i64 sy.hi] 23) := by rw [← hW6]; simp only [alloc_get, World.size_alloc]; repeat (first | exact if_pos trivial | exact if_pos (by omega) | rw [if_neg (by omega)])
  clear hW6
  have hb1 : Below w5.heap.size w5 W6 := hst_W6.below (Nat.le_refl _) (fun _ _ h => h)
  have g6 := obj_later hb1 g5
  replace hbs := hbs.trans (hb1.mono hbs.size)
  obtain ⟨p5, hp5⟩ : ∃ p, w5.heap.size = p := ⟨_, rfl⟩
  rw [hp5] at g0_W6 g1_W6 ⊢
  clear hb1 g5 hst_W6 hz_W6 hp5
  obtain ⟨A1, A2, hA, hA1, hA2, hA3⟩ := HT.out.alone
  have HA := Lib.hid hA
  have HA3 := Lib.hid hA3
  have hA1i : (A1 : Int) < 64 := by omega
  have hA2i : (A2 : Int) < 64 := by omega
  clear hA hA3
  have c0 := cell_block g6 0
  have c1 := cell_block g6 1
  have c2 := cell_block g6 2
  have c3 := cell_block g6 3
  have c4 := cell_block g6 4
  have c5 := cell_block g6 5
  simp only [List.getElem?_toArray, List.getElem?_cons_zero, List.getElem?_cons_succ] at c0 c1 c2 c3 c4 c5
  go_wp2_with fail
  refine (alone_any b fa sa fc sc _ (HB3.out.below hbs)).mono ?_
  rintro e w7 ⟨he, hb1⟩
  rw [HA.out] at he
  simp only at he
  subst he
  have g7 := obj_later hb1 g6
  have m0 := obj_later hb1 g0_W6
  have m1 := obj_later hb1 g1_W6
  replace hbs := hbs.trans (hb1.mono hbs.size)
  clear hb1 g6 g0_W6 g1_W6 HA c0 c1 c2 c3 c4 c5
  obtain ⟨y, hy, hy1, hy2⟩ := HT.out.best
  have HY := Lib.hid hy
  have HY1 := Lib.hid hy1
  have hyl : y.2.length ≤ 100 := by have := HT.out.lens; omega
  clear hy hy1 hy2
  have c0 := cell_block g7 0
  have c1 := cell_block g7 1
  have c2 := cell_block g7 2
  have c3 := cell_block g7 3
  have c4 := cell_block g7 4
  have c5 := cell_block g7 5
  simp only [List.getElem?_toArray, List.getElem?_cons_zero, List.getElem?_cons_succ] at c0 c1 c2 c3 c4 c5
  go_wp2_with fail
  refine (best_any b fa sa fc sc _ (HB3.out.below hbs)).mono ?_
  rintro e w8 ⟨he, hb1⟩
  rw [HY.out] at he
  obtain ⟨qy, cy, he, hIy⟩ := he
  subst he
  have g8 := obj_later hb1 g7
  have n0 := obj_later hb1 m0
  have n1 := obj_later hb1 m1
  have HIY := Lib.hid hIy.v
  replace hbs := hbs.trans (hb1.mono hbs.size)
  clear hb1 g7 m0 m1 HY hIy c0 c1 c2 c3 c4 c5
  have c0 := cell_block g8 0
  have c1 := cell_block g8 1
  have c2 := cell_block g8 2
  have c3 := cell_block g8 3
  have c4 := cell_block g8 4
  have c5 := cell_block g8 5
  simp only [List.getElem?_toArray, List.getElem?_cons_zero, List.getElem?_cons_succ] at c0 c1 c2 c3 c4 c5
  go_wp2_with fail
  refine (clash_any b fa sa fc sc _ (HB3.out.below hbs)).mono ?_
  rintro e w9 ⟨he, hb1⟩
  have he := HT.out.clash e he
  subst he
  have g9 := obj_later hb1 g8
  have l0 := obj_later hb1 n0
  have l1 := obj_later hb1 n1
  have HIY9 := Lib.hid (HIY.out.below hb1 (Nat.le_refl _))
  replace hbs := hbs.trans (hb1.mono hbs.size)
  clear hb1 g8 n0 n1 HIY c0 c1 c2 c3 c4 c5
  have k0 := cell_block l0 0
  have k1 := cell_block l0 1
  have k2 := cell_block l1 0
  have k3 := cell_block l1 1
  simp only [List.getElem?_toArray, List.getElem?_cons_zero, List.getElem?_cons_succ] at k0 k1 k2 k3
  go_wp2_with fail
  refine (inside_any sx z.1 _).mono ?_
  rintro e w10 ⟨rfl, hb1⟩
  rw [HS12.out.1]
  have g10 := obj_later hb1 g9
  have l1' := obj_later hb1 l1
  have HIY10 := Lib.hid (HIY9.out.below hb1 (Nat.le_refl _))
  replace hbs := hbs.trans (hb1.mono hbs.size)
  clear hb1 g9 l0 l1 HIY9 k0 k1 k2 k3
  have k2 := cell_block l1' 0
  have k3 := cell_block l1' 1
  simp only [List.getElem?_toArray, List.getElem?_cons_zero, List.getElem?_cons_succ] at k2 k3
  go_wp2_with fail
  refine (inside_any sy z.2 _).mono ?_
  rintro e w11 ⟨rfl, hb1⟩
  rw [HS12.out.2]
  have g11 := obj_later hb1 g10
  have HIY11 := Lib.hid (HIY10.out.below hb1 (Nat.le_refl _))
  replace hbs := hbs.trans (hb1.mono hbs.size)
  clear hb1 g10 l1' HIY10 k2 k3
  go_wp2_with fail
  refine (count_any _ _ y.2 _ HIY11.out hyl).mono ?_
  rintro e w12 ⟨rfl, hb1⟩
  have g12 := obj_later hb1 g11
  replace hbs := hbs.trans (hb1.mono hbs.size)
  clear hb1 g11 HIY11
  have hsl : sm.length ≤ 6 := by have h1 := HT.out.lens; have h2 := HT.out.len; omega
  go_wp2_with fail
  refine (count_any _ _ sm _ (HI3.out.below hbs (Nat.le_refl _)) (by omega)).mono ?_
  rintro e w13 ⟨rfl, hb1⟩
  have g13 := obj_later hb1 g12
  replace hbs := hbs.trans (hb1.mono hbs.size)
  clear hb1 g12
  have q1 : ¬ ((pairsIn y.2 : Int) < (pairsIn sm : Int)) := by have := HY1.out; omega
  have q2 : decide (pairsIn y.2 < pairsIn sm) = false := decide_eq_false (by have := HY1.out; omega)
  generalize pairsIn y.2 = N1 at q1 q2 ⊢
  generalize pairsIn sm = N2 at q1 q2 ⊢
  have hsli : (sm.length : Int) ≤ 6 := by omega
  go_wp2_with fail
  clear q1 q2
  go_loopw [116] (fun i wr => ∃ k : Nat, k ≤ sm.length ∧ i = .int .i64 k ∧ Below w13.heap.size w13 wr) (fun i _ => sm.length - (intOf i).toNat)
  case atStart => exact ⟨0, Nat.zero_le _, rfl, Below.refl _ _⟩
  case round =>
    obtain ⟨k, hk, rfl, hbr⟩ := hrel
    by_cases hlt : k < sm.length
    · have hki : (k : Int) < sm.length := by omega
      have hkf : k < b.fs.length := by rw [← HT.out.len]; exact hlt
      have hbs2 := hbs.trans (hbr.mono hbs.size)
      obtain ⟨q, oo, rfl, hq, hc⟩ := (HI3.out.below hbs2 (Nat.le_refl _)) k hlt
      have hget : sm[k] = sm.getD k (-1) := (getD_get hlt).symm
      rw [hget] at hc
      have gr := obj_later hbr g13
      obtain ⟨E, S, hP, hE, hS, hcase⟩ := HT.out.pairs k hkf
      have HP := Lib.hid hP
      have HA4 := Lib.hid (HA3.out k)
      have hEi : (E : Int) < 64 := by omega
      have hSi : (S : Int) < 64 := by omega
      clear hP hget
      generalize sm.getD k (-1) = v at hc hcase HA4
      have HC := Lib.hid hcase
      clear hcase
      have c0 := cell_block gr 0
      have c1 := cell_block gr 1
      have c2 := cell_block gr 2
      have c3 := cell_block gr 3
      have c4 := cell_block gr 4
      have c5 := cell_block gr 5
      simp only [List.getElem?_toArray, List.getElem?_cons_zero, List.getElem?_cons_succ] at c0 c1 c2 c3 c4 c5
      go_wp2_with fail
      refine (pairs_any b (k : Int) fa sa fc sc _ (HB3.out.below hbs2)).mono ?_
      rintro e w14 ⟨he, hb1⟩
      rw [HP.out] at he
      simp only at he
      subst he
      have g14 := obj_later hb1 gr
      have hbr2 := hbr.trans (hb1.mono hbr.size)
      have hbs3 := hbs2.trans (hb1.mono hbs2.size)
      clear hb1 gr HP hc c0 c1 c2 c3 c4 c5
      rcases HC.out with ⟨rfl, rfl⟩ | ⟨n, hn, rfl, h1, h2, h3⟩
      · go_wp2_with fail
        go_roundw
        case rel => exact ⟨k + 1, by omega, by go_num, hbr2⟩
        case measure => simp [intOf]; omega
      · have hv : ((n : Int) == -1) = false := by simp
        have hn6 : n ≤ 6 := by have := HT.out.lens; omega
        have hni : (n : Int) ≤ 6 := by omega
        have hn0 : (0 : Int) ≤ (n : Int) := by omega
        have HSM := Lib.hid h3
        have HE2 := Lib.hid h2
        have t1 := bitI S n hS
        rw [if_pos h1] at t1
        have t3 := bitI A1 k hA1
        have t4 := bitI A2 n hA2
        obtain ⟨z1, z2⟩ := HA4.out n hkf rfl
        rw [if_neg (by rw [z1]; simp)] at t3
        rw [if_neg (by rw [z2]; simp)] at t4
        have hpn : 2 ^ n < 64 := Nat.pow_lt_pow_right (m := n) (n := 6) (by omega) (by have := HT.out.lens; omega)
        have hpw := powI n hn6
        have t2 : bits .andNot .i64 (E : Int) ((2 ^ n : Nat) : Int) = 0 := by
          rw [andNotI E (2 ^ n) hE hpn]
          rcases HE2.out with h | h
          · rw [h, show andN 0 (2 ^ n) = 0 from by unfold andN; simp]; rfl
          · rw [h]
            have : andN (2 ^ n) (2 ^ n) = 0 := (andN_sub0 _ _ hpn hpn).2 (Nat.and_self _)
            rw [this]; rfl
        clear h1 h2 h3 z1 z2
        obtain ⟨pw, hpw2⟩ : ∃ m, 2 ^ n = m := ⟨_, rfl⟩
        rw [hpw2] at hpn hpw t2
        clear hpw2
        have c0 := cell_block g14 0
        have c1 := cell_block g14 1
        have c2 := cell_block g14 2
        have c3 := cell_block g14 3
        have c4 := cell_block g14 4
        have c5 := cell_block g14 5
        simp only [List.getElem?_toArray, List.getElem?_cons_zero, List.getElem?_cons_succ] at c0 c1 c2 c3 c4 c5
        go_wp2_with fail
        refine (xsame_any b (k : Int) (n : Int) z.1 z.2 fa sa fc sc _ (HB3.out.below hbs3)).mono ?_
        rintro e w15 ⟨he, hb1⟩
        rw [HSM.out] at he
        simp only at he
        subst he
        have hbr3 := hbr2.trans (hb1.mono hbr2.size)
        clear hb1 g14 HSM HE2 c0 c1 c2 c3 c4 c5
        go_wp2_with fail
        go_roundw
        case rel => exact ⟨k + 1, by omega, by go_num, hbr3⟩
        case measure => simp [intOf]; omega
    · obtain rfl : k = sm.length := by omega
      go_wp2_with fail
      refine (awake_any _).mono ?_
      rintro e w14 ⟨rfl, hb1⟩
      go_wp2
      go_ret
      exact ⟨rfl, hb0.trans ((hbs.trans ((hbr.trans (hb1.mono hbr.size)).mono hbs.size)).mono hb0.size)⟩
end Go.Proofs.Ytjkegmjjhdmkiaa
