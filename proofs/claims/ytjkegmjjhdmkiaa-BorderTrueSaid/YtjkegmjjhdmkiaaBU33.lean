/- The law BorderTrue, plain: what is told, if the stars truly are so. -/
import Derived.Test.YtjkegmjjhdmkiaaBU28
import Derived.Test.YtjkegmjjhdmkiaaBU32
namespace Go.Proofs.Ytjkegmjjhdmkiaa
open Go.RowKit Go.Shelf
set_option maxHeartbeats 3200000
set_option maxRecDepth 100000
set_option linter.unusedVariables false

theorem bestOf_some : ∀ {L : List Joined}, L ≠ [] → ∃ y, bestOf L = some y := by
  intro L h
  cases hb : bestOf L with
  | none => exact absurd (bestOf_none hb) h
  | some y => exact ⟨y, rfl⟩

/-- What is told of a truth. -/
structure TrueLaw (b : Bo) (z : Int × Int) (sm : List Int) : Prop where
  lens : b.fs.length ≤ 6 ∧ b.ss.length ≤ 6
  len : sm.length = b.fs.length
  poss : ∃ M : Nat, bPossible b z.1 z.2 = (M, 0) ∧ 1 ≤ M ∧ M ≤ 117649
  shift : ∃ x y, bShift b = (x, y, 0) ∧ x.has z.1 = true ∧ y.has z.2 = true
  alone : ∃ A1 A2 : Nat, bAlone b = (A1, A2, 0) ∧ A1 < 64 ∧ A2 < 64 ∧ ∀ i k : Nat, i < b.fs.length → sm.getD i (-1) = (k : Int) → A1.testBit i = false ∧ A2.testBit k = false
  best : ∃ y : Joined, bBest b = (some y, 0) ∧ pairsIn sm ≤ pairsIn y.2 ∧ y.2.length = b.fs.length
  clash : ∀ e, ClashOut b e → e = .returned (.tuple #[.int .i64 0, .int .i64 0, .int .i64 4])
  pairs : ∀ i, i < b.fs.length → ∃ E S : Nat, bPairs b (i : Int) = (E, S, 0) ∧ E < 64 ∧ S < 64 ∧
    ((sm.getD i (-1) = -1 ∧ E = 0) ∨ ∃ k : Nat, k < b.ss.length ∧ sm.getD i (-1) = (k : Int) ∧ S.testBit k = true ∧ (E = 0 ∨ E = 2 ^ k) ∧ bSame b (i : Int) (k : Int) z.1 z.2 = (true, 0))

theorem true_law {b : Bo} {z : Int × Int} {sm : List Int} (hok : b.ok = true) (hz : b.shift z = true) (hj : IsJoin b (sures b.fs) (sures b.ss) z sm) : TrueLaw b z sm := by
  have hm : (z, sm) ∈ allOf b (sures b.fs) (sures b.ss) := mem_allOf.2 ⟨hz, hj⟩
  have hne : allOf b (sures b.fs) (sures b.ss) ≠ [] := List.ne_nil_of_mem hm
  have J := allOf_jlist hok hne
  have hlens := J.l6
  have hp1 : 2 ^ b.fs.length ≤ 64 := Nat.le_trans (Nat.pow_le_pow_right (by decide) hlens.1) (by decide)
  have hp2 : 2 ^ b.ss.length ≤ 64 := Nat.le_trans (Nat.pow_le_pow_right (by decide) hlens.2) (by decide)
  have hlt1 : allFirst ((allOf b (sures b.fs) (sures b.ss)).map (·.2)) < 2 ^ b.fs.length := allFirst_lt _ (fun x hx => by
    obtain ⟨u, hu, rfl⟩ := List.mem_map.1 hx
    exact Nat.le_of_eq (J.len u hu))
  have hlt2 : allSecond ((allOf b (sures b.fs) (sures b.ss)).map (·.2)) < 2 ^ b.ss.length := allSecond_lt _ (fun x hx => by
    obtain ⟨u, hu, rfl⟩ := List.mem_map.1 hx
    exact jent J hu)
  have hc : bCan b (sures b.fs) (sures b.ss) = true := by
    cases h : bCan b (sures b.fs) (sures b.ss)
    · exact absurd ((allOf_nil b _ _).2 h) hne
    · rfl
  refine ⟨hlens, hj.len, ?_, ?_, ?_, ?_, fun e he => ?_, fun i hi => ?_⟩
  · refine ⟨_, by unfold bPossible; rw [if_pos hok, if_pos hz], ?_, bJoins_len hok _ _ _⟩
    have := mem_bJoins.2 hj
    exact List.length_pos_iff.2 (List.ne_nil_of_mem this)
  · obtain ⟨x, y, h1, h2⟩ := bShift_law hok hne
    exact ⟨x, y, h1, h2.all _ hm⟩
  · refine ⟨andN (2 ^ b.fs.length - 1) (allFirst ((allOf b (sures b.fs) (sures b.ss)).map (·.2))), andN (2 ^ b.ss.length - 1) (allSecond ((allOf b (sures b.fs) (sures b.ss)).map (·.2))), by unfold bAlone; rw [if_pos hok, if_neg hne], Nat.lt_of_le_of_lt Nat.and_le_left (by have := Nat.two_pow_pos b.fs.length; omega), Nat.lt_of_le_of_lt Nat.and_le_left (by have := Nat.two_pow_pos b.ss.length; omega), fun i k hi hk => ?_⟩
    have hk1 : sm.getD i (-1) ≠ -1 := by rw [hk]; omega
    obtain ⟨n, hn, he, hs, _⟩ := prsAt_best J hi hm hk1
    have hnk : n = k := by have he' : sm.getD i (-1) = (n : Int) := he; omega
    subst hnk
    constructor
    · rw [andN_testBit _ _ i (by have := Nat.two_pow_pos b.fs.length; omega) (by omega)]
      have : (allFirst ((allOf b (sures b.fs) (sures b.ss)).map (·.2))).testBit i = true := (allFirst_at J i hi).2 (fun h => by rw [h] at hs; simp at hs)
      rw [this]; simp
    · rw [andN_testBit _ _ n (by have := Nat.two_pow_pos b.ss.length; omega) (by omega)]
      have : (allSecond ((allOf b (sures b.fs) (sures b.ss)).map (·.2))).testBit n = true := by
        rw [allSecond_bit, List.any_map, List.any_eq_true]
        refine ⟨_, hm, ?_⟩
        simp only [Function.comp]
        rw [jSecond_bit sm (fun y hy => (jent J hm y hy).imp id (fun h => h.1))]
        rw [← hk, getD_get (by rw [hj.len]; exact hi)]
        exact List.getElem_mem _
      rw [this]; simp
  · obtain ⟨y, hy⟩ := bestOf_some hne
    refine ⟨y, by unfold bBest; rw [if_pos hok, hy], ?_, J.len y (bestOf_mem _ _ hy)⟩
    rcases (best_law hy).2 _ hm with h | ⟨h, _⟩
    · exact Nat.le_of_lt h
    · exact Nat.le_of_eq h
  · unfold ClashOut at he
    rw [if_pos hok, if_pos hc] at he
    exact he
  · have hl := prsAt_lt J hi
    refine ⟨_, _, by unfold bPairs; rw [if_pos hok, if_pos (by simp; omega), if_neg hne, Int.toNat_natCast]; rfl, Nat.lt_of_lt_of_le hl.1 hp2, Nat.lt_of_lt_of_le hl.2 hp2, ?_⟩
    rcases hj.at' i hi with ⟨h1, _⟩ | ⟨k, hk, h1, h2, _⟩
    · exact .inl ⟨h1, prsAt_none J hi hm h1⟩
    · right
      have hk1 : sm.getD i (-1) ≠ -1 := by rw [h1]; omega
      obtain ⟨n, hn, he, hs, hE⟩ := prsAt_best J hi hm hk1
      have hnk : n = k := by have he' : sm.getD i (-1) = (n : Int) := he; omega
      subst hnk
      refine ⟨n, hk, h1, hs, hE, ?_⟩
      unfold bSame
      rw [if_pos hok, if_pos]
      · rw [Int.toNat_natCast, Int.toNat_natCast]
        rw [show ((z.1, z.2) : Int × Int) = z from rfl, h2]
      · rw [Bool.and_eq_true, Bool.and_eq_true]
        refine ⟨⟨?_, ?_⟩, hz⟩
        · simp [inR]; omega
        · simp [inR]; omega
end Go.Proofs.Ytjkegmjjhdmkiaa
