/- Plain: bits of small numbers, as int. -/
import Derived.Test.YtjkegmjjhdmkiaaBU11
namespace Go.Proofs.Ytjkegmjjhdmkiaa
open Go.RowKit
set_option maxRecDepth 100000

theorem andI (a b : Nat) (ha : a < 64) (hb : b < 64) : bits .and .i64 (a : Int) (b : Int) = ((a &&& b : Nat) : Int) := by
  have h : ∀ i j : Fin 64, bits .and .i64 (i.val : Int) (j.val : Int) = ((i.val &&& j.val : Nat) : Int) := by decide +kernel
  exact h ⟨a, ha⟩ ⟨b, hb⟩
theorem orI (a b : Nat) (ha : a < 64) (hb : b < 64) : bits .or .i64 (a : Int) (b : Int) = ((a ||| b : Nat) : Int) := by
  have h : ∀ i j : Fin 64, bits .or .i64 (i.val : Int) (j.val : Int) = ((i.val ||| j.val : Nat) : Int) := by decide +kernel
  exact h ⟨a, ha⟩ ⟨b, hb⟩
theorem andNotI (a b : Nat) (ha : a < 64) (hb : b < 64) : bits .andNot .i64 (a : Int) (b : Int) = ((andN a b : Nat) : Int) := by
  have h : ∀ i j : Fin 64, bits .andNot .i64 (i.val : Int) (j.val : Int) = ((andN i.val j.val : Nat) : Int) := by decide +kernel
  exact h ⟨a, ha⟩ ⟨b, hb⟩
theorem singleI (a : Nat) (ha : a < 64) : bits .and .i64 (a : Int) ((a : Int) - 1) = 0 ↔ a = 0 ∨ ∃ k, k < 6 ∧ a = 2 ^ k := by
  have h : ∀ i : Fin 64, bits .and .i64 (i.val : Int) ((i.val : Int) - 1) = 0 ↔ i.val = 0 ∨ ∃ k, k < 6 ∧ i.val = 2 ^ k := by decide +kernel
  exact h ⟨a, ha⟩
theorem bitI (a k : Nat) (ha : a < 64) : bits .and .i64 ((a : Int) / 2 ^ k) 1 = if a.testBit k then 1 else 0 := by
  rw [shr_u64, show (1 : Int) = ((1 : Nat) : Int) from rfl, andI _ _ (Nat.lt_of_le_of_lt (Nat.div_le_self _ _) ha) (by omega), Nat.and_one_is_mod, Nat.testBit_eq_decide_div_mod_eq]
  by_cases h : a / 2 ^ k % 2 = 1
  · simp [h]
  · have : a / 2 ^ k % 2 = 0 := by omega
    simp [this]
theorem powI (n : Nat) (hn : n ≤ 6) : IntKind.i64.wrap (2 ^ n) = ((2 ^ n : Nat) : Int) := by
  have h : 2 ^ n ≤ 2 ^ 6 := Nat.pow_le_pow_right (by omega) hn
  have e : ((2 : Int) ^ n) = ((2 ^ n : Nat) : Int) := by simp
  rw [e, IntKind.wrap_i64]
  generalize 2 ^ n = x at h
  omega
end Go.Proofs.Ytjkegmjjhdmkiaa
