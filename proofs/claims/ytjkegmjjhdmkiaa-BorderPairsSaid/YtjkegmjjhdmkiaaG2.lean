/- The document's answer: powers of two, the stars that are Sure. -/
import Derived.Test.YtjkegmjjhdmkiaaG1
namespace Go.Proofs.Ytjkegmjjhdmkiaa
open Go.RowKit Go.Shelf
set_option maxHeartbeats 1600000
set_option maxRecDepth 100000
set_option linter.unusedSimpArgs false

theorem power_any (n : Nat) (hn : n ≤ 20) (w : World) : Calls Try.prog 54 #[.int .i64 n] w fun e w' => e = .returned (.int .i64 ((2 ^ n : Nat) : Int)) ∧ w = w' := by
  have hni : (n : Int) ≤ 20 := by omega
  go_enter Try.func54, Try.ntmps54
  go_wp2
  go_loopw [3, 4] (fun o i wr => wr = w ∧ ∃ k : Nat, k ≤ n ∧ i = .int .i64 k ∧ o = .int .i64 ((2 ^ k : Nat) : Int)) (fun _ i _ => n - (intOf i).toNat)
  case atStart => exact ⟨rfl, 0, Nat.zero_le _, rfl, rfl⟩
  case round =>
    obtain ⟨rfl, k, hk, rfl, rfl⟩ := hrel
    by_cases hlt : k < n
    · have hp : 2 ^ k ≤ 2 ^ 20 := Nat.pow_le_pow_right (by omega) (by omega)
      have hs : 2 ^ (k + 1) = 2 * 2 ^ k := by rw [Nat.pow_succ, Nat.mul_comm]
      have HS := Lib.hid hs
      clear hs
      obtain ⟨x, hx⟩ : ∃ x, 2 ^ k = x := ⟨_, rfl⟩
      rw [hx] at hp HS ⊢
      clear hx
      have hxi : (x : Int) ≤ 1048576 := by omega
      go_wp2
      go_roundw
      case rel => exact ⟨trivial, k + 1, by omega, by go_num, by rw [HS.out]; go_num⟩
      case measure => simp [intOf]; omega
    · obtain rfl : k = n := by omega
      go_wp2
      go_ret
      exact ⟨rfl, rfl⟩

theorem maskOf_add (p : Nat → Bool) (k : Nat) : maskOf p (k + 1) = maskOf p k + if p k then 2 ^ k else 0 := by
  have h := maskOf_lt p k
  have e : maskOf p (k + 1) = maskOf p k ||| (if p k = true then 2 ^ k else 0) := rfl
  rw [e]
  cases p k
  · simp
  · have h2 := Nat.two_pow_add_eq_or_of_lt h 1
    simp only [if_true]
    rw [Nat.mul_one] at h2
    rw [Nat.or_comm]
    omega

theorem rsures_any (a : Option Addr) (c : Nat) (l : List Ed) (w : World) (hl : l.length ≤ 6) (hx : EdSl w a l) :
    Calls Try.prog 34 #[.slice a l.length c] w fun e w' => e = .returned (.int .i64 (sures l)) ∧ w = w' := by
  have hli : (l.length : Int) ≤ 6 := by omega
  go_enter Try.func34, Try.ntmps34
  go_wp2
  go_loopw [3, 4] (fun s i wr => wr = w ∧ ∃ k : Nat, k ≤ l.length ∧ i = .int .i64 k ∧ s = .int .i64 (maskOf (sureAt l) k)) (fun _ i _ => l.length - (intOf i).toNat)
  case atStart => exact ⟨rfl, 0, Nat.zero_le _, rfl, rfl⟩
  case round =>
    obtain ⟨rfl, k, hk, rfl, rfl⟩ := hrel
    by_cases hlt : k < l.length
    · obtain ⟨b, o, rfl, hb, hxk⟩ := hx k hlt
      have hsa : sureAt l k = l[k].sure := by simp [sureAt, hlt]
      have hadd := maskOf_add (sureAt l) k
      rw [hsa] at hadd
      have c6 := hxk.c6
      have hm := maskOf_lt (sureAt l) k
      have hp : 2 ^ k ≤ 2 ^ 6 := Nat.pow_le_pow_right (by omega) (by omega)
      generalize l[k].sure = q at hadd c6
      have HA := Lib.hid hadd
      have hpw := power_any k (by omega) wr
      obtain ⟨x, hx'⟩ : ∃ x, 2 ^ k = x := ⟨_, rfl⟩
      rw [hx'] at hp hm HA hpw
      have hxi : (x : Int) ≤ 64 := by omega
      have hmi : (maskOf (sureAt l) k : Int) ≤ 64 := by omega
      have hki : (k : Int) < l.length := by omega
      clear hx' hadd hsa hxk
      cases q
      · go_wp2
        go_roundw
        case rel => exact ⟨trivial, k + 1, by omega, by go_num, by rw [HA.out]; simp⟩
        case measure => simp [intOf]; omega
      · go_wp2_with (go_at_call 54; refine hpw.mono ?_; rintro e w' ⟨rfl, rfl⟩)
        go_roundw
        case rel => exact ⟨trivial, k + 1, by omega, by go_num, by rw [HA.out]; simp⟩
        case measure => simp [intOf]; omega
    · obtain rfl : k = l.length := by omega
      go_wp2
      go_ret
      exact ⟨rfl, rfl⟩
end Go.Proofs.Ytjkegmjjhdmkiaa
