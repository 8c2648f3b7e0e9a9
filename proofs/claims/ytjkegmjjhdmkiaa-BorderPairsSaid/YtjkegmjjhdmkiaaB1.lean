/- The leaves of package border: spans, traits, sets, must. -/
import Derived.Test.YtjkegmjjhdmkiaaKit
namespace Go.Proofs.Ytjkegmjjhdmkiaa
open Go.RowKit
set_option maxHeartbeats 800000

theorem within_any (n lo hi : Int) (w : World) :
    Calls Try.prog 43 #[.int .i64 n, .int .i64 lo, .int .i64 hi] w fun e w' => e = .returned (.bool (decide (lo ≤ n) && decide (n ≤ hi))) ∧ w = w' := by
  go_enter Try.func43, Try.ntmps43
  go_wp2
  all_goals (go_ret; refine ⟨ret_bool ?_, rfl⟩)
  · have h : lo ≤ n := by assumption
    simp [h]
  · have h : n < lo := by assumption
    simp; omega

theorem isSpan_any (s : Sp) (lo hi : Int) (w : World) :
    Calls Try.prog 67 #[.agg #[.int .i64 s.lo, .int .i64 s.hi], .int .i64 lo, .int .i64 hi] w fun e w' => e = .returned (.bool (s.ok lo hi)) ∧ Below w.heap.size w w' := by
  obtain ⟨a, b⟩ := s
  simp only [Sp.ok]
  go_enter Try.func67, Try.ntmps67
  go_wp2
  all_goals (go_ret; refine ⟨ret_bool ?_, (Below.refl _ _).alloc (Nat.le_refl _) _⟩)
  · have h1 : lo ≤ a := by assumption
    have h2 : a ≤ b := by assumption
    simp [h1, h2]
  · have h1 : b < a := by assumption
    simp; omega
  · have h1 : a < lo := by assumption
    simp; omega

theorem has_any (s k : Nat) (w : World) (hs : s < 2 ^ 64) (hk : k < 64) :
    Calls Try.prog 46 #[.int .u64 s, .int .i64 k] w fun e w' => e = .returned (.bool (s.testBit k)) ∧ w = w' := by
  go_enter Try.func46, Try.ntmps46
  go_wp2
  go_ret
  exact ⟨ret_bool (has_bit s k hs), rfl⟩

theorem must_yes (x : Int) (w : World) :
    Calls Try.prog 42 #[.bool true, .int .i64 x] w fun e w' => e = .returned (.tuple #[]) ∧ w = w' := by
  go_enter Try.func42, Try.ntmps42
  go_wp2
  go_end0
  exact ⟨rfl, rfl⟩

/-- What 'must' panics with. -/
def failed (x : Int) : List PanicEntry := [{ v := .iface 122 (.agg #[.int .i64 x]), recovered := false }]

theorem must_no (x : Int) (w : World) :
    Calls Try.prog 42 #[.bool false, .int .i64 x] w fun e w' => e = .panicked (failed x) ∧ w = w' := by
  go_enter Try.func42, Try.ntmps42
  go_wp2
  exact ⟨rfl, rfl, rfl⟩

theorem trait1x (a b c d x y : Int) (s : Bool) (w : World) :
    Calls Try.prog 88 #[.agg #[.int .i64 a, .int .i64 b, .int .i64 c, .int .i64 d, .int .i64 x, .int .i64 y, .bool s]] w fun e w' => e = .returned (.agg #[.int .i64 a, .int .i64 b]) ∧ w' = (w.alloc (.cells #[.int .i64 a, .int .i64 b, .int .i64 c, .int .i64 d, .int .i64 x, .int .i64 y, .bool s] 55)).alloc (.cells #[.int .i64 a, .int .i64 b] 23) := by
  go_enter Try.func88, Try.ntmps88
  go_wp2
  exact bodyPost_ret (v := .agg #[.int .i64 a, .int .i64 b]) (by simp [results, Try.results88, go_sem]) rfl ⟨rfl, rfl⟩
theorem trait3x (a b c d x y : Int) (s : Bool) (w : World) :
    Calls Try.prog 90 #[.agg #[.int .i64 a, .int .i64 b, .int .i64 c, .int .i64 d, .int .i64 x, .int .i64 y, .bool s]] w fun e w' => e = .returned (.agg #[.int .i64 c, .int .i64 d]) ∧ w' = (w.alloc (.cells #[.int .i64 a, .int .i64 b, .int .i64 c, .int .i64 d, .int .i64 x, .int .i64 y, .bool s] 55)).alloc (.cells #[.int .i64 c, .int .i64 d] 23) := by
  go_enter Try.func90, Try.ntmps90
  go_wp2
  exact bodyPost_ret (v := .agg #[.int .i64 c, .int .i64 d]) (by simp [results, Try.results90, go_sem]) rfl ⟨rfl, rfl⟩
theorem trait5x (a b c d x y : Int) (s : Bool) (w : World) :
    Calls Try.prog 92 #[.agg #[.int .i64 a, .int .i64 b, .int .i64 c, .int .i64 d, .int .i64 x, .int .i64 y, .bool s]] w fun e w' => e = .returned (.agg #[.int .i64 x, .int .i64 y]) ∧ w' = (w.alloc (.cells #[.int .i64 a, .int .i64 b, .int .i64 c, .int .i64 d, .int .i64 x, .int .i64 y, .bool s] 55)).alloc (.cells #[.int .i64 x, .int .i64 y] 23) := by
  go_enter Try.func92, Try.ntmps92
  go_wp2
  exact bodyPost_ret (v := .agg #[.int .i64 x, .int .i64 y]) (by simp [results, Try.results92, go_sem]) rfl ⟨rfl, rfl⟩
theorem trait2x (x y : Int) (w : World) :
    Calls Try.prog 89 #[.agg #[.int .i64 x, .int .i64 y]] w fun e w' => e = .returned (.int .i64 x) ∧ w' = w.alloc (.cells #[.int .i64 x, .int .i64 y] 72) := by
  go_enter Try.func89, Try.ntmps89
  go_wp2
  go_ret
  exact ⟨rfl, rfl⟩
theorem trait4x (x y : Int) (w : World) :
    Calls Try.prog 91 #[.agg #[.int .i64 x, .int .i64 y]] w fun e w' => e = .returned (.int .i64 y) ∧ w' = w.alloc (.cells #[.int .i64 x, .int .i64 y] 72) := by
  go_enter Try.func91, Try.ntmps91
  go_wp2
  go_ret
  exact ⟨rfl, rfl⟩
theorem trait6x (x y : Int) (w : World) :
    Calls Try.prog 93 #[.agg #[.int .i64 x, .int .i64 y]] w fun e w' => e = .returned (.int .i64 0) ∧ w' = w.alloc (.cells #[.int .i64 x, .int .i64 y] 72) := by
  go_enter Try.func93, Try.ntmps93
  go_wp2
  go_ret
  exact ⟨rfl, rfl⟩

theorem trait1 (a b c d x y : Int) (s : Bool) (w : World) :
    Calls Try.prog 88 #[.agg #[.int .i64 a, .int .i64 b, .int .i64 c, .int .i64 d, .int .i64 x, .int .i64 y, .bool s]] w fun e w' => e = .returned (.agg #[.int .i64 a, .int .i64 b]) ∧ Below w.heap.size w w' :=
  (trait1x a b c d x y s w).mono fun _ _ ⟨he, hw⟩ => ⟨he, by rw [hw]; exact ((Below.refl _ _).alloc (Nat.le_refl _) _).alloc (by simp) _⟩
theorem trait3 (a b c d x y : Int) (s : Bool) (w : World) :
    Calls Try.prog 90 #[.agg #[.int .i64 a, .int .i64 b, .int .i64 c, .int .i64 d, .int .i64 x, .int .i64 y, .bool s]] w fun e w' => e = .returned (.agg #[.int .i64 c, .int .i64 d]) ∧ Below w.heap.size w w' :=
  (trait3x a b c d x y s w).mono fun _ _ ⟨he, hw⟩ => ⟨he, by rw [hw]; exact ((Below.refl _ _).alloc (Nat.le_refl _) _).alloc (by simp) _⟩
theorem trait5 (a b c d x y : Int) (s : Bool) (w : World) :
    Calls Try.prog 92 #[.agg #[.int .i64 a, .int .i64 b, .int .i64 c, .int .i64 d, .int .i64 x, .int .i64 y, .bool s]] w fun e w' => e = .returned (.agg #[.int .i64 x, .int .i64 y]) ∧ Below w.heap.size w w' :=
  (trait5x a b c d x y s w).mono fun _ _ ⟨he, hw⟩ => ⟨he, by rw [hw]; exact ((Below.refl _ _).alloc (Nat.le_refl _) _).alloc (by simp) _⟩

/-- The array that 'traits' returns. -/
def traitsV : Value := .agg #[.func (.func 88) #[] #[], .int .i64 (-1048576), .int .i64 1048576, .func (.func 89) #[] #[],
  .func (.func 90) #[] #[], .int .i64 (-1048576), .int .i64 1048576, .func (.func 91) #[] #[],
  .func (.func 92) #[] #[], .int .i64 0, .int .i64 2000, .func (.func 93) #[] #[]]
theorem traits_any (w : World) : Calls Try.prog 82 #[] w fun e w' => e = .returned traitsV ∧ Below w.heap.size w w' := by
  go_enter Try.func82, Try.ntmps82
  go_wp2
  exact bodyPost_ret (v := traitsV) (by simp [results, Try.results82, go_sem, traitsV]) rfl ⟨rfl, ((Below.refl _ _).alloc (Nat.le_refl _) _)⟩

theorem sures_any (a : Option Addr) (cap : Nat) (l : List Ed) (hl : l.length ≤ 6) (w : World) (hx : EdSl w a l) :
    Calls Try.prog 70 #[.slice a l.length cap] w fun e w' => e = .returned (.int .u64 (sures l)) ∧ Below w.heap.size w w' := by
  go_enter Try.func70, Try.ntmps70
  go_wp2
  go_loopw [2, 3, 4, 7] (fun s _ _ i wr => ∃ k : Nat, k ≤ l.length ∧ i = .int .i64 k ∧ s = .int .u64 (maskOf (sureAt l) k) ∧ Below w.heap.size w wr) (fun _ _ _ i _ => l.length - (intOf i).toNat)
  case atStart => exact ⟨0, Nat.zero_le _, rfl, rfl, Below.refl _ _⟩
  case round =>
    rename_i wr
    obtain ⟨k, hk, rfl, rfl, hbw⟩ := hrel
    by_cases hlt : k < l.length
    · obtain ⟨b, o, rfl, hb, hx⟩ := hx k hlt
      have hsa : sureAt l k = l[k].sure := by simp [sureAt, hlt]
      obtain ⟨c0, c1, c2, c3, c4, c5, c6⟩ := hx.same (hbw.block b hb)
      have H := Lib.hid hsa
      clear hsa hx
      have hm := maskOf_lt (sureAt l) k
      have hp : 2 ^ k ≤ 2 ^ 6 := Nat.pow_le_pow_right (by omega) (by omega)
      go_wp2
      all_goals
        go_roundw
        case rel =>
          refine ⟨k + 1, by omega, by go_num, ?_, hbw.alloc hbw.size _⟩
          first
            | (have hs : l[k].sure = true := by assumption
               simp only [maskOf, H.out, hs, if_true]
               rw [pow_u64 k (by omega), or_u64 _ _ (by omega) (by omega)])
            | (have hs : l[k].sure = false := by assumption
               simp only [maskOf, H.out, hs, if_false, Bool.false_eq_true, Nat.or_zero])
        case measure => simp [intOf]; omega
    · go_wp2
      go_ret
      obtain rfl : k = l.length := by omega
      exact ⟨rfl, hbw⟩

end Go.Proofs.Ytjkegmjjhdmkiaa
