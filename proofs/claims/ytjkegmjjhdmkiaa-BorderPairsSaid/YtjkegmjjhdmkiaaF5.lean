/- Are two lists of numbers the same? How many pairs has a joining? -/
import Derived.Test.YtjkegmjjhdmkiaaF4
namespace Go.Proofs.Ytjkegmjjhdmkiaa
open Go.RowKit Go.Shelf
set_option maxHeartbeats 1600000
set_option maxRecDepth 100000
set_option linter.unusedSimpArgs false

/-- A slice at a reads as these numbers. -/
def IntsV (w : World) (a : Option Addr) (xs : List Int) : Prop := ∀ k (h : k < xs.length), ∃ q o, a = some ⟨q, o, none⟩ ∧ q < w.heap.size ∧ w.cell? ⟨q, o + k, none⟩ = some (.int .i64 xs[k])
theorem IntsV.below {B : Nat} {w w' : World} {a : Option Addr} {xs : List Int} (h : IntsV w a xs) (hb : Below B w w') (hB : w.heap.size ≤ B) : IntsV w' a xs := fun k hk => by
  obtain ⟨q, o, h1, h2, h3⟩ := h k hk
  exact ⟨q, o, h1, Nat.lt_of_lt_of_le h2 hb.size, (cell_same (hb.block q (by omega))).trans h3⟩
theorem IntsAt.v {w : World} {q : Nat} {xs : List Int} (h : IntsAt w q xs) : IntsV w (some ⟨q, 0, none⟩) xs := fun k hk => ⟨q, 0, rfl, h.lt, by rw [Nat.zero_add]; exact h.cell k hk⟩
theorem IntsV.nil (w : World) (a : Option Addr) : IntsV w a [] := fun k h => absurd h (Nat.not_lt_zero k)

theorem take_eq_of {xs ys : List Int} (hl : xs.length = ys.length) (k : Nat) (h : k < xs.length) (ht : xs.take k = ys.take k) : (xs.take (k + 1) = ys.take (k + 1)) ↔ xs[k] = ys[k] := by
  rw [List.take_succ_eq_append_getElem h, List.take_succ_eq_append_getElem (l := ys) (by omega), ht, List.append_right_inj]
  simp

theorem ints_any (a a' : Option Addr) (c c' : Nat) (xs ys : List Int) (w : World) (hx : IntsV w a xs) (hy : IntsV w a' ys) (hlx : xs.length ≤ 100) (hly : ys.length ≤ 100) :
    Calls Try.prog 27 #[.slice a xs.length c, .slice a' ys.length c'] w fun e w' => e = .returned (.bool (decide (xs = ys))) ∧ Below w.heap.size w w' := by
  have i1 : (xs.length : Int) ≤ 100 := by omega
  have i2 : (ys.length : Int) ≤ 100 := by omega
  by_cases hl : xs.length = ys.length
  · have hne : (((xs.length : Int)) != (ys.length : Int)) = false := by rw [hl]; simp
    have HL := Lib.hid hl
    have hlt' : ∀ k, k < xs.length → k < ys.length := fun k h => by omega
    clear hl
    go_enter Try.func27, Try.ntmps27
    go_wp2_with fail
    go_loopw [5] (fun i wr => ∃ k : Nat, k ≤ xs.length ∧ i = .int .i64 k ∧ xs.take k = ys.take k ∧ Below w.heap.size w wr) (fun i _ => xs.length - (intOf i).toNat)
    case atStart => exact ⟨0, Nat.zero_le _, rfl, rfl, Below.refl _ _⟩
    case round =>
      rename_i wr
      obtain ⟨k, hk, rfl, htk, hbw⟩ := hrel
      have HT := Lib.hid htk
      clear htk
      by_cases hlt : k < xs.length
      · have hlty := hlt' k hlt
        obtain ⟨q, o, rfl, hq, hc⟩ := (hx.below hbw (Nat.le_refl _)) k hlt
        obtain ⟨q', o', rfl, hq', hc'⟩ := (hy.below hbw (Nat.le_refl _)) k hlty
        have htake := take_eq_of HL.out k hlt HT.out
        have hno : xs[k] ≠ ys[k] → decide (xs = ys) = false := fun h => by
          simp only [decide_eq_false_iff_not]
          intro e
          subst e
          exact h rfl
        have HK := Lib.hid htake
        have HNO := Lib.hid hno
        clear htake hno
        generalize xs[k] = x at hc HK HNO
        generalize ys[k] = y at hc' HK HNO
        have hki : (k : Int) < xs.length := by omega
        have hkj : (k : Int) < ys.length := by omega
        go_upto_region 6 with fail
        by_cases hxy : x = y
        · have hb : (x != y) = false := by simp [hxy]
          have HXY := Lib.hid hxy
          clear hxy
          go_quiet (fail)
          go_wp2
          go_roundw
          case rel => exact ⟨k + 1, by omega, by go_num, HK.out.2 HXY.out, below_drewN hbw _⟩
          case measure => simp [intOf]; omega
        · have hb : (x != y) = true := by simp [hxy]
          have HXY := Lib.hid hxy
          clear hxy
          go_quiet (fail)
          go_wp2
          go_ret
          exact ⟨ret_bool (HNO.out HXY.out).symm, below_drewN hbw _⟩
      · obtain rfl : k = xs.length := by omega
        have he : decide (xs = ys) = true := by
          have h1 := HT.out
          have h2 := HL.out
          rw [List.take_length, h2, List.take_length] at h1
          simp [h1]
        have HE := Lib.hid he
        clear he
        go_wp2
        go_ret
        exact ⟨ret_bool HE.out.symm, hbw⟩
  · have hne : (((xs.length : Int)) != (ys.length : Int)) = true := by simp; omega
    have he : decide (xs = ys) = false := by simp only [decide_eq_false_iff_not]; intro e; exact hl (by rw [e])
    have HE := Lib.hid he
    clear hl he
    go_enter Try.func27, Try.ntmps27
    go_wp2
    go_ret
    exact ⟨ret_bool HE.out.symm, Below.refl _ _⟩
end Go.Proofs.Ytjkegmjjhdmkiaa
