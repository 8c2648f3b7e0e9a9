/- The law BorderClash, plain: what is told of stars that contradict each other. -/
import Derived.Test.YtjkegmjjhdmkiaaBU17
import Derived.Test.YtjkegmjjhdmkiaaBU23
namespace Go.Proofs.Ytjkegmjjhdmkiaa
set_option maxRecDepth 100000

theorem popc_two (s u : Nat) (hs : s < 64) (hu : u < 64) : popc 12 (s * 64 + u) = popc 12 s + popc 12 u := by
  have h : ∀ i k : Fin 64, popc 12 (i.val * 64 + k.val) = popc 12 i.val + popc 12 k.val := by decide +kernel
  exact h ⟨s, hs⟩ ⟨u, hu⟩
theorem andN_bit1 (s i : Nat) (hs : s < 64) (hi : i < 6) (h : s.testBit i = true) : popc 12 (andN s (2 ^ i)) < popc 12 s ∧ andN s (2 ^ i) < 64 := by
  have h' : ∀ x : Fin 64, ∀ y : Fin 6, x.val.testBit y.val = true → popc 12 (andN x.val (2 ^ y.val)) < popc 12 x.val ∧ andN x.val (2 ^ y.val) < 64 := by decide +kernel
  exact h' ⟨s, hs⟩ ⟨i, hi⟩ h
theorem andN_sub0 (s A : Nat) (hs : s < 64) (hA : A < 64) : andN s A = 0 ↔ s &&& A = s := by
  have h' : ∀ x y : Fin 64, andN x.val y.val = 0 ↔ x.val &&& y.val = x.val := by decide +kernel
  exact h' ⟨s, hs⟩ ⟨A, hA⟩
theorem andN_sub (s i A : Nat) (hs : s < 64) (hi : i < 6) (hA : A < 64) (h : andN s A = 0) : andN (andN s (2 ^ i)) A = 0 := by
  have h' : ∀ x : Fin 64, ∀ y : Fin 6, ∀ z : Fin 64, andN x.val z.val = 0 → andN (andN x.val (2 ^ y.val)) z.val = 0 := by decide +kernel
  exact h' ⟨s, hs⟩ ⟨i, hi⟩ ⟨A, hA⟩ h

theorem andN_two (s u A B : Nat) (hs : s < 64) (hu : u < 64) (hA : A < 64) (hB : B < 64) : andN (s * 64 + u) (A * 64 + B) = 0 ↔ andN s A = 0 ∧ andN u B = 0 := by
  have hbit : ∀ x y : Nat, y < 64 → ∀ k, (x * 64 + y).testBit k = if k < 6 then y.testBit k else x.testBit (k - 6) := by
    intro x y hy k
    have := Nat.testBit_two_pow_mul_add (i := 6) x (by simpa using hy : y < 2 ^ 6) k
    rw [show 2 ^ 6 * x + y = x * 64 + y by omega] at this
    exact this
  have key : ∀ x y : Nat, y < 2 ^ 64 → x < 2 ^ 64 → (andN x y = 0 ↔ ∀ k, k < 64 → x.testBit k = true → y.testBit k = true) := by
    intro x y hy hx
    constructor
    · intro h k hk hxk
      have h1 := andN_testBit x y k hy hk
      rw [h, Nat.zero_testBit, hxk] at h1
      simpa using h1.symm
    · intro h
      refine Nat.eq_of_testBit_eq (fun k => ?_)
      rw [Nat.zero_testBit]
      by_cases hk : k < 64
      · rw [andN_testBit x y k hy hk]
        cases hxk : x.testBit k with
        | false => simp
        | true => simp [h k hk hxk]
      · exact Nat.testBit_lt_two_pow (Nat.lt_of_le_of_lt Nat.and_le_left (Nat.lt_of_lt_of_le hx (Nat.pow_le_pow_right (by omega) (by omega))))
  rw [key _ _ (by omega) (by omega), key _ _ (by omega) (by omega), key _ _ (by omega) (by omega)]
  constructor
  · intro h
    refine ⟨fun k hk hx => ?_, fun k hk hx => ?_⟩
    · by_cases h58 : k < 58
      · have := h (k + 6) (by omega)
        rw [hbit s u hu, hbit A B hB, if_neg (by omega), if_neg (by omega), show k + 6 - 6 = k by omega] at this
        exact this hx
      · rw [Nat.testBit_lt_two_pow (Nat.lt_of_lt_of_le hs (show 2 ^ 6 ≤ 2 ^ k from Nat.pow_le_pow_right (by omega) (by omega)))] at hx
        cases hx
    · by_cases h6 : k < 6
      · have := h k hk
        rw [hbit s u hu, hbit A B hB, if_pos h6, if_pos h6] at this
        exact this hx
      · rw [Nat.testBit_lt_two_pow (Nat.lt_of_lt_of_le hu (show 2 ^ 6 ≤ 2 ^ k from Nat.pow_le_pow_right (by omega) (by omega)))] at hx
        cases hx
  · intro h k hk hx
    rw [hbit s u hu] at hx
    rw [hbit A B hB]
    by_cases h6 : k < 6
    · rw [if_pos h6] at hx ⊢
      exact h.2 k hk hx
    · rw [if_neg h6] at hx ⊢
      exact h.1 (k - 6) (by omega) hx

/-- What the law asks of what is told. -/
structure ClashLaw (b : Bo) (f g : Nat) : Prop where
  f6 : f < 64
  g6 : g < 64
  fa : andN f (sures b.fs) = 0
  ga : andN g (sures b.ss) = 0
  no : bCan b f g = false
  lessF : ∀ i, i < 6 → f.testBit i = true → bCan b (andN f (2 ^ i)) g = true
  lessG : ∀ i, i < 6 → g.testBit i = true → bCan b f (andN g (2 ^ i)) = true
  first : ∀ s u, s < 64 → u < 64 → andN s (sures b.fs) = 0 → andN u (sures b.ss) = 0 → (popc 12 s + popc 12 u < popc 12 f + popc 12 g ∨ popc 12 s + popc 12 u = popc 12 f + popc 12 g ∧ (s < f ∨ s = f ∧ u < g)) → bCan b s u = true

theorem IsClash.law {b : Bo} {t : Nat} (h : IsClash b t) (hA : sures b.fs < 64) (hB : sures b.ss < 64) : ClashLaw b (t / 64) (t % 64) := by
  have hle := h.le
  have hf6 : t / 64 < 64 := by unfold allSure at hle; omega
  have hg6 : t % 64 < 64 := by omega
  have ht : t = t / 64 * 64 + t % 64 := by omega
  have hsub := h.sub
  unfold allSure at hsub
  rw [ht, andN_two _ _ _ _ hf6 hg6 hA hB] at hsub
  have hpt : popc 12 t = popc 12 (t / 64) + popc 12 (t % 64) := by
    have := popc_two (t / 64) (t % 64) hf6 hg6
    rwa [← ht] at this
  have hcs : ∀ s u, s < 64 → u < 64 → canSet b (s * 64 + u) = bCan b s u := fun s u hs hu => by
    unfold canSet
    rw [show (s * 64 + u) / 64 = s by omega, show (s * 64 + u) % 64 = u by omega]
  have hfirst : ∀ s u, s < 64 → u < 64 → andN s (sures b.fs) = 0 → andN u (sures b.ss) = 0 → (popc 12 s + popc 12 u < popc 12 (t / 64) + popc 12 (t % 64) ∨ popc 12 s + popc 12 u = popc 12 (t / 64) + popc 12 (t % 64) ∧ (s < t / 64 ∨ s = t / 64 ∧ u < t % 64)) → bCan b s u = true := by
    intro s u hs hu h1 h2 h3
    have hand : andN (s * 64 + u) (allSure b) = 0 := (andN_two _ _ _ _ hs hu hA hB).2 ⟨h1, h2⟩
    rw [← hcs s u hs hu]
    rw [andN_sub0 _ _ hs hA] at h1
    rw [andN_sub0 _ _ hu hB] at h2
    have hsA : s ≤ sures b.fs := by rw [← h1]; exact Nat.and_le_right
    have huB : u ≤ sures b.ss := by rw [← h2]; exact Nat.and_le_right
    have hp := popc_two s u hs hu
    rcases h3 with h3 | ⟨h3, h4⟩
    · exact h.few _ (by unfold allSure; omega) hand (by omega)
    · exact h.least _ (by omega) hand (by omega)
  refine ⟨hf6, hg6, hsub.1, hsub.2, h.no, fun i hi hb => ?_, fun i hi hb => ?_, hfirst⟩
  · have h1 := andN_bit1 _ i hf6 hi hb
    exact hfirst _ _ h1.2 hg6 (andN_sub _ i _ hf6 hi hA hsub.1) hsub.2 (.inl (by omega))
  · have h1 := andN_bit1 _ i hg6 hi hb
    exact hfirst _ _ hf6 h1.2 hsub.1 (andN_sub _ i _ hg6 hi hB hsub.2) (.inl (by omega))
end Go.Proofs.Ytjkegmjjhdmkiaa
