/- Plain: what is told of the sample. -/
import Derived.Test.YtjkegmjjhdmkiaaF5
namespace Go.Proofs.Ytjkegmjjhdmkiaa
open Go.RowKit Go.Shelf
set_option maxRecDepth 100000

theorem smp_same : bSame smp 0 0 2 (-1) = (true, 0) := by decide +kernel
theorem smp_possible : bPossible smp 2 (-1) = (1, 0) := by decide +kernel
theorem smp_shift : bShift smp = (⟨2, 3⟩, ⟨-2, -1⟩, 0) := by decide +kernel
theorem smp_pairs : bPairs smp 1 = (2, 2, 0) := by decide +kernel
theorem smp_alone : bAlone smp = (4, 4, 0) := by decide +kernel
theorem smp_best : bBest smp = (some ((2, -2), [0, 1, -1]), 0) := by decide +kernel
theorem smp_ok : smp.ok = true := by decide +kernel
theorem smp_ok' : smp'.ok = true := by decide +kernel
theorem smp_no : bCan smp' (sures smp'.fs) (sures smp'.ss) = false := by decide +kernel
theorem smp_256 : canSet smp' 256 = false := by decide +kernel
theorem smp_all : allSure smp' = 449 := by decide +kernel
theorem smp_few : ∀ i : Fin 256, andN i.val 449 = 0 → popc 12 i.val ≤ 1 → canSet smp' i.val = true := by decide +kernel
theorem smp_clash {t : Nat} (h : IsClash smp' t) : t = 256 := by
  obtain ⟨h1, h2, h3, h4, h5⟩ := h
  rw [smp_all] at h1 h2 h4 h5
  have p256 : popc 12 256 = 1 := by decide +kernel
  have s256 : andN 256 449 = 0 := by decide +kernel
  have hp : popc 12 t ≤ 1 := by
    rcases Nat.lt_or_ge 1 (popc 12 t) with h | h
    · have := h4 256 (by omega) s256 (by omega)
      rw [smp_256] at this
      cases this
    · exact h
  rcases Nat.lt_trichotomy t 256 with h | h | h
  · have := smp_few ⟨t, h⟩ h2 hp
    simp only at this
    rw [h3] at this
    cases this
  · exact h
  · rcases Nat.lt_or_ge 0 (popc 12 t) with h6 | h6
    · have := h5 256 h s256 (by omega)
      rw [smp_256] at this
      cases this
    · have := h4 0 (by omega)
      exfalso
      have hz : ∀ i : Fin 450, popc 12 i.val = 0 → i.val = 0 := by decide +kernel
      have := hz ⟨t, by omega⟩ (by simp only; omega)
      simp only at this
      omega
end Go.Proofs.Ytjkegmjjhdmkiaa
