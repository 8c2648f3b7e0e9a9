/- The law BorderMore, walked: whole. -/
import Derived.Test.YtjkegmjjhdmkiaaBM27
import Derived.Test.YtjkegmjjhdmkiaaBM24
namespace Go.Proofs.Ytjkegmjjhdmkiaa
open Go.RowKit Go.Shelf
set_option maxHeartbeats 12800000
set_option maxRecDepth 100000
set_option linter.unusedSimpArgs false

/-- Three operations can come up, and each is carried out. -/
theorem wpAnyW_three {P : Program} {n : Nat} {md : Region.Mode} {ops : Array Oper} {Q : Exit → Act → World → Prop} {S : World → Prop} (i j l : Nat) {fuel : Nat} {listed : Array Bool} {a : Act} {w : World} (hr : Region.ready md ops listed = [i, j, l])
    (hg : (((ops[i]?).map fun o => Region.wanted o (yielded ops a.tmps)) = some true) ∧ (((ops[j]?).map fun o => Region.wanted o (yielded ops a.tmps)) = some true) ∧ (((ops[l]?).map fun o => Region.wanted o (yielded ops a.tmps)) = some true))
    (h1 : ∀ o, ops[i]? = some o → ∀ K : Act → World → Prop, (∀ a' w', S w' → (S w' → wpAnyW P n md ops Q S fuel (listed.setIfInBounds i true) a' w') → K a' w') → Oper.wpIn Fence.wide n P o a w K Q)
    (h2 : ∀ o, ops[j]? = some o → ∀ K : Act → World → Prop, (∀ a' w', S w' → (S w' → wpAnyW P n md ops Q S fuel (listed.setIfInBounds j true) a' w') → K a' w') → Oper.wpIn Fence.wide n P o a w K Q)
    (h3 : ∀ o, ops[l]? = some o → ∀ K : Act → World → Prop, (∀ a' w', S w' → (S w' → wpAnyW P n md ops Q S fuel (listed.setIfInBounds l true) a' w') → K a' w') → Oper.wpIn Fence.wide n P o a w K Q) :
    wpAnyW P n md ops Q S (fuel + 1) listed a w := by
  refine ⟨fun h0 => (by rw [hr] at h0; cases h0), ?_⟩
  have key : ∀ k, (((ops[k]?).map fun o => Region.wanted o (yielded ops a.tmps)) = some true) → (∀ o, ops[k]? = some o → ∀ K : Act → World → Prop, (∀ a' w', S w' → (S w' → wpAnyW P n md ops Q S fuel (listed.setIfInBounds k true) a' w') → K a' w') → Oper.wpIn Fence.wide n P o a w K Q) →
      wpOpIn Fence.wide n P ops Q k (fun a' w' => S w' ∧ wpAnyW P n md ops Q S fuel (listed.setIfInBounds k true) a' w') a w := by
    intro k hg h
    unfold wpOpIn
    cases ho : ops[k]? with
    | none => rw [ho] at hg; simp at hg
    | some o =>
      rw [ho] at hg
      simp at hg
      simp only [if_pos hg]
      exact h o ho _ fun a' w' hS hk => ⟨hS, hk hS⟩
  intro k hk
  rw [hr, List.mem_cons, List.mem_cons, List.mem_singleton] at hk
  rcases hk with rfl | rfl | rfl
  · exact key _ hg.1 h1
  · exact key _ hg.2.1 h2
  · exact key _ hg.2.2 h3

theorem lawMore_any (b : Bo) (fa sa : Option Addr) (fc sc : Nat) (which by' : Int) (hw : 0 ≤ which ∧ which ≤ 255) (hby : 0 ≤ by' ∧ by' ≤ 255) (w : World) (hb : BoArg0 w b fa sa) :
    Calls Try.prog 9 #[.agg #[.int .i64 b.e.lo, .int .i64 b.e.hi, .int .i64 b.n.lo, .int .i64 b.n.hi, .slice fa b.fs.length fc, .slice sa b.ss.length sc], .int .u8 which, .int .u8 by'] w fun e w' => e = .returned (.bool true) ∧ Below w.heap.size w w' := by
  have HB0 := Lib.hid hb
  have HF := Lib.hid hby
  have HW := Lib.hid hw
  clear hb hby hw
  go_enter Try.func9, Try.ntmps9
  go_wp2_with fail
  obtain ⟨W0, hW0⟩ : ∃ W, (w.alloc (.cells #[.int .i64 b.e.lo, .int .i64 b.e.hi, .int .i64 b.n.lo, .int .i64 b.n.hi, .slice fa b.fs.length fc, .slice sa b.ss.length sc] 26)) = W := ⟨_, rfl⟩
  rw [hW0]
  try simp only [Nat.add_assoc, Nat.reduceAdd]
  have hst_W0 : Steps (fun _ => False) w W0 := by rw [← hW0]; exact Steps.alloc _ w _
  have hz_W0 : W0.heap.size = w.heap.size + 1 := by rw [← hW0]; simp
  have g0_W0 : W0.heap[w.heap.size]? = some (.cells #[.int .i64 b.e.lo, .int .i64 b.e.hi, .int .i64 b.n.lo, .int .i64 b.n.hi, .slice fa b.fs.length fc, .slice sa b.ss.length sc] 26) := by rw [← hW0]; simp only [alloc_get, World.size_alloc]; repeat (first | exact if_pos trivial | exact if_pos (by omega) | rw [if_neg (by omega)])
  clear hW0
  have hb0 : Below w.heap.size w W0 := hst_W0.below (Nat.le_refl _) (fun _ _ h => h)
  refine (heavy_any b fa sa fc sc 4 40 W0 (HB0.out.below hb0)).mono ?_
  rintro e w1 ⟨rfl, hb1⟩
  have g1 := obj_later hb1 g0_W0
  replace hb0 := hb0.trans (hb1.mono hb0.size)
  clear hb1 g0_W0 hst_W0 hz_W0
  cases hh : heavyB b 4 40
  case true =>
    clear hh
    go_wp2_with fail
    refine (awake_any _).mono ?_
    rintro e w2 ⟨rfl, hb1⟩
    go_wp2
    go_ret
    exact ⟨rfl, hb0.trans (hb1.mono hb0.size)⟩
  have HB := Lib.hid (HB0.out.small hh)
  clear hh
  have c0 := cell_block g1 0
  have c1 := cell_block g1 1
  have c2 := cell_block g1 2
  have c3 := cell_block g1 3
  have c4 := cell_block g1 4
  have c5 := cell_block g1 5
  simp only [List.getElem?_toArray, List.getElem?_cons_zero, List.getElem?_cons_succ] at c0 c1 c2 c3 c4 c5
  go_wp2_with fail
  refine (border_any b fa sa fc sc _ (HB.out.below hb0)).mono ?_
  rintro e w2 ⟨rfl, hb1⟩
  have g2 := obj_later hb1 g1
  replace hb0 := hb0.trans (hb1.mono hb0.size)
  clear hb1 g1 c0 c1 c2 c3 c4 c5
  cases hok : b.ok
  case false =>
    clear hok
    go_wp2_with fail
    refine (awake_any _).mono ?_
    rintro e w3 ⟨rfl, hb1⟩
    go_wp2
    go_ret
    exact ⟨rfl, hb0.trans (hb1.mono hb0.size)⟩
  have HOK := Lib.hid hok
  clear hok
  have hlens := bo_lens HOK.out
  have c4 := cell_block g2 4
  simp only [List.getElem?_toArray, List.getElem?_cons_zero, List.getElem?_cons_succ] at c4
  by_cases h0 : b.fs.length = 0
  · have hz : (b.fs.length : Int) = 0 := by omega
    have H0 := Lib.hid h0
    clear h0
    go_wp2_with fail
    refine (awake_any _).mono ?_
    rintro e w3 ⟨rfl, hb1⟩
    go_wp2
    go_ret
    exact ⟨rfl, hb0.trans (hb1.mono hb0.size)⟩
  have hpos : 0 < (b.fs.length : Int) := by omega
  have hfl : (b.fs.length : Int) ≤ 6 := by omega
  have hze : ((b.fs.length : Int) == 0) = false := beq_eq_false_iff_ne.2 (by omega)
  have hw := HW.out
  obtain ⟨hw1, hw2⟩ := hw
  go_upto_region 4 with fail
  obtain ⟨k, hkk, hkl⟩ : ∃ k : Nat, which % (b.fs.length : Int) = (k : Int) ∧ k < b.fs.length := ⟨(which % (b.fs.length : Int)).toNat, by have := Int.emod_nonneg which (show (b.fs.length : Int) ≠ 0 by omega); omega, by have := Int.emod_lt_of_pos which hpos; omega⟩
  rw [hkk]
  clear hkk hze c4 hw1 hw2 h0 HW
  have ltb := (Array.getElem?_eq_some_iff.1 g2).1
  have ltw := hb0.size
  have k0 : ∀ W', Below w2.heap.size w2 W' → W'.cell? ⟨w.heap.size, 0, none⟩ = some (.int .i64 b.e.lo) := fun W' h => cell_block (obj_later h g2) 0
  have k1 : ∀ W', Below w2.heap.size w2 W' → W'.cell? ⟨w.heap.size, 1, none⟩ = some (.int .i64 b.e.hi) := fun W' h => cell_block (obj_later h g2) 1
  have k2 : ∀ W', Below w2.heap.size w2 W' → W'.cell? ⟨w.heap.size, 2, none⟩ = some (.int .i64 b.n.lo) := fun W' h => cell_block (obj_later h g2) 2
  have k3 : ∀ W', Below w2.heap.size w2 W' → W'.cell? ⟨w.heap.size, 3, none⟩ = some (.int .i64 b.n.hi) := fun W' h => cell_block (obj_later h g2) 3
  have k4 : ∀ W', Below w2.heap.size w2 W' → W'.cell? ⟨w.heap.size, 4, none⟩ = some (.slice fa b.fs.length fc) := fun W' h => cell_block (obj_later h g2) 4
  have k5 : ∀ W', Below w2.heap.size w2 W' → W'.cell? ⟨w.heap.size, 5, none⟩ = some (.slice sa b.ss.length sc) := fun W' h => cell_block (obj_later h g2) 5
  refine (wpIn_wide (n := 1)).1 ?_
  refine wpIn_region_Wn (S := fun W' => Below w2.heap.size w2 W') 9 (by kernel_rfl) (by kernel_rfl) (below_drew w2) (fun hHeld => ?_)
  refine wpAnyW_takeD 0 47 (v := ?_) (by kernel_rfl) (by kernel_rfl) (by kernel_rfl) (by kernel_rfl) (fun _ _ _ h => h) ?_ (by assumption) ?_
  rotate_left
  · intro oi hoi w hSw; (try dsimp only at hSw); simp only [List.getElem?_toArray, List.getElem?_cons_zero, List.getElem?_cons_succ, Option.some.injEq] at hoi; subst hoi; go_simp; try with_reducible rfl
  simp only [Act.put, List.setIfInBounds_toArray, List.set_cons_zero, List.set_cons_succ]
  refine wpAnyW_takeD 1 48 (v := ?_) (by kernel_rfl) (by kernel_rfl) (by kernel_rfl) (by kernel_rfl) (fun _ _ _ h => h) ?_ (by assumption) ?_
  rotate_left
  · intro oi hoi w hSw; (try dsimp only at hSw); simp only [List.getElem?_toArray, List.getElem?_cons_zero, List.getElem?_cons_succ, Option.some.injEq] at hoi; subst hoi; go_simp; try with_reducible rfl
  simp only [Act.put, List.setIfInBounds_toArray, List.set_cons_zero, List.set_cons_succ]
  refine wpAnyW_takeD 2 49 (v := ?_) (by kernel_rfl) (by kernel_rfl) (by kernel_rfl) (by kernel_rfl) (fun _ _ _ h => h) ?_ (by assumption) ?_
  rotate_left
  · intro oi hoi w hSw; (try dsimp only at hSw); simp only [List.getElem?_toArray, List.getElem?_cons_zero, List.getElem?_cons_succ, Option.some.injEq] at hoi; subst hoi; go_simp; try with_reducible rfl
  simp only [Act.put, List.setIfInBounds_toArray, List.set_cons_zero, List.set_cons_succ]
  clear k0 k1 k2 k3 k4 k5
  refine wpAnyW_three 3 4 5 (by kernel_rfl) ⟨by kernel_rfl, by kernel_rfl, by kernel_rfl⟩ ?_ ?_ ?_
  · intro o ho K hK
    simp only [List.getElem?_toArray, List.getElem?_cons_zero, List.getElem?_cons_succ, Option.some.injEq] at ho
    subst ho
    go_simp
    have hA1 : Below w2.heap.size w2 (w2.alloc (.cells #[.int .i64 0, .int .i64 0, .int .i64 0, .int .i64 0, .slice none 0 0, .slice none 0 0] 26)).drew := by
      exact (below_alloc w2 _).drew
    refine hK _ _ hA1 (fun _ => ?_)
    clear hK K
    try simp only [Act.put, List.setIfInBounds_toArray, List.set_cons_zero, List.set_cons_succ]
    refine wpAnyW_two 4 5 (by kernel_rfl) ⟨by kernel_rfl, by kernel_rfl⟩ ?_ ?_
    · intro o ho K hK
      simp only [List.getElem?_toArray, List.getElem?_cons_zero, List.getElem?_cons_succ, Option.some.injEq] at ho
      subst ho
      go_simp
      have hA2 : Below w2.heap.size w2 ((w2.alloc (.cells #[.int .i64 0, .int .i64 0, .int .i64 0, .int .i64 0, .slice none 0 0, .slice none 0 0] 26)).alloc (.cells #[.int .i64 0, .int .i64 0, .int .i64 0, .int .i64 0, .slice none 0 0, .slice none 0 0] 26)).drew := by
        exact ((below_alloc w2 _).alloc (by simp only [World.size_alloc]; omega) _).drew
      refine hK _ _ hA2 (fun _ => ?_)
      clear hK K
      try simp only [Act.put, List.setIfInBounds_toArray, List.set_cons_zero, List.set_cons_succ]
      refine wpAnyW_one 5 (by kernel_rfl) (by kernel_rfl) ?_
      intro o ho K hK
      simp only [List.getElem?_toArray, List.getElem?_cons_zero, List.getElem?_cons_succ, Option.some.injEq] at ho
      subst ho
      go_simp
      have hA3 : Below w2.heap.size w2 (((w2.alloc (.cells #[.int .i64 0, .int .i64 0, .int .i64 0, .int .i64 0, .slice none 0 0, .slice none 0 0] 26)).alloc (.cells #[.int .i64 0, .int .i64 0, .int .i64 0, .int .i64 0, .slice none 0 0, .slice none 0 0] 26)).alloc (.cells #[.int .i64 0, .int .i64 0, .int .i64 0, .int .i64 0, .slice none 0 0, .slice none 0 0] 26)).drew := by
        exact (((below_alloc w2 _).alloc (by simp only [World.size_alloc]; omega) _).alloc (by simp only [World.size_alloc]; omega) _).drew
      refine hK _ _ hA3 (fun _ => ?_)
      clear hK K
      try simp only [Act.put, List.setIfInBounds_toArray, List.set_cons_zero, List.set_cons_succ]
      have z0 : (((w2.alloc (.cells #[.int .i64 0, .int .i64 0, .int .i64 0, .int .i64 0, .slice none 0 0, .slice none 0 0] 26)).alloc (.cells #[.int .i64 0, .int .i64 0, .int .i64 0, .int .i64 0, .slice none 0 0, .slice none 0 0] 26)).alloc (.cells #[.int .i64 0, .int .i64 0, .int .i64 0, .int .i64 0, .slice none 0 0, .slice none 0 0] 26)).drew.heap[w2.heap.size]? = some (.cells #[.int .i64 0, .int .i64 0, .int .i64 0, .int .i64 0, .slice none 0 0, .slice none 0 0] 26) := by show (((w2.alloc (.cells #[.int .i64 0, .int .i64 0, .int .i64 0, .int .i64 0, .slice none 0 0, .slice none 0 0] 26)).alloc (.cells #[.int .i64 0, .int .i64 0, .int .i64 0, .int .i64 0, .slice none 0 0, .slice none 0 0] 26)).alloc (.cells #[.int .i64 0, .int .i64 0, .int .i64 0, .int .i64 0, .slice none 0 0, .slice none 0 0] 26)).heap[w2.heap.size]? = _; simp only [alloc_get, World.size_alloc]; rw [if_neg (by omega), if_neg (by omega), if_pos trivial]
      have z1 : (((w2.alloc (.cells #[.int .i64 0, .int .i64 0, .int .i64 0, .int .i64 0, .slice none 0 0, .slice none 0 0] 26)).alloc (.cells #[.int .i64 0, .int .i64 0, .int .i64 0, .int .i64 0, .slice none 0 0, .slice none 0 0] 26)).alloc (.cells #[.int .i64 0, .int .i64 0, .int .i64 0, .int .i64 0, .slice none 0 0, .slice none 0 0] 26)).drew.heap[w2.heap.size + 1]? = some (.cells #[.int .i64 0, .int .i64 0, .int .i64 0, .int .i64 0, .slice none 0 0, .slice none 0 0] 26) := by show (((w2.alloc (.cells #[.int .i64 0, .int .i64 0, .int .i64 0, .int .i64 0, .slice none 0 0, .slice none 0 0] 26)).alloc (.cells #[.int .i64 0, .int .i64 0, .int .i64 0, .int .i64 0, .slice none 0 0, .slice none 0 0] 26)).alloc (.cells #[.int .i64 0, .int .i64 0, .int .i64 0, .int .i64 0, .slice none 0 0, .slice none 0 0] 26)).heap[w2.heap.size + 1]? = _; simp only [alloc_get, World.size_alloc]; rw [if_neg (by omega), if_pos trivial]
      have z2 : (((w2.alloc (.cells #[.int .i64 0, .int .i64 0, .int .i64 0, .int .i64 0, .slice none 0 0, .slice none 0 0] 26)).alloc (.cells #[.int .i64 0, .int .i64 0, .int .i64 0, .int .i64 0, .slice none 0 0, .slice none 0 0] 26)).alloc (.cells #[.int .i64 0, .int .i64 0, .int .i64 0, .int .i64 0, .slice none 0 0, .slice none 0 0] 26)).drew.heap[w2.heap.size + 2]? = some (.cells #[.int .i64 0, .int .i64 0, .int .i64 0, .int .i64 0, .slice none 0 0, .slice none 0 0] 26) := by show (((w2.alloc (.cells #[.int .i64 0, .int .i64 0, .int .i64 0, .int .i64 0, .slice none 0 0, .slice none 0 0] 26)).alloc (.cells #[.int .i64 0, .int .i64 0, .int .i64 0, .int .i64 0, .slice none 0 0, .slice none 0 0] 26)).alloc (.cells #[.int .i64 0, .int .i64 0, .int .i64 0, .int .i64 0, .slice none 0 0, .slice none 0 0] 26)).heap[w2.heap.size + 2]? = _; simp only [alloc_get, World.size_alloc]; first | exact if_pos trivial | rw [if_pos trivial]
      have g3 := obj_later hA3 g2
      generalize (((w2.alloc (.cells #[.int .i64 0, .int .i64 0, .int .i64 0, .int .i64 0, .slice none 0 0, .slice none 0 0] 26)).alloc (.cells #[.int .i64 0, .int .i64 0, .int .i64 0, .int .i64 0, .slice none 0 0, .slice none 0 0] 26)).alloc (.cells #[.int .i64 0, .int .i64 0, .int .i64 0, .int .i64 0, .slice none 0 0, .slice none 0 0] 26)).drew = x0 at z0 z1 z2 g3 hA3 ⊢
      have f0 := frozen_block z0 0
      have f1 := frozen_block z0 1
      have f2 := frozen_block z0 2
      have f3 := frozen_block z0 3
      have f4 := frozen_block z0 4
      have f5 := frozen_block z0 5
      have d0 := cell_block z0 0
      have d1 := cell_block z0 1
      have d2 := cell_block z0 2
      have d3 := cell_block z0 3
      have d4 := cell_block z0 4
      have d5 := cell_block z0 5
      simp only [List.getElem?_toArray, List.getElem?_cons_zero, List.getElem?_cons_succ] at d0 d1 d2 d3 d4 d5
      refine wpAnyW_one 6 (by kernel_rfl) (by kernel_rfl) ?_
      intro o ho K hK
      simp only [List.getElem?_toArray, List.getElem?_cons_zero, List.getElem?_cons_succ, Option.some.injEq] at ho
      subst ho
      go_simp
      have hb1 := six_below (.int .i64 b.e.lo) (.int .i64 b.e.hi) (.int .i64 b.n.lo) (.int .i64 b.n.hi) (.slice fa b.fs.length fc) (.slice sa b.ss.length sc) hA3 (show w2.heap.size ≤ w2.heap.size by omega)
      have t3_1 := six_same (.int .i64 b.e.lo) (.int .i64 b.e.hi) (.int .i64 b.n.lo) (.int .i64 b.n.hi) (.slice fa b.fs.length fc) (.slice sa b.ss.length sc) z0
      have t4_1 := (six_other x0 w2.heap.size (w2.heap.size + 1) (.int .i64 b.e.lo) (.int .i64 b.e.hi) (.int .i64 b.n.lo) (.int .i64 b.n.hi) (.slice fa b.fs.length fc) (.slice sa b.ss.length sc) (by omega)).trans z1
      have t5_1 := (six_other x0 w2.heap.size (w2.heap.size + 2) (.int .i64 b.e.lo) (.int .i64 b.e.hi) (.int .i64 b.n.lo) (.int .i64 b.n.hi) (.slice fa b.fs.length fc) (.slice sa b.ss.length sc) (by omega)).trans z2
      have gg1 := (six_other x0 w2.heap.size w.heap.size (.int .i64 b.e.lo) (.int .i64 b.e.hi) (.int .i64 b.n.lo) (.int .i64 b.n.hi) (.slice fa b.fs.length fc) (.slice sa b.ss.length sc) (by omega)).trans g3
      refine hK _ _ hb1 (fun _ => ?_)
      clear hK K f0 f1 f2 f3 f4 f5 d0 d1 d2 d3 d4 d5 hA3 g3 z0 z1 z2
      try simp only [Act.put, List.setIfInBounds_toArray, List.set_cons_zero, List.set_cons_succ]
      generalize ((((((x0.setCell ⟨w2.heap.size, 0, none⟩ (.int .i64 b.e.lo)).setCell ⟨w2.heap.size, 1, none⟩ (.int .i64 b.e.hi)).setCell ⟨w2.heap.size, 2, none⟩ (.int .i64 b.n.lo)).setCell ⟨w2.heap.size, 3, none⟩ (.int .i64 b.n.hi)).setCell ⟨w2.heap.size, 4, none⟩ (.slice fa b.fs.length fc)).setCell ⟨w2.heap.size, 5, none⟩ (.slice sa b.ss.length sc)) = x1 at t3_1 t4_1 t5_1 gg1 hb1 ⊢
      have f0 := frozen_block t4_1 0
      have f1 := frozen_block t4_1 1
      have f2 := frozen_block t4_1 2
      have f3 := frozen_block t4_1 3
      have f4 := frozen_block t4_1 4
      have f5 := frozen_block t4_1 5
      have d0 := cell_block t4_1 0
      have d1 := cell_block t4_1 1
      have d2 := cell_block t4_1 2
      have d3 := cell_block t4_1 3
      have d4 := cell_block t4_1 4
      have d5 := cell_block t4_1 5
      simp only [List.getElem?_toArray, List.getElem?_cons_zero, List.getElem?_cons_succ] at d0 d1 d2 d3 d4 d5
      refine wpAnyW_one 7 (by kernel_rfl) (by kernel_rfl) ?_
      intro o ho K hK
      simp only [List.getElem?_toArray, List.getElem?_cons_zero, List.getElem?_cons_succ, Option.some.injEq] at ho
      subst ho
      go_simp
      have hb2 := six_below (.int .i64 b.e.lo) (.int .i64 b.e.hi) (.int .i64 b.n.lo) (.int .i64 b.n.hi) (.slice fa b.fs.length fc) (.slice sa b.ss.length sc) hb1 (show w2.heap.size ≤ (w2.heap.size + 1) by omega)
      have t3_2 := (six_other x1 (w2.heap.size + 1) w2.heap.size (.int .i64 b.e.lo) (.int .i64 b.e.hi) (.int .i64 b.n.lo) (.int .i64 b.n.hi) (.slice fa b.fs.length fc) (.slice sa b.ss.length sc) (by omega)).trans t3_1
      have t4_2 := six_same (.int .i64 b.e.lo) (.int .i64 b.e.hi) (.int .i64 b.n.lo) (.int .i64 b.n.hi) (.slice fa b.fs.length fc) (.slice sa b.ss.length sc) t4_1
      have t5_2 := (six_other x1 (w2.heap.size + 1) (w2.heap.size + 2) (.int .i64 b.e.lo) (.int .i64 b.e.hi) (.int .i64 b.n.lo) (.int .i64 b.n.hi) (.slice fa b.fs.length fc) (.slice sa b.ss.length sc) (by omega)).trans t5_1
      have gg2 := (six_other x1 (w2.heap.size + 1) w.heap.size (.int .i64 b.e.lo) (.int .i64 b.e.hi) (.int .i64 b.n.lo) (.int .i64 b.n.hi) (.slice fa b.fs.length fc) (.slice sa b.ss.length sc) (by omega)).trans gg1
      refine hK _ _ hb2 (fun _ => ?_)
      clear hK K f0 f1 f2 f3 f4 f5 d0 d1 d2 d3 d4 d5 hb1 gg1 t3_1 t4_1 t5_1
      try simp only [Act.put, List.setIfInBounds_toArray, List.set_cons_zero, List.set_cons_succ]
      generalize ((((((x1.setCell ⟨(w2.heap.size + 1), 0, none⟩ (.int .i64 b.e.lo)).setCell ⟨(w2.heap.size + 1), 1, none⟩ (.int .i64 b.e.hi)).setCell ⟨(w2.heap.size + 1), 2, none⟩ (.int .i64 b.n.lo)).setCell ⟨(w2.heap.size + 1), 3, none⟩ (.int .i64 b.n.hi)).setCell ⟨(w2.heap.size + 1), 4, none⟩ (.slice fa b.fs.length fc)).setCell ⟨(w2.heap.size + 1), 5, none⟩ (.slice sa b.ss.length sc)) = x2 at t3_2 t4_2 t5_2 gg2 hb2 ⊢
      have f0 := frozen_block t5_2 0
      have f1 := frozen_block t5_2 1
      have f2 := frozen_block t5_2 2
      have f3 := frozen_block t5_2 3
      have f4 := frozen_block t5_2 4
      have f5 := frozen_block t5_2 5
      have d0 := cell_block t5_2 0
      have d1 := cell_block t5_2 1
      have d2 := cell_block t5_2 2
      have d3 := cell_block t5_2 3
      have d4 := cell_block t5_2 4
      have d5 := cell_block t5_2 5
      simp only [List.getElem?_toArray, List.getElem?_cons_zero, List.getElem?_cons_succ] at d0 d1 d2 d3 d4 d5
      refine wpAnyW_one 8 (by kernel_rfl) (by kernel_rfl) ?_
      intro o ho K hK
      simp only [List.getElem?_toArray, List.getElem?_cons_zero, List.getElem?_cons_succ, Option.some.injEq] at ho
      subst ho
      go_simp
      have hb3 := six_below (.int .i64 b.e.lo) (.int .i64 b.e.hi) (.int .i64 b.n.lo) (.int .i64 b.n.hi) (.slice fa b.fs.length fc) (.slice sa b.ss.length sc) hb2 (show w2.heap.size ≤ (w2.heap.size + 2) by omega)
      have t3_3 := (six_other x2 (w2.heap.size + 2) w2.heap.size (.int .i64 b.e.lo) (.int .i64 b.e.hi) (.int .i64 b.n.lo) (.int .i64 b.n.hi) (.slice fa b.fs.length fc) (.slice sa b.ss.length sc) (by omega)).trans t3_2
      have t4_3 := (six_other x2 (w2.heap.size + 2) (w2.heap.size + 1) (.int .i64 b.e.lo) (.int .i64 b.e.hi) (.int .i64 b.n.lo) (.int .i64 b.n.hi) (.slice fa b.fs.length fc) (.slice sa b.ss.length sc) (by omega)).trans t4_2
      have t5_3 := six_same (.int .i64 b.e.lo) (.int .i64 b.e.hi) (.int .i64 b.n.lo) (.int .i64 b.n.hi) (.slice fa b.fs.length fc) (.slice sa b.ss.length sc) t5_2
      have gg3 := (six_other x2 (w2.heap.size + 2) w.heap.size (.int .i64 b.e.lo) (.int .i64 b.e.hi) (.int .i64 b.n.lo) (.int .i64 b.n.hi) (.slice fa b.fs.length fc) (.slice sa b.ss.length sc) (by omega)).trans gg2
      refine hK _ _ hb3 (fun _ => ?_)
      clear hK K f0 f1 f2 f3 f4 f5 d0 d1 d2 d3 d4 d5 hb2 gg2 t3_2 t4_2 t5_2
      try simp only [Act.put, List.setIfInBounds_toArray, List.set_cons_zero, List.set_cons_succ]
      generalize ((((((x2.setCell ⟨(w2.heap.size + 2), 0, none⟩ (.int .i64 b.e.lo)).setCell ⟨(w2.heap.size + 2), 1, none⟩ (.int .i64 b.e.hi)).setCell ⟨(w2.heap.size + 2), 2, none⟩ (.int .i64 b.n.lo)).setCell ⟨(w2.heap.size + 2), 3, none⟩ (.int .i64 b.n.hi)).setCell ⟨(w2.heap.size + 2), 4, none⟩ (.slice fa b.fs.length fc)).setCell ⟨(w2.heap.size + 2), 5, none⟩ (.slice sa b.ss.length sc)) = x3 at t3_3 t4_3 t5_3 gg3 hb3 ⊢
      refine wpAnyW_done (by kernel_rfl) ?_ _
      dsimp only [onNormal]
      go_upto_region 5 with fail
      refine lawMore_d b fa sa fc sc w2.heap.size (w2.heap.size + 1) (w2.heap.size + 2) k by' w x3 HB HOK HF.out hkl ⟨⟨by omega, by omega, by omega⟩, ⟨by omega, by omega, by omega⟩, ⟨by omega, by omega, by omega⟩⟩ gg3 t3_3 t4_3 t5_3 (hb0.trans (hb3.mono hb0.size)) _ ?_
      assumption
    · intro o ho K hK
      simp only [List.getElem?_toArray, List.getElem?_cons_zero, List.getElem?_cons_succ, Option.some.injEq] at ho
      subst ho
      go_simp
      have hA2 : Below w2.heap.size w2 ((w2.alloc (.cells #[.int .i64 0, .int .i64 0, .int .i64 0, .int .i64 0, .slice none 0 0, .slice none 0 0] 26)).alloc (.cells #[.int .i64 0, .int .i64 0, .int .i64 0, .int .i64 0, .slice none 0 0, .slice none 0 0] 26)).drew := by
        exact ((below_alloc w2 _).alloc (by simp only [World.size_alloc]; omega) _).drew
      refine hK _ _ hA2 (fun _ => ?_)
      clear hK K
      try simp only [Act.put, List.setIfInBounds_toArray, List.set_cons_zero, List.set_cons_succ]
      refine wpAnyW_one 4 (by kernel_rfl) (by kernel_rfl) ?_
      intro o ho K hK
      simp only [List.getElem?_toArray, List.getElem?_cons_zero, List.getElem?_cons_succ, Option.some.injEq] at ho
      subst ho
      go_simp
      have hA3 : Below w2.heap.size w2 (((w2.alloc (.cells #[.int .i64 0, .int .i64 0, .int .i64 0, .int .i64 0, .slice none 0 0, .slice none 0 0] 26)).alloc (.cells #[.int .i64 0, .int .i64 0, .int .i64 0, .int .i64 0, .slice none 0 0, .slice none 0 0] 26)).alloc (.cells #[.int .i64 0, .int .i64 0, .int .i64 0, .int .i64 0, .slice none 0 0, .slice none 0 0] 26)).drew := by
        exact (((below_alloc w2 _).alloc (by simp only [World.size_alloc]; omega) _).alloc (by simp only [World.size_alloc]; omega) _).drew
      refine hK _ _ hA3 (fun _ => ?_)
      clear hK K
      try simp only [Act.put, List.setIfInBounds_toArray, List.set_cons_zero, List.set_cons_succ]
      have z0 : (((w2.alloc (.cells #[.int .i64 0, .int .i64 0, .int .i64 0, .int .i64 0, .slice none 0 0, .slice none 0 0] 26)).alloc (.cells #[.int .i64 0, .int .i64 0, .int .i64 0, .int .i64 0, .slice none 0 0, .slice none 0 0] 26)).alloc (.cells #[.int .i64 0, .int .i64 0, .int .i64 0, .int .i64 0, .slice none 0 0, .slice none 0 0] 26)).drew.heap[w2.heap.size]? = some (.cells #[.int .i64 0, .int .i64 0, .int .i64 0, .int .i64 0, .slice none 0 0, .slice none 0 0] 26) := by show (((w2.alloc (.cells #[.int .i64 0, .int .i64 0, .int .i64 0, .int .i64 0, .slice none 0 0, .slice none 0 0] 26)).alloc (.cells #[.int .i64 0, .int .i64 0, .int .i64 0, .int .i64 0, .slice none 0 0, .slice none 0 0] 26)).alloc (.cells #[.int .i64 0, .int .i64 0, .int .i64 0, .int .i64 0, .slice none 0 0, .slice none 0 0] 26)).heap[w2.heap.size]? = _; simp only [alloc_get, World.size_alloc]; rw [if_neg (by omega), if_neg (by omega), if_pos trivial]
      have z1 : (((w2.alloc (.cells #[.int .i64 0, .int .i64 0, .int .i64 0, .int .i64 0, .slice none 0 0, .slice none 0 0] 26)).alloc (.cells #[.int .i64 0, .int .i64 0, .int .i64 0, .int .i64 0, .slice none 0 0, .slice none 0 0] 26)).alloc (.cells #[.int .i64 0, .int .i64 0, .int .i64 0, .int .i64 0, .slice none 0 0, .slice none 0 0] 26)).drew.heap[w2.heap.size + 1]? = some (.cells #[.int .i64 0, .int .i64 0, .int .i64 0, .int .i64 0, .slice none 0 0, .slice none 0 0] 26) := by show (((w2.alloc (.cells #[.int .i64 0, .int .i64 0, .int .i64 0, .int .i64 0, .slice none 0 0, .slice none 0 0] 26)).alloc (.cells #[.int .i64 0, .int .i64 0, .int .i64 0, .int .i64 0, .slice none 0 0, .slice none 0 0] 26)).alloc (.cells #[.int .i64 0, .int .i64 0, .int .i64 0, .int .i64 0, .slice none 0 0, .slice none 0 0] 26)).heap[w2.heap.size + 1]? = _; simp only [alloc_get, World.size_alloc]; rw [if_neg (by omega), if_pos trivial]
      have z2 : (((w2.alloc (.cells #[.int .i64 0, .int .i64 0, .int .i64 0, .int .i64 0, .slice none 0 0, .slice none 0 0] 26)).alloc (.cells #[.int .i64 0, .int .i64 0, .int .i64 0, .int .i64 0, .slice none 0 0, .slice none 0 0] 26)).alloc (.cells #[.int .i64 0, .int .i64 0, .int .i64 0, .int .i64 0, .slice none 0 0, .slice none 0 0] 26)).drew.heap[w2.heap.size + 2]? = some (.cells #[.int .i64 0, .int .i64 0, .int .i64 0, .int .i64 0, .slice none 0 0, .slice none 0 0] 26) := by show (((w2.alloc (.cells #[.int .i64 0, .int .i64 0, .int .i64 0, .int .i64 0, .slice none 0 0, .slice none 0 0] 26)).alloc (.cells #[.int .i64 0, .int .i64 0, .int .i64 0, .int .i64 0, .slice none 0 0, .slice none 0 0] 26)).alloc (.cells #[.int .i64 0, .int .i64 0, .int .i64 0, .int .i64 0, .slice none 0 0, .slice none 0 0] 26)).heap[w2.heap.size + 2]? = _; simp only [alloc_get, World.size_alloc]; first | exact if_pos trivial | rw [if_pos trivial]
      have g3 := obj_later hA3 g2
      generalize (((w2.alloc (.cells #[.int .i64 0, .int .i64 0, .int .i64 0, .int .i64 0, .slice none 0 0, .slice none 0 0] 26)).alloc (.cells #[.int .i64 0, .int .i64 0, .int .i64 0, .int .i64 0, .slice none 0 0, .slice none 0 0] 26)).alloc (.cells #[.int .i64 0, .int .i64 0, .int .i64 0, .int .i64 0, .slice none 0 0, .slice none 0 0] 26)).drew = x0 at z0 z1 z2 g3 hA3 ⊢
      have f0 := frozen_block z0 0
      have f1 := frozen_block z0 1
      have f2 := frozen_block z0 2
      have f3 := frozen_block z0 3
      have f4 := frozen_block z0 4
      have f5 := frozen_block z0 5
      have d0 := cell_block z0 0
      have d1 := cell_block z0 1
      have d2 := cell_block z0 2
      have d3 := cell_block z0 3
      have d4 := cell_block z0 4
      have d5 := cell_block z0 5
      simp only [List.getElem?_toArray, List.getElem?_cons_zero, List.getElem?_cons_succ] at d0 d1 d2 d3 d4 d5
      refine wpAnyW_one 6 (by kernel_rfl) (by kernel_rfl) ?_
      intro o ho K hK
      simp only [List.getElem?_toArray, List.getElem?_cons_zero, List.getElem?_cons_succ, Option.some.injEq] at ho
      subst ho
      go_simp
      have hb1 := six_below (.int .i64 b.e.lo) (.int .i64 b.e.hi) (.int .i64 b.n.lo) (.int .i64 b.n.hi) (.slice fa b.fs.length fc) (.slice sa b.ss.length sc) hA3 (show w2.heap.size ≤ w2.heap.size by omega)
      have t3_1 := six_same (.int .i64 b.e.lo) (.int .i64 b.e.hi) (.int .i64 b.n.lo) (.int .i64 b.n.hi) (.slice fa b.fs.length fc) (.slice sa b.ss.length sc) z0
      have t4_1 := (six_other x0 w2.heap.size (w2.heap.size + 2) (.int .i64 b.e.lo) (.int .i64 b.e.hi) (.int .i64 b.n.lo) (.int .i64 b.n.hi) (.slice fa b.fs.length fc) (.slice sa b.ss.length sc) (by omega)).trans z2
      have t5_1 := (six_other x0 w2.heap.size (w2.heap.size + 1) (.int .i64 b.e.lo) (.int .i64 b.e.hi) (.int .i64 b.n.lo) (.int .i64 b.n.hi) (.slice fa b.fs.length fc) (.slice sa b.ss.length sc) (by omega)).trans z1
      have gg1 := (six_other x0 w2.heap.size w.heap.size (.int .i64 b.e.lo) (.int .i64 b.e.hi) (.int .i64 b.n.lo) (.int .i64 b.n.hi) (.slice fa b.fs.length fc) (.slice sa b.ss.length sc) (by omega)).trans g3
      refine hK _ _ hb1 (fun _ => ?_)
      clear hK K f0 f1 f2 f3 f4 f5 d0 d1 d2 d3 d4 d5 hA3 g3 z0 z2 z1
      try simp only [Act.put, List.setIfInBounds_toArray, List.set_cons_zero, List.set_cons_succ]
      generalize ((((((x0.setCell ⟨w2.heap.size, 0, none⟩ (.int .i64 b.e.lo)).setCell ⟨w2.heap.size, 1, none⟩ (.int .i64 b.e.hi)).setCell ⟨w2.heap.size, 2, none⟩ (.int .i64 b.n.lo)).setCell ⟨w2.heap.size, 3, none⟩ (.int .i64 b.n.hi)).setCell ⟨w2.heap.size, 4, none⟩ (.slice fa b.fs.length fc)).setCell ⟨w2.heap.size, 5, none⟩ (.slice sa b.ss.length sc)) = x1 at t3_1 t4_1 t5_1 gg1 hb1 ⊢
      have f0 := frozen_block t4_1 0
      have f1 := frozen_block t4_1 1
      have f2 := frozen_block t4_1 2
      have f3 := frozen_block t4_1 3
      have f4 := frozen_block t4_1 4
      have f5 := frozen_block t4_1 5
      have d0 := cell_block t4_1 0
      have d1 := cell_block t4_1 1
      have d2 := cell_block t4_1 2
      have d3 := cell_block t4_1 3
      have d4 := cell_block t4_1 4
      have d5 := cell_block t4_1 5
      simp only [List.getElem?_toArray, List.getElem?_cons_zero, List.getElem?_cons_succ] at d0 d1 d2 d3 d4 d5
      refine wpAnyW_one 7 (by kernel_rfl) (by kernel_rfl) ?_
      intro o ho K hK
      simp only [List.getElem?_toArray, List.getElem?_cons_zero, List.getElem?_cons_succ, Option.some.injEq] at ho
      subst ho
      go_simp
      have hb2 := six_below (.int .i64 b.e.lo) (.int .i64 b.e.hi) (.int .i64 b.n.lo) (.int .i64 b.n.hi) (.slice fa b.fs.length fc) (.slice sa b.ss.length sc) hb1 (show w2.heap.size ≤ (w2.heap.size + 2) by omega)
      have t3_2 := (six_other x1 (w2.heap.size + 2) w2.heap.size (.int .i64 b.e.lo) (.int .i64 b.e.hi) (.int .i64 b.n.lo) (.int .i64 b.n.hi) (.slice fa b.fs.length fc) (.slice sa b.ss.length sc) (by omega)).trans t3_1
      have t4_2 := six_same (.int .i64 b.e.lo) (.int .i64 b.e.hi) (.int .i64 b.n.lo) (.int .i64 b.n.hi) (.slice fa b.fs.length fc) (.slice sa b.ss.length sc) t4_1
      have t5_2 := (six_other x1 (w2.heap.size + 2) (w2.heap.size + 1) (.int .i64 b.e.lo) (.int .i64 b.e.hi) (.int .i64 b.n.lo) (.int .i64 b.n.hi) (.slice fa b.fs.length fc) (.slice sa b.ss.length sc) (by omega)).trans t5_1
      have gg2 := (six_other x1 (w2.heap.size + 2) w.heap.size (.int .i64 b.e.lo) (.int .i64 b.e.hi) (.int .i64 b.n.lo) (.int .i64 b.n.hi) (.slice fa b.fs.length fc) (.slice sa b.ss.length sc) (by omega)).trans gg1
      refine hK _ _ hb2 (fun _ => ?_)
      clear hK K f0 f1 f2 f3 f4 f5 d0 d1 d2 d3 d4 d5 hb1 gg1 t3_1 t4_1 t5_1
      try simp only [Act.put, List.setIfInBounds_toArray, List.set_cons_zero, List.set_cons_succ]
      generalize ((((((x1.setCell ⟨(w2.heap.size + 2), 0, none⟩ (.int .i64 b.e.lo)).setCell ⟨(w2.heap.size + 2), 1, none⟩ (.int .i64 b.e.hi)).setCell ⟨(w2.heap.size + 2), 2, none⟩ (.int .i64 b.n.lo)).setCell ⟨(w2.heap.size + 2), 3, none⟩ (.int .i64 b.n.hi)).setCell ⟨(w2.heap.size + 2), 4, none⟩ (.slice fa b.fs.length fc)).setCell ⟨(w2.heap.size + 2), 5, none⟩ (.slice sa b.ss.length sc)) = x2 at t3_2 t4_2 t5_2 gg2 hb2 ⊢
      have f0 := frozen_block t5_2 0
      have f1 := frozen_block t5_2 1
      have f2 := frozen_block t5_2 2
      have f3 := frozen_block t5_2 3
      have f4 := frozen_block t5_2 4
      have f5 := frozen_block t5_2 5
      have d0 := cell_block t5_2 0
      have d1 := cell_block t5_2 1
      have d2 := cell_block t5_2 2
      have d3 := cell_block t5_2 3
      have d4 := cell_block t5_2 4
      have d5 := cell_block t5_2 5
      simp only [List.getElem?_toArray, List.getElem?_cons_zero, List.getElem?_cons_succ] at d0 d1 d2 d3 d4 d5
      refine wpAnyW_one 8 (by kernel_rfl) (by kernel_rfl) ?_
      intro o ho K hK
      simp only [List.getElem?_toArray, List.getElem?_cons_zero, List.getElem?_cons_succ, Option.some.injEq] at ho
      subst ho
      go_simp
      have hb3 := six_below (.int .i64 b.e.lo) (.int .i64 b.e.hi) (.int .i64 b.n.lo) (.int .i64 b.n.hi) (.slice fa b.fs.length fc) (.slice sa b.ss.length sc) hb2 (show w2.heap.size ≤ (w2.heap.size + 1) by omega)
      have t3_3 := (six_other x2 (w2.heap.size + 1) w2.heap.size (.int .i64 b.e.lo) (.int .i64 b.e.hi) (.int .i64 b.n.lo) (.int .i64 b.n.hi) (.slice fa b.fs.length fc) (.slice sa b.ss.length sc) (by omega)).trans t3_2
      have t4_3 := (six_other x2 (w2.heap.size + 1) (w2.heap.size + 2) (.int .i64 b.e.lo) (.int .i64 b.e.hi) (.int .i64 b.n.lo) (.int .i64 b.n.hi) (.slice fa b.fs.length fc) (.slice sa b.ss.length sc) (by omega)).trans t4_2
      have t5_3 := six_same (.int .i64 b.e.lo) (.int .i64 b.e.hi) (.int .i64 b.n.lo) (.int .i64 b.n.hi) (.slice fa b.fs.length fc) (.slice sa b.ss.length sc) t5_2
      have gg3 := (six_other x2 (w2.heap.size + 1) w.heap.size (.int .i64 b.e.lo) (.int .i64 b.e.hi) (.int .i64 b.n.lo) (.int .i64 b.n.hi) (.slice fa b.fs.length fc) (.slice sa b.ss.length sc) (by omega)).trans gg2
      refine hK _ _ hb3 (fun _ => ?_)
      clear hK K f0 f1 f2 f3 f4 f5 d0 d1 d2 d3 d4 d5 hb2 gg2 t3_2 t4_2 t5_2
      try simp only [Act.put, List.setIfInBounds_toArray, List.set_cons_zero, List.set_cons_succ]
      generalize ((((((x2.setCell ⟨(w2.heap.size + 1), 0, none⟩ (.int .i64 b.e.lo)).setCell ⟨(w2.heap.size + 1), 1, none⟩ (.int .i64 b.e.hi)).setCell ⟨(w2.heap.size + 1), 2, none⟩ (.int .i64 b.n.lo)).setCell ⟨(w2.heap.size + 1), 3, none⟩ (.int .i64 b.n.hi)).setCell ⟨(w2.heap.size + 1), 4, none⟩ (.slice fa b.fs.length fc)).setCell ⟨(w2.heap.size + 1), 5, none⟩ (.slice sa b.ss.length sc)) = x3 at t3_3 t4_3 t5_3 gg3 hb3 ⊢
      refine wpAnyW_done (by kernel_rfl) ?_ _
      dsimp only [onNormal]
      go_upto_region 5 with fail
      refine lawMore_d b fa sa fc sc w2.heap.size (w2.heap.size + 2) (w2.heap.size + 1) k by' w x3 HB HOK HF.out hkl ⟨⟨by omega, by omega, by omega⟩, ⟨by omega, by omega, by omega⟩, ⟨by omega, by omega, by omega⟩⟩ gg3 t3_3 t4_3 t5_3 (hb0.trans (hb3.mono hb0.size)) _ ?_
      assumption
  · intro o ho K hK
    simp only [List.getElem?_toArray, List.getElem?_cons_zero, List.getElem?_cons_succ, Option.some.injEq] at ho
    subst ho
    go_simp
    have hA1 : Below w2.heap.size w2 (w2.alloc (.cells #[.int .i64 0, .int .i64 0, .int .i64 0, .int .i64 0, .slice none 0 0, .slice none 0 0] 26)).drew := by
      exact (below_alloc w2 _).drew
    refine hK _ _ hA1 (fun _ => ?_)
    clear hK K
    try simp only [Act.put, List.setIfInBounds_toArray, List.set_cons_zero, List.set_cons_succ]
    refine wpAnyW_two 3 5 (by kernel_rfl) ⟨by kernel_rfl, by kernel_rfl⟩ ?_ ?_
    · intro o ho K hK
      simp only [List.getElem?_toArray, List.getElem?_cons_zero, List.getElem?_cons_succ, Option.some.injEq] at ho
      subst ho
      go_simp
      have hA2 : Below w2.heap.size w2 ((w2.alloc (.cells #[.int .i64 0, .int .i64 0, .int .i64 0, .int .i64 0, .slice none 0 0, .slice none 0 0] 26)).alloc (.cells #[.int .i64 0, .int .i64 0, .int .i64 0, .int .i64 0, .slice none 0 0, .slice none 0 0] 26)).drew := by
        exact ((below_alloc w2 _).alloc (by simp only [World.size_alloc]; omega) _).drew
      refine hK _ _ hA2 (fun _ => ?_)
      clear hK K
      try simp only [Act.put, List.setIfInBounds_toArray, List.set_cons_zero, List.set_cons_succ]
      refine wpAnyW_one 5 (by kernel_rfl) (by kernel_rfl) ?_
      intro o ho K hK
      simp only [List.getElem?_toArray, List.getElem?_cons_zero, List.getElem?_cons_succ, Option.some.injEq] at ho
      subst ho
      go_simp
      have hA3 : Below w2.heap.size w2 (((w2.alloc (.cells #[.int .i64 0, .int .i64 0, .int .i64 0, .int .i64 0, .slice none 0 0, .slice none 0 0] 26)).alloc (.cells #[.int .i64 0, .int .i64 0, .int .i64 0, .int .i64 0, .slice none 0 0, .slice none 0 0] 26)).alloc (.cells #[.int .i64 0, .int .i64 0, .int .i64 0, .int .i64 0, .slice none 0 0, .slice none 0 0] 26)).drew := by
        exact (((below_alloc w2 _).alloc (by simp only [World.size_alloc]; omega) _).alloc (by simp only [World.size_alloc]; omega) _).drew
      refine hK _ _ hA3 (fun _ => ?_)
      clear hK K
      try simp only [Act.put, List.setIfInBounds_toArray, List.set_cons_zero, List.set_cons_succ]
      have z0 : (((w2.alloc (.cells #[.int .i64 0, .int .i64 0, .int .i64 0, .int .i64 0, .slice none 0 0, .slice none 0 0] 26)).alloc (.cells #[.int .i64 0, .int .i64 0, .int .i64 0, .int .i64 0, .slice none 0 0, .slice none 0 0] 26)).alloc (.cells #[.int .i64 0, .int .i64 0, .int .i64 0, .int .i64 0, .slice none 0 0, .slice none 0 0] 26)).drew.heap[w2.heap.size]? = some (.cells #[.int .i64 0, .int .i64 0, .int .i64 0, .int .i64 0, .slice none 0 0, .slice none 0 0] 26) := by show (((w2.alloc (.cells #[.int .i64 0, .int .i64 0, .int .i64 0, .int .i64 0, .slice none 0 0, .slice none 0 0] 26)).alloc (.cells #[.int .i64 0, .int .i64 0, .int .i64 0, .int .i64 0, .slice none 0 0, .slice none 0 0] 26)).alloc (.cells #[.int .i64 0, .int .i64 0, .int .i64 0, .int .i64 0, .slice none 0 0, .slice none 0 0] 26)).heap[w2.heap.size]? = _; simp only [alloc_get, World.size_alloc]; rw [if_neg (by omega), if_neg (by omega), if_pos trivial]
      have z1 : (((w2.alloc (.cells #[.int .i64 0, .int .i64 0, .int .i64 0, .int .i64 0, .slice none 0 0, .slice none 0 0] 26)).alloc (.cells #[.int .i64 0, .int .i64 0, .int .i64 0, .int .i64 0, .slice none 0 0, .slice none 0 0] 26)).alloc (.cells #[.int .i64 0, .int .i64 0, .int .i64 0, .int .i64 0, .slice none 0 0, .slice none 0 0] 26)).drew.heap[w2.heap.size + 1]? = some (.cells #[.int .i64 0, .int .i64 0, .int .i64 0, .int .i64 0, .slice none 0 0, .slice none 0 0] 26) := by show (((w2.alloc (.cells #[.int .i64 0, .int .i64 0, .int .i64 0, .int .i64 0, .slice none 0 0, .slice none 0 0] 26)).alloc (.cells #[.int .i64 0, .int .i64 0, .int .i64 0, .int .i64 0, .slice none 0 0, .slice none 0 0] 26)).alloc (.cells #[.int .i64 0, .int .i64 0, .int .i64 0, .int .i64 0, .slice none 0 0, .slice none 0 0] 26)).heap[w2.heap.size + 1]? = _; simp only [alloc_get, World.size_alloc]; rw [if_neg (by omega), if_pos trivial]
      have z2 : (((w2.alloc (.cells #[.int .i64 0, .int .i64 0, .int .i64 0, .int .i64 0, .slice none 0 0, .slice none 0 0] 26)).alloc (.cells #[.int .i64 0, .int .i64 0, .int .i64 0, .int .i64 0, .slice none 0 0, .slice none 0 0] 26)).alloc (.cells #[.int .i64 0, .int .i64 0, .int .i64 0, .int .i64 0, .slice none 0 0, .slice none 0 0] 26)).drew.heap[w2.heap.size + 2]? = some (.cells #[.int .i64 0, .int .i64 0, .int .i64 0, .int .i64 0, .slice none 0 0, .slice none 0 0] 26) := by show (((w2.alloc (.cells #[.int .i64 0, .int .i64 0, .int .i64 0, .int .i64 0, .slice none 0 0, .slice none 0 0] 26)).alloc (.cells #[.int .i64 0, .int .i64 0, .int .i64 0, .int .i64 0, .slice none 0 0, .slice none 0 0] 26)).alloc (.cells #[.int .i64 0, .int .i64 0, .int .i64 0, .int .i64 0, .slice none 0 0, .slice none 0 0] 26)).heap[w2.heap.size + 2]? = _; simp only [alloc_get, World.size_alloc]; first | exact if_pos trivial | rw [if_pos trivial]
      have g3 := obj_later hA3 g2
      generalize (((w2.alloc (.cells #[.int .i64 0, .int .i64 0, .int .i64 0, .int .i64 0, .slice none 0 0, .slice none 0 0] 26)).alloc (.cells #[.int .i64 0, .int .i64 0, .int .i64 0, .int .i64 0, .slice none 0 0, .slice none 0 0] 26)).alloc (.cells #[.int .i64 0, .int .i64 0, .int .i64 0, .int .i64 0, .slice none 0 0, .slice none 0 0] 26)).drew = x0 at z0 z1 z2 g3 hA3 ⊢
      have f0 := frozen_block z1 0
      have f1 := frozen_block z1 1
      have f2 := frozen_block z1 2
      have f3 := frozen_block z1 3
      have f4 := frozen_block z1 4
      have f5 := frozen_block z1 5
      have d0 := cell_block z1 0
      have d1 := cell_block z1 1
      have d2 := cell_block z1 2
      have d3 := cell_block z1 3
      have d4 := cell_block z1 4
      have d5 := cell_block z1 5
      simp only [List.getElem?_toArray, List.getElem?_cons_zero, List.getElem?_cons_succ] at d0 d1 d2 d3 d4 d5
      refine wpAnyW_one 6 (by kernel_rfl) (by kernel_rfl) ?_
      intro o ho K hK
      simp only [List.getElem?_toArray, List.getElem?_cons_zero, List.getElem?_cons_succ, Option.some.injEq] at ho
      subst ho
      go_simp
      have hb1 := six_below (.int .i64 b.e.lo) (.int .i64 b.e.hi) (.int .i64 b.n.lo) (.int .i64 b.n.hi) (.slice fa b.fs.length fc) (.slice sa b.ss.length sc) hA3 (show w2.heap.size ≤ (w2.heap.size + 1) by omega)
      have t3_1 := six_same (.int .i64 b.e.lo) (.int .i64 b.e.hi) (.int .i64 b.n.lo) (.int .i64 b.n.hi) (.slice fa b.fs.length fc) (.slice sa b.ss.length sc) z1
      have t4_1 := (six_other x0 (w2.heap.size + 1) w2.heap.size (.int .i64 b.e.lo) (.int .i64 b.e.hi) (.int .i64 b.n.lo) (.int .i64 b.n.hi) (.slice fa b.fs.length fc) (.slice sa b.ss.length sc) (by omega)).trans z0
      have t5_1 := (six_other x0 (w2.heap.size + 1) (w2.heap.size + 2) (.int .i64 b.e.lo) (.int .i64 b.e.hi) (.int .i64 b.n.lo) (.int .i64 b.n.hi) (.slice fa b.fs.length fc) (.slice sa b.ss.length sc) (by omega)).trans z2
      have gg1 := (six_other x0 (w2.heap.size + 1) w.heap.size (.int .i64 b.e.lo) (.int .i64 b.e.hi) (.int .i64 b.n.lo) (.int .i64 b.n.hi) (.slice fa b.fs.length fc) (.slice sa b.ss.length sc) (by omega)).trans g3
      refine hK _ _ hb1 (fun _ => ?_)
      clear hK K f0 f1 f2 f3 f4 f5 d0 d1 d2 d3 d4 d5 hA3 g3 z1 z0 z2
      try simp only [Act.put, List.setIfInBounds_toArray, List.set_cons_zero, List.set_cons_succ]
      generalize ((((((x0.setCell ⟨(w2.heap.size + 1), 0, none⟩ (.int .i64 b.e.lo)).setCell ⟨(w2.heap.size + 1), 1, none⟩ (.int .i64 b.e.hi)).setCell ⟨(w2.heap.size + 1), 2, none⟩ (.int .i64 b.n.lo)).setCell ⟨(w2.heap.size + 1), 3, none⟩ (.int .i64 b.n.hi)).setCell ⟨(w2.heap.size + 1), 4, none⟩ (.slice fa b.fs.length fc)).setCell ⟨(w2.heap.size + 1), 5, none⟩ (.slice sa b.ss.length sc)) = x1 at t3_1 t4_1 t5_1 gg1 hb1 ⊢
      have f0 := frozen_block t4_1 0
      have f1 := frozen_block t4_1 1
      have f2 := frozen_block t4_1 2
      have f3 := frozen_block t4_1 3
      have f4 := frozen_block t4_1 4
      have f5 := frozen_block t4_1 5
      have d0 := cell_block t4_1 0
      have d1 := cell_block t4_1 1
      have d2 := cell_block t4_1 2
      have d3 := cell_block t4_1 3
      have d4 := cell_block t4_1 4
      have d5 := cell_block t4_1 5
      simp only [List.getElem?_toArray, List.getElem?_cons_zero, List.getElem?_cons_succ] at d0 d1 d2 d3 d4 d5
      refine wpAnyW_one 7 (by kernel_rfl) (by kernel_rfl) ?_
      intro o ho K hK
      simp only [List.getElem?_toArray, List.getElem?_cons_zero, List.getElem?_cons_succ, Option.some.injEq] at ho
      subst ho
      go_simp
      have hb2 := six_below (.int .i64 b.e.lo) (.int .i64 b.e.hi) (.int .i64 b.n.lo) (.int .i64 b.n.hi) (.slice fa b.fs.length fc) (.slice sa b.ss.length sc) hb1 (show w2.heap.size ≤ w2.heap.size by omega)
      have t3_2 := (six_other x1 w2.heap.size (w2.heap.size + 1) (.int .i64 b.e.lo) (.int .i64 b.e.hi) (.int .i64 b.n.lo) (.int .i64 b.n.hi) (.slice fa b.fs.length fc) (.slice sa b.ss.length sc) (by omega)).trans t3_1
      have t4_2 := six_same (.int .i64 b.e.lo) (.int .i64 b.e.hi) (.int .i64 b.n.lo) (.int .i64 b.n.hi) (.slice fa b.fs.length fc) (.slice sa b.ss.length sc) t4_1
      have t5_2 := (six_other x1 w2.heap.size (w2.heap.size + 2) (.int .i64 b.e.lo) (.int .i64 b.e.hi) (.int .i64 b.n.lo) (.int .i64 b.n.hi) (.slice fa b.fs.length fc) (.slice sa b.ss.length sc) (by omega)).trans t5_1
      have gg2 := (six_other x1 w2.heap.size w.heap.size (.int .i64 b.e.lo) (.int .i64 b.e.hi) (.int .i64 b.n.lo) (.int .i64 b.n.hi) (.slice fa b.fs.length fc) (.slice sa b.ss.length sc) (by omega)).trans gg1
      refine hK _ _ hb2 (fun _ => ?_)
      clear hK K f0 f1 f2 f3 f4 f5 d0 d1 d2 d3 d4 d5 hb1 gg1 t3_1 t4_1 t5_1
      try simp only [Act.put, List.setIfInBounds_toArray, List.set_cons_zero, List.set_cons_succ]
      generalize ((((((x1.setCell ⟨w2.heap.size, 0, none⟩ (.int .i64 b.e.lo)).setCell ⟨w2.heap.size, 1, none⟩ (.int .i64 b.e.hi)).setCell ⟨w2.heap.size, 2, none⟩ (.int .i64 b.n.lo)).setCell ⟨w2.heap.size, 3, none⟩ (.int .i64 b.n.hi)).setCell ⟨w2.heap.size, 4, none⟩ (.slice fa b.fs.length fc)).setCell ⟨w2.heap.size, 5, none⟩ (.slice sa b.ss.length sc)) = x2 at t3_2 t4_2 t5_2 gg2 hb2 ⊢
      have f0 := frozen_block t5_2 0
      have f1 := frozen_block t5_2 1
      have f2 := frozen_block t5_2 2
      have f3 := frozen_block t5_2 3
      have f4 := frozen_block t5_2 4
      have f5 := frozen_block t5_2 5
      have d0 := cell_block t5_2 0
      have d1 := cell_block t5_2 1
      have d2 := cell_block t5_2 2
      have d3 := cell_block t5_2 3
      have d4 := cell_block t5_2 4
      have d5 := cell_block t5_2 5
      simp only [List.getElem?_toArray, List.getElem?_cons_zero, List.getElem?_cons_succ] at d0 d1 d2 d3 d4 d5
      refine wpAnyW_one 8 (by kernel_rfl) (by kernel_rfl) ?_
      intro o ho K hK
      simp only [List.getElem?_toArray, List.getElem?_cons_zero, List.getElem?_cons_succ, Option.some.injEq] at ho
      subst ho
      go_simp
      have hb3 := six_below (.int .i64 b.e.lo) (.int .i64 b.e.hi) (.int .i64 b.n.lo) (.int .i64 b.n.hi) (.slice fa b.fs.length fc) (.slice sa b.ss.length sc) hb2 (show w2.heap.size ≤ (w2.heap.size + 2) by omega)
      have t3_3 := (six_other x2 (w2.heap.size + 2) (w2.heap.size + 1) (.int .i64 b.e.lo) (.int .i64 b.e.hi) (.int .i64 b.n.lo) (.int .i64 b.n.hi) (.slice fa b.fs.length fc) (.slice sa b.ss.length sc) (by omega)).trans t3_2
      have t4_3 := (six_other x2 (w2.heap.size + 2) w2.heap.size (.int .i64 b.e.lo) (.int .i64 b.e.hi) (.int .i64 b.n.lo) (.int .i64 b.n.hi) (.slice fa b.fs.length fc) (.slice sa b.ss.length sc) (by omega)).trans t4_2
      have t5_3 := six_same (.int .i64 b.e.lo) (.int .i64 b.e.hi) (.int .i64 b.n.lo) (.int .i64 b.n.hi) (.slice fa b.fs.length fc) (.slice sa b.ss.length sc) t5_2
      have gg3 := (six_other x2 (w2.heap.size + 2) w.heap.size (.int .i64 b.e.lo) (.int .i64 b.e.hi) (.int .i64 b.n.lo) (.int .i64 b.n.hi) (.slice fa b.fs.length fc) (.slice sa b.ss.length sc) (by omega)).trans gg2
      refine hK _ _ hb3 (fun _ => ?_)
      clear hK K f0 f1 f2 f3 f4 f5 d0 d1 d2 d3 d4 d5 hb2 gg2 t3_2 t4_2 t5_2
      try simp only [Act.put, List.setIfInBounds_toArray, List.set_cons_zero, List.set_cons_succ]
      generalize ((((((x2.setCell ⟨(w2.heap.size + 2), 0, none⟩ (.int .i64 b.e.lo)).setCell ⟨(w2.heap.size + 2), 1, none⟩ (.int .i64 b.e.hi)).setCell ⟨(w2.heap.size + 2), 2, none⟩ (.int .i64 b.n.lo)).setCell ⟨(w2.heap.size + 2), 3, none⟩ (.int .i64 b.n.hi)).setCell ⟨(w2.heap.size + 2), 4, none⟩ (.slice fa b.fs.length fc)).setCell ⟨(w2.heap.size + 2), 5, none⟩ (.slice sa b.ss.length sc)) = x3 at t3_3 t4_3 t5_3 gg3 hb3 ⊢
      refine wpAnyW_done (by kernel_rfl) ?_ _
      dsimp only [onNormal]
      go_upto_region 5 with fail
      refine lawMore_d b fa sa fc sc (w2.heap.size + 1) w2.heap.size (w2.heap.size + 2) k by' w x3 HB HOK HF.out hkl ⟨⟨by omega, by omega, by omega⟩, ⟨by omega, by omega, by omega⟩, ⟨by omega, by omega, by omega⟩⟩ gg3 t3_3 t4_3 t5_3 (hb0.trans (hb3.mono hb0.size)) _ ?_
      assumption
    · intro o ho K hK
      simp only [List.getElem?_toArray, List.getElem?_cons_zero, List.getElem?_cons_succ, Option.some.injEq] at ho
      subst ho
      go_simp
      have hA2 : Below w2.heap.size w2 ((w2.alloc (.cells #[.int .i64 0, .int .i64 0, .int .i64 0, .int .i64 0, .slice none 0 0, .slice none 0 0] 26)).alloc (.cells #[.int .i64 0, .int .i64 0, .int .i64 0, .int .i64 0, .slice none 0 0, .slice none 0 0] 26)).drew := by
        exact ((below_alloc w2 _).alloc (by simp only [World.size_alloc]; omega) _).drew
      refine hK _ _ hA2 (fun _ => ?_)
      clear hK K
      try simp only [Act.put, List.setIfInBounds_toArray, List.set_cons_zero, List.set_cons_succ]
      refine wpAnyW_one 3 (by kernel_rfl) (by kernel_rfl) ?_
      intro o ho K hK
      simp only [List.getElem?_toArray, List.getElem?_cons_zero, List.getElem?_cons_succ, Option.some.injEq] at ho
      subst ho
      go_simp
      have hA3 : Below w2.heap.size w2 (((w2.alloc (.cells #[.int .i64 0, .int .i64 0, .int .i64 0, .int .i64 0, .slice none 0 0, .slice none 0 0] 26)).alloc (.cells #[.int .i64 0, .int .i64 0, .int .i64 0, .int .i64 0, .slice none 0 0, .slice none 0 0] 26)).alloc (.cells #[.int .i64 0, .int .i64 0, .int .i64 0, .int .i64 0, .slice none 0 0, .slice none 0 0] 26)).drew := by
        exact (((below_alloc w2 _).alloc (by simp only [World.size_alloc]; omega) _).alloc (by simp only [World.size_alloc]; omega) _).drew
      refine hK _ _ hA3 (fun _ => ?_)
      clear hK K
      try simp only [Act.put, List.setIfInBounds_toArray, List.set_cons_zero, List.set_cons_succ]
      have z0 : (((w2.alloc (.cells #[.int .i64 0, .int .i64 0, .int .i64 0, .int .i64 0, .slice none 0 0, .slice none 0 0] 26)).alloc (.cells #[.int .i64 0, .int .i64 0, .int .i64 0, .int .i64 0, .slice none 0 0, .slice none 0 0] 26)).alloc (.cells #[.int .i64 0, .int .i64 0, .int .i64 0, .int .i64 0, .slice none 0 0, .slice none 0 0] 26)).drew.heap[w2.heap.size]? = some (.cells #[.int .i64 0, .int .i64 0, .int .i64 0, .int .i64 0, .slice none 0 0, .slice none 0 0] 26) := by show (((w2.alloc (.cells #[.int .i64 0, .int .i64 0, .int .i64 0, .int .i64 0, .slice none 0 0, .slice none 0 0] 26)).alloc (.cells #[.int .i64 0, .int .i64 0, .int .i64 0, .int .i64 0, .slice none 0 0, .slice none 0 0] 26)).alloc (.cells #[.int .i64 0, .int .i64 0, .int .i64 0, .int .i64 0, .slice none 0 0, .slice none 0 0] 26)).heap[w2.heap.size]? = _; simp only [alloc_get, World.size_alloc]; rw [if_neg (by omega), if_neg (by omega), if_pos trivial]
      have z1 : (((w2.alloc (.cells #[.int .i64 0, .int .i64 0, .int .i64 0, .int .i64 0, .slice none 0 0, .slice none 0 0] 26)).alloc (.cells #[.int .i64 0, .int .i64 0, .int .i64 0, .int .i64 0, .slice none 0 0, .slice none 0 0] 26)).alloc (.cells #[.int .i64 0, .int .i64 0, .int .i64 0, .int .i64 0, .slice none 0 0, .slice none 0 0] 26)).drew.heap[w2.heap.size + 1]? = some (.cells #[.int .i64 0, .int .i64 0, .int .i64 0, .int .i64 0, .slice none 0 0, .slice none 0 0] 26) := by show (((w2.alloc (.cells #[.int .i64 0, .int .i64 0, .int .i64 0, .int .i64 0, .slice none 0 0, .slice none 0 0] 26)).alloc (.cells #[.int .i64 0, .int .i64 0, .int .i64 0, .int .i64 0, .slice none 0 0, .slice none 0 0] 26)).alloc (.cells #[.int .i64 0, .int .i64 0, .int .i64 0, .int .i64 0, .slice none 0 0, .slice none 0 0] 26)).heap[w2.heap.size + 1]? = _; simp only [alloc_get, World.size_alloc]; rw [if_neg (by omega), if_pos trivial]
      have z2 : (((w2.alloc (.cells #[.int .i64 0, .int .i64 0, .int .i64 0, .int .i64 0, .slice none 0 0, .slice none 0 0] 26)).alloc (.cells #[.int .i64 0, .int .i64 0, .int .i64 0, .int .i64 0, .slice none 0 0, .slice none 0 0] 26)).alloc (.cells #[.int .i64 0, .int .i64 0, .int .i64 0, .int .i64 0, .slice none 0 0, .slice none 0 0] 26)).drew.heap[w2.heap.size + 2]? = some (.cells #[.int .i64 0, .int .i64 0, .int .i64 0, .int .i64 0, .slice none 0 0, .slice none 0 0] 26) := by show (((w2.alloc (.cells #[.int .i64 0, .int .i64 0, .int .i64 0, .int .i64 0, .slice none 0 0, .slice none 0 0] 26)).alloc (.cells #[.int .i64 0, .int .i64 0, .int .i64 0, .int .i64 0, .slice none 0 0, .slice none 0 0] 26)).alloc (.cells #[.int .i64 0, .int .i64 0, .int .i64 0, .int .i64 0, .slice none 0 0, .slice none 0 0] 26)).heap[w2.heap.size + 2]? = _; simp only [alloc_get, World.size_alloc]; first | exact if_pos trivial | rw [if_pos trivial]
      have g3 := obj_later hA3 g2
      generalize (((w2.alloc (.cells #[.int .i64 0, .int .i64 0, .int .i64 0, .int .i64 0, .slice none 0 0, .slice none 0 0] 26)).alloc (.cells #[.int .i64 0, .int .i64 0, .int .i64 0, .int .i64 0, .slice none 0 0, .slice none 0 0] 26)).alloc (.cells #[.int .i64 0, .int .i64 0, .int .i64 0, .int .i64 0, .slice none 0 0, .slice none 0 0] 26)).drew = x0 at z0 z1 z2 g3 hA3 ⊢
      have f0 := frozen_block z2 0
      have f1 := frozen_block z2 1
      have f2 := frozen_block z2 2
      have f3 := frozen_block z2 3
      have f4 := frozen_block z2 4
      have f5 := frozen_block z2 5
      have d0 := cell_block z2 0
      have d1 := cell_block z2 1
      have d2 := cell_block z2 2
      have d3 := cell_block z2 3
      have d4 := cell_block z2 4
      have d5 := cell_block z2 5
      simp only [List.getElem?_toArray, List.getElem?_cons_zero, List.getElem?_cons_succ] at d0 d1 d2 d3 d4 d5
      refine wpAnyW_one 6 (by kernel_rfl) (by kernel_rfl) ?_
      intro o ho K hK
      simp only [List.getElem?_toArray, List.getElem?_cons_zero, List.getElem?_cons_succ, Option.some.injEq] at ho
      subst ho
      go_simp
      have hb1 := six_below (.int .i64 b.e.lo) (.int .i64 b.e.hi) (.int .i64 b.n.lo) (.int .i64 b.n.hi) (.slice fa b.fs.length fc) (.slice sa b.ss.length sc) hA3 (show w2.heap.size ≤ (w2.heap.size + 2) by omega)
      have t3_1 := six_same (.int .i64 b.e.lo) (.int .i64 b.e.hi) (.int .i64 b.n.lo) (.int .i64 b.n.hi) (.slice fa b.fs.length fc) (.slice sa b.ss.length sc) z2
      have t4_1 := (six_other x0 (w2.heap.size + 2) w2.heap.size (.int .i64 b.e.lo) (.int .i64 b.e.hi) (.int .i64 b.n.lo) (.int .i64 b.n.hi) (.slice fa b.fs.length fc) (.slice sa b.ss.length sc) (by omega)).trans z0
      have t5_1 := (six_other x0 (w2.heap.size + 2) (w2.heap.size + 1) (.int .i64 b.e.lo) (.int .i64 b.e.hi) (.int .i64 b.n.lo) (.int .i64 b.n.hi) (.slice fa b.fs.length fc) (.slice sa b.ss.length sc) (by omega)).trans z1
      have gg1 := (six_other x0 (w2.heap.size + 2) w.heap.size (.int .i64 b.e.lo) (.int .i64 b.e.hi) (.int .i64 b.n.lo) (.int .i64 b.n.hi) (.slice fa b.fs.length fc) (.slice sa b.ss.length sc) (by omega)).trans g3
      refine hK _ _ hb1 (fun _ => ?_)
      clear hK K f0 f1 f2 f3 f4 f5 d0 d1 d2 d3 d4 d5 hA3 g3 z2 z0 z1
      try simp only [Act.put, List.setIfInBounds_toArray, List.set_cons_zero, List.set_cons_succ]
      generalize ((((((x0.setCell ⟨(w2.heap.size + 2), 0, none⟩ (.int .i64 b.e.lo)).setCell ⟨(w2.heap.size + 2), 1, none⟩ (.int .i64 b.e.hi)).setCell ⟨(w2.heap.size + 2), 2, none⟩ (.int .i64 b.n.lo)).setCell ⟨(w2.heap.size + 2), 3, none⟩ (.int .i64 b.n.hi)).setCell ⟨(w2.heap.size + 2), 4, none⟩ (.slice fa b.fs.length fc)).setCell ⟨(w2.heap.size + 2), 5, none⟩ (.slice sa b.ss.length sc)) = x1 at t3_1 t4_1 t5_1 gg1 hb1 ⊢
      have f0 := frozen_block t4_1 0
      have f1 := frozen_block t4_1 1
      have f2 := frozen_block t4_1 2
      have f3 := frozen_block t4_1 3
      have f4 := frozen_block t4_1 4
      have f5 := frozen_block t4_1 5
      have d0 := cell_block t4_1 0
      have d1 := cell_block t4_1 1
      have d2 := cell_block t4_1 2
      have d3 := cell_block t4_1 3
      have d4 := cell_block t4_1 4
      have d5 := cell_block t4_1 5
      simp only [List.getElem?_toArray, List.getElem?_cons_zero, List.getElem?_cons_succ] at d0 d1 d2 d3 d4 d5
      refine wpAnyW_one 7 (by kernel_rfl) (by kernel_rfl) ?_
      intro o ho K hK
      simp only [List.getElem?_toArray, List.getElem?_cons_zero, List.getElem?_cons_succ, Option.some.injEq] at ho
      subst ho
      go_simp
      have hb2 := six_below (.int .i64 b.e.lo) (.int .i64 b.e.hi) (.int .i64 b.n.lo) (.int .i64 b.n.hi) (.slice fa b.fs.length fc) (.slice sa b.ss.length sc) hb1 (show w2.heap.size ≤ w2.heap.size by omega)
      have t3_2 := (six_other x1 w2.heap.size (w2.heap.size + 2) (.int .i64 b.e.lo) (.int .i64 b.e.hi) (.int .i64 b.n.lo) (.int .i64 b.n.hi) (.slice fa b.fs.length fc) (.slice sa b.ss.length sc) (by omega)).trans t3_1
      have t4_2 := six_same (.int .i64 b.e.lo) (.int .i64 b.e.hi) (.int .i64 b.n.lo) (.int .i64 b.n.hi) (.slice fa b.fs.length fc) (.slice sa b.ss.length sc) t4_1
      have t5_2 := (six_other x1 w2.heap.size (w2.heap.size + 1) (.int .i64 b.e.lo) (.int .i64 b.e.hi) (.int .i64 b.n.lo) (.int .i64 b.n.hi) (.slice fa b.fs.length fc) (.slice sa b.ss.length sc) (by omega)).trans t5_1
      have gg2 := (six_other x1 w2.heap.size w.heap.size (.int .i64 b.e.lo) (.int .i64 b.e.hi) (.int .i64 b.n.lo) (.int .i64 b.n.hi) (.slice fa b.fs.length fc) (.slice sa b.ss.length sc) (by omega)).trans gg1
      refine hK _ _ hb2 (fun _ => ?_)
      clear hK K f0 f1 f2 f3 f4 f5 d0 d1 d2 d3 d4 d5 hb1 gg1 t3_1 t4_1 t5_1
      try simp only [Act.put, List.setIfInBounds_toArray, List.set_cons_zero, List.set_cons_succ]
      generalize ((((((x1.setCell ⟨w2.heap.size, 0, none⟩ (.int .i64 b.e.lo)).setCell ⟨w2.heap.size, 1, none⟩ (.int .i64 b.e.hi)).setCell ⟨w2.heap.size, 2, none⟩ (.int .i64 b.n.lo)).setCell ⟨w2.heap.size, 3, none⟩ (.int .i64 b.n.hi)).setCell ⟨w2.heap.size, 4, none⟩ (.slice fa b.fs.length fc)).setCell ⟨w2.heap.size, 5, none⟩ (.slice sa b.ss.length sc)) = x2 at t3_2 t4_2 t5_2 gg2 hb2 ⊢
      have f0 := frozen_block t5_2 0
      have f1 := frozen_block t5_2 1
      have f2 := frozen_block t5_2 2
      have f3 := frozen_block t5_2 3
      have f4 := frozen_block t5_2 4
      have f5 := frozen_block t5_2 5
      have d0 := cell_block t5_2 0
      have d1 := cell_block t5_2 1
      have d2 := cell_block t5_2 2
      have d3 := cell_block t5_2 3
      have d4 := cell_block t5_2 4
      have d5 := cell_block t5_2 5
      simp only [List.getElem?_toArray, List.getElem?_cons_zero, List.getElem?_cons_succ] at d0 d1 d2 d3 d4 d5
      refine wpAnyW_one 8 (by kernel_rfl) (by kernel_rfl) ?_
      intro o ho K hK
      simp only [List.getElem?_toArray, List.getElem?_cons_zero, List.getElem?_cons_succ, Option.some.injEq] at ho
      subst ho
      go_simp
      have hb3 := six_below (.int .i64 b.e.lo) (.int .i64 b.e.hi) (.int .i64 b.n.lo) (.int .i64 b.n.hi) (.slice fa b.fs.length fc) (.slice sa b.ss.length sc) hb2 (show w2.heap.size ≤ (w2.heap.size + 1) by omega)
      have t3_3 := (six_other x2 (w2.heap.size + 1) (w2.heap.size + 2) (.int .i64 b.e.lo) (.int .i64 b.e.hi) (.int .i64 b.n.lo) (.int .i64 b.n.hi) (.slice fa b.fs.length fc) (.slice sa b.ss.length sc) (by omega)).trans t3_2
      have t4_3 := (six_other x2 (w2.heap.size + 1) w2.heap.size (.int .i64 b.e.lo) (.int .i64 b.e.hi) (.int .i64 b.n.lo) (.int .i64 b.n.hi) (.slice fa b.fs.length fc) (.slice sa b.ss.length sc) (by omega)).trans t4_2
      have t5_3 := six_same (.int .i64 b.e.lo) (.int .i64 b.e.hi) (.int .i64 b.n.lo) (.int .i64 b.n.hi) (.slice fa b.fs.length fc) (.slice sa b.ss.length sc) t5_2
      have gg3 := (six_other x2 (w2.heap.size + 1) w.heap.size (.int .i64 b.e.lo) (.int .i64 b.e.hi) (.int .i64 b.n.lo) (.int .i64 b.n.hi) (.slice fa b.fs.length fc) (.slice sa b.ss.length sc) (by omega)).trans gg2
      refine hK _ _ hb3 (fun _ => ?_)
      clear hK K f0 f1 f2 f3 f4 f5 d0 d1 d2 d3 d4 d5 hb2 gg2 t3_2 t4_2 t5_2
      try simp only [Act.put, List.setIfInBounds_toArray, List.set_cons_zero, List.set_cons_succ]
      generalize ((((((x2.setCell ⟨(w2.heap.size + 1), 0, none⟩ (.int .i64 b.e.lo)).setCell ⟨(w2.heap.size + 1), 1, none⟩ (.int .i64 b.e.hi)).setCell ⟨(w2.heap.size + 1), 2, none⟩ (.int .i64 b.n.lo)).setCell ⟨(w2.heap.size + 1), 3, none⟩ (.int .i64 b.n.hi)).setCell ⟨(w2.heap.size + 1), 4, none⟩ (.slice fa b.fs.length fc)).setCell ⟨(w2.heap.size + 1), 5, none⟩ (.slice sa b.ss.length sc)) = x3 at t3_3 t4_3 t5_3 gg3 hb3 ⊢
      refine wpAnyW_done (by kernel_rfl) ?_ _
      dsimp only [onNormal]
      go_upto_region 5 with fail
      refine lawMore_d b fa sa fc sc (w2.heap.size + 2) w2.heap.size (w2.heap.size + 1) k by' w x3 HB HOK HF.out hkl ⟨⟨by omega, by omega, by omega⟩, ⟨by omega, by omega, by omega⟩, ⟨by omega, by omega, by omega⟩⟩ gg3 t3_3 t4_3 t5_3 (hb0.trans (hb3.mono hb0.size)) _ ?_
      assumption
  · intro o ho K hK
    simp only [List.getElem?_toArray, List.getElem?_cons_zero, List.getElem?_cons_succ, Option.some.injEq] at ho
    subst ho
    go_simp
    have hA1 : Below w2.heap.size w2 (w2.alloc (.cells #[.int .i64 0, .int .i64 0, .int .i64 0, .int .i64 0, .slice none 0 0, .slice none 0 0] 26)).drew := by
      exact (below_alloc w2 _).drew
    refine hK _ _ hA1 (fun _ => ?_)
    clear hK K
    try simp only [Act.put, List.setIfInBounds_toArray, List.set_cons_zero, List.set_cons_succ]
    refine wpAnyW_two 3 4 (by kernel_rfl) ⟨by kernel_rfl, by kernel_rfl⟩ ?_ ?_
    · intro o ho K hK
      simp only [List.getElem?_toArray, List.getElem?_cons_zero, List.getElem?_cons_succ, Option.some.injEq] at ho
      subst ho
      go_simp
      have hA2 : Below w2.heap.size w2 ((w2.alloc (.cells #[.int .i64 0, .int .i64 0, .int .i64 0, .int .i64 0, .slice none 0 0, .slice none 0 0] 26)).alloc (.cells #[.int .i64 0, .int .i64 0, .int .i64 0, .int .i64 0, .slice none 0 0, .slice none 0 0] 26)).drew := by
        exact ((below_alloc w2 _).alloc (by simp only [World.size_alloc]; omega) _).drew
      refine hK _ _ hA2 (fun _ => ?_)
      clear hK K
      try simp only [Act.put, List.setIfInBounds_toArray, List.set_cons_zero, List.set_cons_succ]
      refine wpAnyW_one 4 (by kernel_rfl) (by kernel_rfl) ?_
      intro o ho K hK
      simp only [List.getElem?_toArray, List.getElem?_cons_zero, List.getElem?_cons_succ, Option.some.injEq] at ho
      subst ho
      go_simp
      have hA3 : Below w2.heap.size w2 (((w2.alloc (.cells #[.int .i64 0, .int .i64 0, .int .i64 0, .int .i64 0, .slice none 0 0, .slice none 0 0] 26)).alloc (.cells #[.int .i64 0, .int .i64 0, .int .i64 0, .int .i64 0, .slice none 0 0, .slice none 0 0] 26)).alloc (.cells #[.int .i64 0, .int .i64 0, .int .i64 0, .int .i64 0, .slice none 0 0, .slice none 0 0] 26)).drew := by
        exact (((below_alloc w2 _).alloc (by simp only [World.size_alloc]; omega) _).alloc (by simp only [World.size_alloc]; omega) _).drew
      refine hK _ _ hA3 (fun _ => ?_)
      clear hK K
      try simp only [Act.put, List.setIfInBounds_toArray, List.set_cons_zero, List.set_cons_succ]
      have z0 : (((w2.alloc (.cells #[.int .i64 0, .int .i64 0, .int .i64 0, .int .i64 0, .slice none 0 0, .slice none 0 0] 26)).alloc (.cells #[.int .i64 0, .int .i64 0, .int .i64 0, .int .i64 0, .slice none 0 0, .slice none 0 0] 26)).alloc (.cells #[.int .i64 0, .int .i64 0, .int .i64 0, .int .i64 0, .slice none 0 0, .slice none 0 0] 26)).drew.heap[w2.heap.size]? = some (.cells #[.int .i64 0, .int .i64 0, .int .i64 0, .int .i64 0, .slice none 0 0, .slice none 0 0] 26) := by show (((w2.alloc (.cells #[.int .i64 0, .int .i64 0, .int .i64 0, .int .i64 0, .slice none 0 0, .slice none 0 0] 26)).alloc (.cells #[.int .i64 0, .int .i64 0, .int .i64 0, .int .i64 0, .slice none 0 0, .slice none 0 0] 26)).alloc (.cells #[.int .i64 0, .int .i64 0, .int .i64 0, .int .i64 0, .slice none 0 0, .slice none 0 0] 26)).heap[w2.heap.size]? = _; simp only [alloc_get, World.size_alloc]; rw [if_neg (by omega), if_neg (by omega), if_pos trivial]
      have z1 : (((w2.alloc (.cells #[.int .i64 0, .int .i64 0, .int .i64 0, .int .i64 0, .slice none 0 0, .slice none 0 0] 26)).alloc (.cells #[.int .i64 0, .int .i64 0, .int .i64 0, .int .i64 0, .slice none 0 0, .slice none 0 0] 26)).alloc (.cells #[.int .i64 0, .int .i64 0, .int .i64 0, .int .i64 0, .slice none 0 0, .slice none 0 0] 26)).drew.heap[w2.heap.size + 1]? = some (.cells #[.int .i64 0, .int .i64 0, .int .i64 0, .int .i64 0, .slice none 0 0, .slice none 0 0] 26) := by show (((w2.alloc (.cells #[.int .i64 0, .int .i64 0, .int .i64 0, .int .i64 0, .slice none 0 0, .slice none 0 0] 26)).alloc (.cells #[.int .i64 0, .int .i64 0, .int .i64 0, .int .i64 0, .slice none 0 0, .slice none 0 0] 26)).alloc (.cells #[.int .i64 0, .int .i64 0, .int .i64 0, .int .i64 0, .slice none 0 0, .slice none 0 0] 26)).heap[w2.heap.size + 1]? = _; simp only [alloc_get, World.size_alloc]; rw [if_neg (by omega), if_pos trivial]
      have z2 : (((w2.alloc (.cells #[.int .i64 0, .int .i64 0, .int .i64 0, .int .i64 0, .slice none 0 0, .slice none 0 0] 26)).alloc (.cells #[.int .i64 0, .int .i64 0, .int .i64 0, .int .i64 0, .slice none 0 0, .slice none 0 0] 26)).alloc (.cells #[.int .i64 0, .int .i64 0, .int .i64 0, .int .i64 0, .slice none 0 0, .slice none 0 0] 26)).drew.heap[w2.heap.size + 2]? = some (.cells #[.int .i64 0, .int .i64 0, .int .i64 0, .int .i64 0, .slice none 0 0, .slice none 0 0] 26) := by show (((w2.alloc (.cells #[.int .i64 0, .int .i64 0, .int .i64 0, .int .i64 0, .slice none 0 0, .slice none 0 0] 26)).alloc (.cells #[.int .i64 0, .int .i64 0, .int .i64 0, .int .i64 0, .slice none 0 0, .slice none 0 0] 26)).alloc (.cells #[.int .i64 0, .int .i64 0, .int .i64 0, .int .i64 0, .slice none 0 0, .slice none 0 0] 26)).heap[w2.heap.size + 2]? = _; simp only [alloc_get, World.size_alloc]; first | exact if_pos trivial | rw [if_pos trivial]
      have g3 := obj_later hA3 g2
      generalize (((w2.alloc (.cells #[.int .i64 0, .int .i64 0, .int .i64 0, .int .i64 0, .slice none 0 0, .slice none 0 0] 26)).alloc (.cells #[.int .i64 0, .int .i64 0, .int .i64 0, .int .i64 0, .slice none 0 0, .slice none 0 0] 26)).alloc (.cells #[.int .i64 0, .int .i64 0, .int .i64 0, .int .i64 0, .slice none 0 0, .slice none 0 0] 26)).drew = x0 at z0 z1 z2 g3 hA3 ⊢
      have f0 := frozen_block z1 0
      have f1 := frozen_block z1 1
      have f2 := frozen_block z1 2
      have f3 := frozen_block z1 3
      have f4 := frozen_block z1 4
      have f5 := frozen_block z1 5
      have d0 := cell_block z1 0
      have d1 := cell_block z1 1
      have d2 := cell_block z1 2
      have d3 := cell_block z1 3
      have d4 := cell_block z1 4
      have d5 := cell_block z1 5
      simp only [List.getElem?_toArray, List.getElem?_cons_zero, List.getElem?_cons_succ] at d0 d1 d2 d3 d4 d5
      refine wpAnyW_one 6 (by kernel_rfl) (by kernel_rfl) ?_
      intro o ho K hK
      simp only [List.getElem?_toArray, List.getElem?_cons_zero, List.getElem?_cons_succ, Option.some.injEq] at ho
      subst ho
      go_simp
      have hb1 := six_below (.int .i64 b.e.lo) (.int .i64 b.e.hi) (.int .i64 b.n.lo) (.int .i64 b.n.hi) (.slice fa b.fs.length fc) (.slice sa b.ss.length sc) hA3 (show w2.heap.size ≤ (w2.heap.size + 1) by omega)
      have t3_1 := six_same (.int .i64 b.e.lo) (.int .i64 b.e.hi) (.int .i64 b.n.lo) (.int .i64 b.n.hi) (.slice fa b.fs.length fc) (.slice sa b.ss.length sc) z1
      have t4_1 := (six_other x0 (w2.heap.size + 1) (w2.heap.size + 2) (.int .i64 b.e.lo) (.int .i64 b.e.hi) (.int .i64 b.n.lo) (.int .i64 b.n.hi) (.slice fa b.fs.length fc) (.slice sa b.ss.length sc) (by omega)).trans z2
      have t5_1 := (six_other x0 (w2.heap.size + 1) w2.heap.size (.int .i64 b.e.lo) (.int .i64 b.e.hi) (.int .i64 b.n.lo) (.int .i64 b.n.hi) (.slice fa b.fs.length fc) (.slice sa b.ss.length sc) (by omega)).trans z0
      have gg1 := (six_other x0 (w2.heap.size + 1) w.heap.size (.int .i64 b.e.lo) (.int .i64 b.e.hi) (.int .i64 b.n.lo) (.int .i64 b.n.hi) (.slice fa b.fs.length fc) (.slice sa b.ss.length sc) (by omega)).trans g3
      refine hK _ _ hb1 (fun _ => ?_)
      clear hK K f0 f1 f2 f3 f4 f5 d0 d1 d2 d3 d4 d5 hA3 g3 z1 z2 z0
      try simp only [Act.put, List.setIfInBounds_toArray, List.set_cons_zero, List.set_cons_succ]
      generalize ((((((x0.setCell ⟨(w2.heap.size + 1), 0, none⟩ (.int .i64 b.e.lo)).setCell ⟨(w2.heap.size + 1), 1, none⟩ (.int .i64 b.e.hi)).setCell ⟨(w2.heap.size + 1), 2, none⟩ (.int .i64 b.n.lo)).setCell ⟨(w2.heap.size + 1), 3, none⟩ (.int .i64 b.n.hi)).setCell ⟨(w2.heap.size + 1), 4, none⟩ (.slice fa b.fs.length fc)).setCell ⟨(w2.heap.size + 1), 5, none⟩ (.slice sa b.ss.length sc)) = x1 at t3_1 t4_1 t5_1 gg1 hb1 ⊢
      have f0 := frozen_block t4_1 0
      have f1 := frozen_block t4_1 1
      have f2 := frozen_block t4_1 2
      have f3 := frozen_block t4_1 3
      have f4 := frozen_block t4_1 4
      have f5 := frozen_block t4_1 5
      have d0 := cell_block t4_1 0
      have d1 := cell_block t4_1 1
      have d2 := cell_block t4_1 2
      have d3 := cell_block t4_1 3
      have d4 := cell_block t4_1 4
      have d5 := cell_block t4_1 5
      simp only [List.getElem?_toArray, List.getElem?_cons_zero, List.getElem?_cons_succ] at d0 d1 d2 d3 d4 d5
      refine wpAnyW_one 7 (by kernel_rfl) (by kernel_rfl) ?_
      intro o ho K hK
      simp only [List.getElem?_toArray, List.getElem?_cons_zero, List.getElem?_cons_succ, Option.some.injEq] at ho
      subst ho
      go_simp
      have hb2 := six_below (.int .i64 b.e.lo) (.int .i64 b.e.hi) (.int .i64 b.n.lo) (.int .i64 b.n.hi) (.slice fa b.fs.length fc) (.slice sa b.ss.length sc) hb1 (show w2.heap.size ≤ (w2.heap.size + 2) by omega)
      have t3_2 := (six_other x1 (w2.heap.size + 2) (w2.heap.size + 1) (.int .i64 b.e.lo) (.int .i64 b.e.hi) (.int .i64 b.n.lo) (.int .i64 b.n.hi) (.slice fa b.fs.length fc) (.slice sa b.ss.length sc) (by omega)).trans t3_1
      have t4_2 := six_same (.int .i64 b.e.lo) (.int .i64 b.e.hi) (.int .i64 b.n.lo) (.int .i64 b.n.hi) (.slice fa b.fs.length fc) (.slice sa b.ss.length sc) t4_1
      have t5_2 := (six_other x1 (w2.heap.size + 2) w2.heap.size (.int .i64 b.e.lo) (.int .i64 b.e.hi) (.int .i64 b.n.lo) (.int .i64 b.n.hi) (.slice fa b.fs.length fc) (.slice sa b.ss.length sc) (by omega)).trans t5_1
      have gg2 := (six_other x1 (w2.heap.size + 2) w.heap.size (.int .i64 b.e.lo) (.int .i64 b.e.hi) (.int .i64 b.n.lo) (.int .i64 b.n.hi) (.slice fa b.fs.length fc) (.slice sa b.ss.length sc) (by omega)).trans gg1
      refine hK _ _ hb2 (fun _ => ?_)
      clear hK K f0 f1 f2 f3 f4 f5 d0 d1 d2 d3 d4 d5 hb1 gg1 t3_1 t4_1 t5_1
      try simp only [Act.put, List.setIfInBounds_toArray, List.set_cons_zero, List.set_cons_succ]
      generalize ((((((x1.setCell ⟨(w2.heap.size + 2), 0, none⟩ (.int .i64 b.e.lo)).setCell ⟨(w2.heap.size + 2), 1, none⟩ (.int .i64 b.e.hi)).setCell ⟨(w2.heap.size + 2), 2, none⟩ (.int .i64 b.n.lo)).setCell ⟨(w2.heap.size + 2), 3, none⟩ (.int .i64 b.n.hi)).setCell ⟨(w2.heap.size + 2), 4, none⟩ (.slice fa b.fs.length fc)).setCell ⟨(w2.heap.size + 2), 5, none⟩ (.slice sa b.ss.length sc)) = x2 at t3_2 t4_2 t5_2 gg2 hb2 ⊢
      have f0 := frozen_block t5_2 0
      have f1 := frozen_block t5_2 1
      have f2 := frozen_block t5_2 2
      have f3 := frozen_block t5_2 3
      have f4 := frozen_block t5_2 4
      have f5 := frozen_block t5_2 5
      have d0 := cell_block t5_2 0
      have d1 := cell_block t5_2 1
      have d2 := cell_block t5_2 2
      have d3 := cell_block t5_2 3
      have d4 := cell_block t5_2 4
      have d5 := cell_block t5_2 5
      simp only [List.getElem?_toArray, List.getElem?_cons_zero, List.getElem?_cons_succ] at d0 d1 d2 d3 d4 d5
      refine wpAnyW_one 8 (by kernel_rfl) (by kernel_rfl) ?_
      intro o ho K hK
      simp only [List.getElem?_toArray, List.getElem?_cons_zero, List.getElem?_cons_succ, Option.some.injEq] at ho
      subst ho
      go_simp
      have hb3 := six_below (.int .i64 b.e.lo) (.int .i64 b.e.hi) (.int .i64 b.n.lo) (.int .i64 b.n.hi) (.slice fa b.fs.length fc) (.slice sa b.ss.length sc) hb2 (show w2.heap.size ≤ w2.heap.size by omega)
      have t3_3 := (six_other x2 w2.heap.size (w2.heap.size + 1) (.int .i64 b.e.lo) (.int .i64 b.e.hi) (.int .i64 b.n.lo) (.int .i64 b.n.hi) (.slice fa b.fs.length fc) (.slice sa b.ss.length sc) (by omega)).trans t3_2
      have t4_3 := (six_other x2 w2.heap.size (w2.heap.size + 2) (.int .i64 b.e.lo) (.int .i64 b.e.hi) (.int .i64 b.n.lo) (.int .i64 b.n.hi) (.slice fa b.fs.length fc) (.slice sa b.ss.length sc) (by omega)).trans t4_2
      have t5_3 := six_same (.int .i64 b.e.lo) (.int .i64 b.e.hi) (.int .i64 b.n.lo) (.int .i64 b.n.hi) (.slice fa b.fs.length fc) (.slice sa b.ss.length sc) t5_2
      have gg3 := (six_other x2 w2.heap.size w.heap.size (.int .i64 b.e.lo) (.int .i64 b.e.hi) (.int .i64 b.n.lo) (.int .i64 b.n.hi) (.slice fa b.fs.length fc) (.slice sa b.ss.length sc) (by omega)).trans gg2
      refine hK _ _ hb3 (fun _ => ?_)
      clear hK K f0 f1 f2 f3 f4 f5 d0 d1 d2 d3 d4 d5 hb2 gg2 t3_2 t4_2 t5_2
      try simp only [Act.put, List.setIfInBounds_toArray, List.set_cons_zero, List.set_cons_succ]
      generalize ((((((x2.setCell ⟨w2.heap.size, 0, none⟩ (.int .i64 b.e.lo)).setCell ⟨w2.heap.size, 1, none⟩ (.int .i64 b.e.hi)).setCell ⟨w2.heap.size, 2, none⟩ (.int .i64 b.n.lo)).setCell ⟨w2.heap.size, 3, none⟩ (.int .i64 b.n.hi)).setCell ⟨w2.heap.size, 4, none⟩ (.slice fa b.fs.length fc)).setCell ⟨w2.heap.size, 5, none⟩ (.slice sa b.ss.length sc)) = x3 at t3_3 t4_3 t5_3 gg3 hb3 ⊢
      refine wpAnyW_done (by kernel_rfl) ?_ _
      dsimp only [onNormal]
      go_upto_region 5 with fail
      refine lawMore_d b fa sa fc sc (w2.heap.size + 1) (w2.heap.size + 2) w2.heap.size k by' w x3 HB HOK HF.out hkl ⟨⟨by omega, by omega, by omega⟩, ⟨by omega, by omega, by omega⟩, ⟨by omega, by omega, by omega⟩⟩ gg3 t3_3 t4_3 t5_3 (hb0.trans (hb3.mono hb0.size)) _ ?_
      assumption
    · intro o ho K hK
      simp only [List.getElem?_toArray, List.getElem?_cons_zero, List.getElem?_cons_succ, Option.some.injEq] at ho
      subst ho
      go_simp
      have hA2 : Below w2.heap.size w2 ((w2.alloc (.cells #[.int .i64 0, .int .i64 0, .int .i64 0, .int .i64 0, .slice none 0 0, .slice none 0 0] 26)).alloc (.cells #[.int .i64 0, .int .i64 0, .int .i64 0, .int .i64 0, .slice none 0 0, .slice none 0 0] 26)).drew := by
        exact ((below_alloc w2 _).alloc (by simp only [World.size_alloc]; omega) _).drew
      refine hK _ _ hA2 (fun _ => ?_)
      clear hK K
      try simp only [Act.put, List.setIfInBounds_toArray, List.set_cons_zero, List.set_cons_succ]
      refine wpAnyW_one 3 (by kernel_rfl) (by kernel_rfl) ?_
      intro o ho K hK
      simp only [List.getElem?_toArray, List.getElem?_cons_zero, List.getElem?_cons_succ, Option.some.injEq] at ho
      subst ho
      go_simp
      have hA3 : Below w2.heap.size w2 (((w2.alloc (.cells #[.int .i64 0, .int .i64 0, .int .i64 0, .int .i64 0, .slice none 0 0, .slice none 0 0] 26)).alloc (.cells #[.int .i64 0, .int .i64 0, .int .i64 0, .int .i64 0, .slice none 0 0, .slice none 0 0] 26)).alloc (.cells #[.int .i64 0, .int .i64 0, .int .i64 0, .int .i64 0, .slice none 0 0, .slice none 0 0] 26)).drew := by
        exact (((below_alloc w2 _).alloc (by simp only [World.size_alloc]; omega) _).alloc (by simp only [World.size_alloc]; omega) _).drew
      refine hK _ _ hA3 (fun _ => ?_)
      clear hK K
      try simp only [Act.put, List.setIfInBounds_toArray, List.set_cons_zero, List.set_cons_succ]
      have z0 : (((w2.alloc (.cells #[.int .i64 0, .int .i64 0, .int .i64 0, .int .i64 0, .slice none 0 0, .slice none 0 0] 26)).alloc (.cells #[.int .i64 0, .int .i64 0, .int .i64 0, .int .i64 0, .slice none 0 0, .slice none 0 0] 26)).alloc (.cells #[.int .i64 0, .int .i64 0, .int .i64 0, .int .i64 0, .slice none 0 0, .slice none 0 0] 26)).drew.heap[w2.heap.size]? = some (.cells #[.int .i64 0, .int .i64 0, .int .i64 0, .int .i64 0, .slice none 0 0, .slice none 0 0] 26) := by show (((w2.alloc (.cells #[.int .i64 0, .int .i64 0, .int .i64 0, .int .i64 0, .slice none 0 0, .slice none 0 0] 26)).alloc (.cells #[.int .i64 0, .int .i64 0, .int .i64 0, .int .i64 0, .slice none 0 0, .slice none 0 0] 26)).alloc (.cells #[.int .i64 0, .int .i64 0, .int .i64 0, .int .i64 0, .slice none 0 0, .slice none 0 0] 26)).heap[w2.heap.size]? = _; simp only [alloc_get, World.size_alloc]; rw [if_neg (by omega), if_neg (by omega), if_pos trivial]
      have z1 : (((w2.alloc (.cells #[.int .i64 0, .int .i64 0, .int .i64 0, .int .i64 0, .slice none 0 0, .slice none 0 0] 26)).alloc (.cells #[.int .i64 0, .int .i64 0, .int .i64 0, .int .i64 0, .slice none 0 0, .slice none 0 0] 26)).alloc (.cells #[.int .i64 0, .int .i64 0, .int .i64 0, .int .i64 0, .slice none 0 0, .slice none 0 0] 26)).drew.heap[w2.heap.size + 1]? = some (.cells #[.int .i64 0, .int .i64 0, .int .i64 0, .int .i64 0, .slice none 0 0, .slice none 0 0] 26) := by show (((w2.alloc (.cells #[.int .i64 0, .int .i64 0, .int .i64 0, .int .i64 0, .slice none 0 0, .slice none 0 0] 26)).alloc (.cells #[.int .i64 0, .int .i64 0, .int .i64 0, .int .i64 0, .slice none 0 0, .slice none 0 0] 26)).alloc (.cells #[.int .i64 0, .int .i64 0, .int .i64 0, .int .i64 0, .slice none 0 0, .slice none 0 0] 26)).heap[w2.heap.size + 1]? = _; simp only [alloc_get, World.size_alloc]; rw [if_neg (by omega), if_pos trivial]
      have z2 : (((w2.alloc (.cells #[.int .i64 0, .int .i64 0, .int .i64 0, .int .i64 0, .slice none 0 0, .slice none 0 0] 26)).alloc (.cells #[.int .i64 0, .int .i64 0, .int .i64 0, .int .i64 0, .slice none 0 0, .slice none 0 0] 26)).alloc (.cells #[.int .i64 0, .int .i64 0, .int .i64 0, .int .i64 0, .slice none 0 0, .slice none 0 0] 26)).drew.heap[w2.heap.size + 2]? = some (.cells #[.int .i64 0, .int .i64 0, .int .i64 0, .int .i64 0, .slice none 0 0, .slice none 0 0] 26) := by show (((w2.alloc (.cells #[.int .i64 0, .int .i64 0, .int .i64 0, .int .i64 0, .slice none 0 0, .slice none 0 0] 26)).alloc (.cells #[.int .i64 0, .int .i64 0, .int .i64 0, .int .i64 0, .slice none 0 0, .slice none 0 0] 26)).alloc (.cells #[.int .i64 0, .int .i64 0, .int .i64 0, .int .i64 0, .slice none 0 0, .slice none 0 0] 26)).heap[w2.heap.size + 2]? = _; simp only [alloc_get, World.size_alloc]; first | exact if_pos trivial | rw [if_pos trivial]
      have g3 := obj_later hA3 g2
      generalize (((w2.alloc (.cells #[.int .i64 0, .int .i64 0, .int .i64 0, .int .i64 0, .slice none 0 0, .slice none 0 0] 26)).alloc (.cells #[.int .i64 0, .int .i64 0, .int .i64 0, .int .i64 0, .slice none 0 0, .slice none 0 0] 26)).alloc (.cells #[.int .i64 0, .int .i64 0, .int .i64 0, .int .i64 0, .slice none 0 0, .slice none 0 0] 26)).drew = x0 at z0 z1 z2 g3 hA3 ⊢
      have f0 := frozen_block z2 0
      have f1 := frozen_block z2 1
      have f2 := frozen_block z2 2
      have f3 := frozen_block z2 3
      have f4 := frozen_block z2 4
      have f5 := frozen_block z2 5
      have d0 := cell_block z2 0
      have d1 := cell_block z2 1
      have d2 := cell_block z2 2
      have d3 := cell_block z2 3
      have d4 := cell_block z2 4
      have d5 := cell_block z2 5
      simp only [List.getElem?_toArray, List.getElem?_cons_zero, List.getElem?_cons_succ] at d0 d1 d2 d3 d4 d5
      refine wpAnyW_one 6 (by kernel_rfl) (by kernel_rfl) ?_
      intro o ho K hK
      simp only [List.getElem?_toArray, List.getElem?_cons_zero, List.getElem?_cons_succ, Option.some.injEq] at ho
      subst ho
      go_simp
      have hb1 := six_below (.int .i64 b.e.lo) (.int .i64 b.e.hi) (.int .i64 b.n.lo) (.int .i64 b.n.hi) (.slice fa b.fs.length fc) (.slice sa b.ss.length sc) hA3 (show w2.heap.size ≤ (w2.heap.size + 2) by omega)
      have t3_1 := six_same (.int .i64 b.e.lo) (.int .i64 b.e.hi) (.int .i64 b.n.lo) (.int .i64 b.n.hi) (.slice fa b.fs.length fc) (.slice sa b.ss.length sc) z2
      have t4_1 := (six_other x0 (w2.heap.size + 2) (w2.heap.size + 1) (.int .i64 b.e.lo) (.int .i64 b.e.hi) (.int .i64 b.n.lo) (.int .i64 b.n.hi) (.slice fa b.fs.length fc) (.slice sa b.ss.length sc) (by omega)).trans z1
      have t5_1 := (six_other x0 (w2.heap.size + 2) w2.heap.size (.int .i64 b.e.lo) (.int .i64 b.e.hi) (.int .i64 b.n.lo) (.int .i64 b.n.hi) (.slice fa b.fs.length fc) (.slice sa b.ss.length sc) (by omega)).trans z0
      have gg1 := (six_other x0 (w2.heap.size + 2) w.heap.size (.int .i64 b.e.lo) (.int .i64 b.e.hi) (.int .i64 b.n.lo) (.int .i64 b.n.hi) (.slice fa b.fs.length fc) (.slice sa b.ss.length sc) (by omega)).trans g3
      refine hK _ _ hb1 (fun _ => ?_)
      clear hK K f0 f1 f2 f3 f4 f5 d0 d1 d2 d3 d4 d5 hA3 g3 z2 z1 z0
      try simp only [Act.put, List.setIfInBounds_toArray, List.set_cons_zero, List.set_cons_succ]
      generalize ((((((x0.setCell ⟨(w2.heap.size + 2), 0, none⟩ (.int .i64 b.e.lo)).setCell ⟨(w2.heap.size + 2), 1, none⟩ (.int .i64 b.e.hi)).setCell ⟨(w2.heap.size + 2), 2, none⟩ (.int .i64 b.n.lo)).setCell ⟨(w2.heap.size + 2), 3, none⟩ (.int .i64 b.n.hi)).setCell ⟨(w2.heap.size + 2), 4, none⟩ (.slice fa b.fs.length fc)).setCell ⟨(w2.heap.size + 2), 5, none⟩ (.slice sa b.ss.length sc)) = x1 at t3_1 t4_1 t5_1 gg1 hb1 ⊢
      have f0 := frozen_block t4_1 0
      have f1 := frozen_block t4_1 1
      have f2 := frozen_block t4_1 2
      have f3 := frozen_block t4_1 3
      have f4 := frozen_block t4_1 4
      have f5 := frozen_block t4_1 5
      have d0 := cell_block t4_1 0
      have d1 := cell_block t4_1 1
      have d2 := cell_block t4_1 2
      have d3 := cell_block t4_1 3
      have d4 := cell_block t4_1 4
      have d5 := cell_block t4_1 5
      simp only [List.getElem?_toArray, List.getElem?_cons_zero, List.getElem?_cons_succ] at d0 d1 d2 d3 d4 d5
      refine wpAnyW_one 7 (by kernel_rfl) (by kernel_rfl) ?_
      intro o ho K hK
      simp only [List.getElem?_toArray, List.getElem?_cons_zero, List.getElem?_cons_succ, Option.some.injEq] at ho
      subst ho
      go_simp
      have hb2 := six_below (.int .i64 b.e.lo) (.int .i64 b.e.hi) (.int .i64 b.n.lo) (.int .i64 b.n.hi) (.slice fa b.fs.length fc) (.slice sa b.ss.length sc) hb1 (show w2.heap.size ≤ (w2.heap.size + 1) by omega)
      have t3_2 := (six_other x1 (w2.heap.size + 1) (w2.heap.size + 2) (.int .i64 b.e.lo) (.int .i64 b.e.hi) (.int .i64 b.n.lo) (.int .i64 b.n.hi) (.slice fa b.fs.length fc) (.slice sa b.ss.length sc) (by omega)).trans t3_1
      have t4_2 := six_same (.int .i64 b.e.lo) (.int .i64 b.e.hi) (.int .i64 b.n.lo) (.int .i64 b.n.hi) (.slice fa b.fs.length fc) (.slice sa b.ss.length sc) t4_1
      have t5_2 := (six_other x1 (w2.heap.size + 1) w2.heap.size (.int .i64 b.e.lo) (.int .i64 b.e.hi) (.int .i64 b.n.lo) (.int .i64 b.n.hi) (.slice fa b.fs.length fc) (.slice sa b.ss.length sc) (by omega)).trans t5_1
      have gg2 := (six_other x1 (w2.heap.size + 1) w.heap.size (.int .i64 b.e.lo) (.int .i64 b.e.hi) (.int .i64 b.n.lo) (.int .i64 b.n.hi) (.slice fa b.fs.length fc) (.slice sa b.ss.length sc) (by omega)).trans gg1
      refine hK _ _ hb2 (fun _ => ?_)
      clear hK K f0 f1 f2 f3 f4 f5 d0 d1 d2 d3 d4 d5 hb1 gg1 t3_1 t4_1 t5_1
      try simp only [Act.put, List.setIfInBounds_toArray, List.set_cons_zero, List.set_cons_succ]
      generalize ((((((x1.setCell ⟨(w2.heap.size + 1), 0, none⟩ (.int .i64 b.e.lo)).setCell ⟨(w2.heap.size + 1), 1, none⟩ (.int .i64 b.e.hi)).setCell ⟨(w2.heap.size + 1), 2, none⟩ (.int .i64 b.n.lo)).setCell ⟨(w2.heap.size + 1), 3, none⟩ (.int .i64 b.n.hi)).setCell ⟨(w2.heap.size + 1), 4, none⟩ (.slice fa b.fs.length fc)).setCell ⟨(w2.heap.size + 1), 5, none⟩ (.slice sa b.ss.length sc)) = x2 at t3_2 t4_2 t5_2 gg2 hb2 ⊢
      have f0 := frozen_block t5_2 0
      have f1 := frozen_block t5_2 1
      have f2 := frozen_block t5_2 2
      have f3 := frozen_block t5_2 3
      have f4 := frozen_block t5_2 4
      have f5 := frozen_block t5_2 5
      have d0 := cell_block t5_2 0
      have d1 := cell_block t5_2 1
      have d2 := cell_block t5_2 2
      have d3 := cell_block t5_2 3
      have d4 := cell_block t5_2 4
      have d5 := cell_block t5_2 5
      simp only [List.getElem?_toArray, List.getElem?_cons_zero, List.getElem?_cons_succ] at d0 d1 d2 d3 d4 d5
      refine wpAnyW_one 8 (by kernel_rfl) (by kernel_rfl) ?_
      intro o ho K hK
      simp only [List.getElem?_toArray, List.getElem?_cons_zero, List.getElem?_cons_succ, Option.some.injEq] at ho
      subst ho
      go_simp
      have hb3 := six_below (.int .i64 b.e.lo) (.int .i64 b.e.hi) (.int .i64 b.n.lo) (.int .i64 b.n.hi) (.slice fa b.fs.length fc) (.slice sa b.ss.length sc) hb2 (show w2.heap.size ≤ w2.heap.size by omega)
      have t3_3 := (six_other x2 w2.heap.size (w2.heap.size + 2) (.int .i64 b.e.lo) (.int .i64 b.e.hi) (.int .i64 b.n.lo) (.int .i64 b.n.hi) (.slice fa b.fs.length fc) (.slice sa b.ss.length sc) (by omega)).trans t3_2
      have t4_3 := (six_other x2 w2.heap.size (w2.heap.size + 1) (.int .i64 b.e.lo) (.int .i64 b.e.hi) (.int .i64 b.n.lo) (.int .i64 b.n.hi) (.slice fa b.fs.length fc) (.slice sa b.ss.length sc) (by omega)).trans t4_2
      have t5_3 := six_same (.int .i64 b.e.lo) (.int .i64 b.e.hi) (.int .i64 b.n.lo) (.int .i64 b.n.hi) (.slice fa b.fs.length fc) (.slice sa b.ss.length sc) t5_2
      have gg3 := (six_other x2 w2.heap.size w.heap.size (.int .i64 b.e.lo) (.int .i64 b.e.hi) (.int .i64 b.n.lo) (.int .i64 b.n.hi) (.slice fa b.fs.length fc) (.slice sa b.ss.length sc) (by omega)).trans gg2
      refine hK _ _ hb3 (fun _ => ?_)
      clear hK K f0 f1 f2 f3 f4 f5 d0 d1 d2 d3 d4 d5 hb2 gg2 t3_2 t4_2 t5_2
      try simp only [Act.put, List.setIfInBounds_toArray, List.set_cons_zero, List.set_cons_succ]
      generalize ((((((x2.setCell ⟨w2.heap.size, 0, none⟩ (.int .i64 b.e.lo)).setCell ⟨w2.heap.size, 1, none⟩ (.int .i64 b.e.hi)).setCell ⟨w2.heap.size, 2, none⟩ (.int .i64 b.n.lo)).setCell ⟨w2.heap.size, 3, none⟩ (.int .i64 b.n.hi)).setCell ⟨w2.heap.size, 4, none⟩ (.slice fa b.fs.length fc)).setCell ⟨w2.heap.size, 5, none⟩ (.slice sa b.ss.length sc)) = x3 at t3_3 t4_3 t5_3 gg3 hb3 ⊢
      refine wpAnyW_done (by kernel_rfl) ?_ _
      dsimp only [onNormal]
      go_upto_region 5 with fail
      refine lawMore_d b fa sa fc sc (w2.heap.size + 2) (w2.heap.size + 1) w2.heap.size k by' w x3 HB HOK HF.out hkl ⟨⟨by omega, by omega, by omega⟩, ⟨by omega, by omega, by omega⟩, ⟨by omega, by omega, by omega⟩⟩ gg3 t3_3 t4_3 t5_3 (hb0.trans (hb3.mono hb0.size)) _ ?_
      assumption
end Go.Proofs.Ytjkegmjjhdmkiaa
