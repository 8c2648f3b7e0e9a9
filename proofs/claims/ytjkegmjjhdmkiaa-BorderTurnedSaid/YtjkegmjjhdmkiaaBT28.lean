/- The law BorderTurned, walked: whole. -/
import Derived.Test.YtjkegmjjhdmkiaaBT26
import Derived.Test.YtjkegmjjhdmkiaaBT27
import Derived.Test.YtjkegmjjhdmkiaaBT24
namespace Go.Proofs.Ytjkegmjjhdmkiaa
open Go.RowKit Go.Shelf
set_option maxHeartbeats 12800000
set_option maxRecDepth 100000
set_option linter.unusedSimpArgs false

theorem lawTurned_any (b : Bo) (fa sa : Option Addr) (fc sc : Nat) (far : Int) (hfar : 0 ≤ far ∧ far ≤ 255) (w : World) (hb : BoArg0 w b fa sa) :
    Calls Try.prog 10 #[.agg #[.int .i64 b.e.lo, .int .i64 b.e.hi, .int .i64 b.n.lo, .int .i64 b.n.hi, .slice fa b.fs.length fc, .slice sa b.ss.length sc], .int .u8 far] w fun e w' => e = .returned (.bool true) ∧ Below w.heap.size w w' := by
  have HB0 := Lib.hid hb
  have HF := Lib.hid hfar
  clear hb hfar
  go_enter Try.func10, Try.ntmps10
  go_wp2_with fail
  obtain ⟨W0, hW0⟩ : ∃ W, (w.alloc (.cells #[.int .i64 b.e.lo, .int .i64 b.e.hi, .int .i64 b.n.lo, .int .i64 b.n.hi, .slice fa b.fs.length fc, .slice sa b.ss.length sc] 26)) = W := ⟨_, rfl⟩
  rw [hW0]
  try simp only [Nat.add_assoc, Nat.reduceAdd]
  have hst_W0 : Steps (fun _ => False) w W0 := by rw [← hW0]; exact Steps.alloc _ w _
  have hz_W0 : W0.heap.size = w.heap.size + 1 := by rw [← hW0]; simp
  have g0_W0 : W0.heap[w.heap.size]? = some (.cells #[.int .i64 b.e.lo, .int .i64 b.e.hi, .int .i64 b.n.lo, .int .i64 b.n.hi, .slice fa b.fs.length fc, .slice sa b.ss.length sc] 26) := by rw [← hW0]; simp only [alloc_get, World.size_alloc]; repeat (first | exact if_pos trivial | exact if_pos (by omega) | rw [if_neg (by omega)])
  clear hW0
  have hb0 : Below w.heap.size w W0 := hst_W0.below (Nat.le_refl _) (fun _ _ h => h)
  refine (heavy_any b fa sa fc sc 4 40 W0 (HB0.out.below hb0)).mono ?_
  rintro e w1 ⟨rfl, hb1⟩
  have g1 := obj_later hb1 g0_W0
  replace hb0 := hb0.trans (hb1.mono hb0.size)
  clear hb1 g0_W0 hst_W0 hz_W0
  cases hh : heavyB b 4 40
  case true =>
    clear hh
    go_wp2_with fail
    refine (awake_any _).mono ?_
    rintro e w2 ⟨rfl, hb1⟩
    go_wp2
    go_ret
    exact ⟨rfl, hb0.trans (hb1.mono hb0.size)⟩
  have HB := Lib.hid (HB0.out.small hh)
  clear hh
  have c0 := cell_block g1 0
  have c1 := cell_block g1 1
  have c2 := cell_block g1 2
  have c3 := cell_block g1 3
  have c4 := cell_block g1 4
  have c5 := cell_block g1 5
  simp only [List.getElem?_toArray, List.getElem?_cons_zero, List.getElem?_cons_succ] at c0 c1 c2 c3 c4 c5
  go_wp2_with fail
  refine (border_any b fa sa fc sc _ (HB.out.below hb0)).mono ?_
  rintro e w2 ⟨rfl, hb1⟩
  have g2 := obj_later hb1 g1
  replace hb0 := hb0.trans (hb1.mono hb0.size)
  clear hb1 g1 c0 c1 c2 c3 c4 c5
  cases hok : b.ok
  case false =>
    clear hok
    go_wp2_with fail
    refine (awake_any _).mono ?_
    rintro e w3 ⟨rfl, hb1⟩
    go_wp2
    go_ret
    exact ⟨rfl, hb0.trans (hb1.mono hb0.size)⟩
  have HOK := Lib.hid hok
  clear hok
  have ltb := (Array.getElem?_eq_some_iff.1 g2).1
  have ltw := hb0.size
  go_upto_region 3 with fail
  have k0 : ∀ W', Below w2.heap.size w2 W' → W'.cell? ⟨w.heap.size, 0, none⟩ = some (.int .i64 b.e.lo) := fun W' h => cell_block (obj_later h g2) 0
  have k1 : ∀ W', Below w2.heap.size w2 W' → W'.cell? ⟨w.heap.size, 1, none⟩ = some (.int .i64 b.e.hi) := fun W' h => cell_block (obj_later h g2) 1
  have k2 : ∀ W', Below w2.heap.size w2 W' → W'.cell? ⟨w.heap.size, 2, none⟩ = some (.int .i64 b.n.lo) := fun W' h => cell_block (obj_later h g2) 2
  have k3 : ∀ W', Below w2.heap.size w2 W' → W'.cell? ⟨w.heap.size, 3, none⟩ = some (.int .i64 b.n.hi) := fun W' h => cell_block (obj_later h g2) 3
  have k4 : ∀ W', Below w2.heap.size w2 W' → W'.cell? ⟨w.heap.size, 4, none⟩ = some (.slice fa b.fs.length fc) := fun W' h => cell_block (obj_later h g2) 4
  have k5 : ∀ W', Below w2.heap.size w2 W' → W'.cell? ⟨w.heap.size, 5, none⟩ = some (.slice sa b.ss.length sc) := fun W' h => cell_block (obj_later h g2) 5
  refine (wpIn_wide (n := 1)).1 ?_
  refine wpIn_region_Wn (S := fun W' => Below w2.heap.size w2 W') 6 (by kernel_rfl) (by kernel_rfl) (below_drew w2) (fun hHeld => ?_)
  refine wpAnyW_takeD 0 45 (v := ?_) (by kernel_rfl) (by kernel_rfl) (by kernel_rfl) (by kernel_rfl) (fun _ _ _ h => h) ?_ (by assumption) ?_
  rotate_left
  · intro oi hoi w hSw; (try dsimp only at hSw); simp only [List.getElem?_toArray, List.getElem?_cons_zero, List.getElem?_cons_succ, Option.some.injEq] at hoi; subst hoi; go_simp; try with_reducible rfl
  simp only [Act.put, List.setIfInBounds_toArray, List.set_cons_zero, List.set_cons_succ]
  refine wpAnyW_takeD 1 46 (v := ?_) (by kernel_rfl) (by kernel_rfl) (by kernel_rfl) (by kernel_rfl) (fun _ _ _ h => h) ?_ (by assumption) ?_
  rotate_left
  · intro oi hoi w hSw; (try dsimp only at hSw); simp only [List.getElem?_toArray, List.getElem?_cons_zero, List.getElem?_cons_succ, Option.some.injEq] at hoi; subst hoi; go_simp; try with_reducible rfl
  simp only [Act.put, List.setIfInBounds_toArray, List.set_cons_zero, List.set_cons_succ]
  clear k0 k1 k2 k3 k4 k5
  refine wpAnyW_two 2 3 (by kernel_rfl) ⟨by kernel_rfl, by kernel_rfl⟩ ?_ ?_
  · intro o ho K hK
    simp only [List.getElem?_toArray, List.getElem?_cons_zero, List.getElem?_cons_succ, Option.some.injEq] at ho
    subst ho
    go_simp
    refine hK _ _ (show Below w2.heap.size w2 (w2.alloc (.cells #[.int .i64 0, .int .i64 0, .int .i64 0, .int .i64 0, .slice none 0 0, .slice none 0 0] 26)).drew from (below_alloc _ _).drew) (fun hH1 => ?_)
    clear hK K
    try simp only [Act.put, List.setIfInBounds_toArray, List.set_cons_zero, List.set_cons_succ]
    refine wpAnyW_one 3 (by kernel_rfl) (by kernel_rfl) ?_
    intro o ho K hK
    simp only [List.getElem?_toArray, List.getElem?_cons_zero, List.getElem?_cons_succ, Option.some.injEq] at ho
    subst ho
    go_simp
    have hH2 : Below w2.heap.size w2 (((w2.alloc (.cells #[.int .i64 0, .int .i64 0, .int .i64 0, .int .i64 0, .slice none 0 0, .slice none 0 0] 26)).alloc (.cells #[.int .i64 0, .int .i64 0, .int .i64 0, .int .i64 0, .slice none 0 0, .slice none 0 0] 26)).drew) := ((below_alloc w2 _).alloc (by rw [World.size_alloc]; exact Nat.le_succ _) _).drew
    refine hK _ _ hH2 (fun _ => ?_)
    clear hK K hH1
    try simp only [Act.put, List.setIfInBounds_toArray, List.set_cons_zero, List.set_cons_succ]
    have z0 : (((w2.alloc (.cells #[.int .i64 0, .int .i64 0, .int .i64 0, .int .i64 0, .slice none 0 0, .slice none 0 0] 26)).alloc (.cells #[.int .i64 0, .int .i64 0, .int .i64 0, .int .i64 0, .slice none 0 0, .slice none 0 0] 26)).drew).heap[w2.heap.size]? = some (.cells #[.int .i64 0, .int .i64 0, .int .i64 0, .int .i64 0, .slice none 0 0, .slice none 0 0] 26) := by show ((w2.alloc _).alloc _).heap[w2.heap.size]? = _; rw [alloc_get, World.size_alloc, if_neg (by omega), alloc_get, if_pos rfl]
    have z1 : (((w2.alloc (.cells #[.int .i64 0, .int .i64 0, .int .i64 0, .int .i64 0, .slice none 0 0, .slice none 0 0] 26)).alloc (.cells #[.int .i64 0, .int .i64 0, .int .i64 0, .int .i64 0, .slice none 0 0, .slice none 0 0] 26)).drew).heap[w2.heap.size + 1]? = some (.cells #[.int .i64 0, .int .i64 0, .int .i64 0, .int .i64 0, .slice none 0 0, .slice none 0 0] 26) := by show ((w2.alloc _).alloc _).heap[w2.heap.size + 1]? = _; rw [alloc_get, World.size_alloc, if_pos rfl]
    have g3 := obj_later hH2 g2
    generalize ((w2.alloc (.cells #[.int .i64 0, .int .i64 0, .int .i64 0, .int .i64 0, .slice none 0 0, .slice none 0 0] 26)).alloc (.cells #[.int .i64 0, .int .i64 0, .int .i64 0, .int .i64 0, .slice none 0 0, .slice none 0 0] 26)).drew = w3 at z0 z1 g3 hH2 ⊢
    have f0 := frozen_block z0 0
    have f1 := frozen_block z0 1
    have f2 := frozen_block z0 2
    have f3 := frozen_block z0 3
    have f4 := frozen_block z0 4
    have f5 := frozen_block z0 5
    have d0 := cell_block z0 0
    have d1 := cell_block z0 1
    have d2 := cell_block z0 2
    have d3 := cell_block z0 3
    have d4 := cell_block z0 4
    have d5 := cell_block z0 5
    simp only [List.getElem?_toArray, List.getElem?_cons_zero, List.getElem?_cons_succ] at d0 d1 d2 d3 d4 d5
    refine wpAnyW_one 4 (by kernel_rfl) (by kernel_rfl) ?_
    intro o ho K hK
    simp only [List.getElem?_toArray, List.getElem?_cons_zero, List.getElem?_cons_succ, Option.some.injEq] at ho
    subst ho
    go_simp
    have hH3 := six_below (.int .i64 b.e.lo) (.int .i64 b.e.hi) (.int .i64 b.n.lo) (.int .i64 b.n.hi) (.slice fa b.fs.length fc) (.slice sa b.ss.length sc) hH2 (show w2.heap.size ≤ w2.heap.size by omega)
    have t4 := six_same (.int .i64 b.e.lo) (.int .i64 b.e.hi) (.int .i64 b.n.lo) (.int .i64 b.n.hi) (.slice fa b.fs.length fc) (.slice sa b.ss.length sc) z0
    have m4 := (six_other w3 w2.heap.size (w2.heap.size + 1) (.int .i64 b.e.lo) (.int .i64 b.e.hi) (.int .i64 b.n.lo) (.int .i64 b.n.hi) (.slice fa b.fs.length fc) (.slice sa b.ss.length sc) (by omega)).trans z1
    have g4 := (six_other w3 w2.heap.size w.heap.size (.int .i64 b.e.lo) (.int .i64 b.e.hi) (.int .i64 b.n.lo) (.int .i64 b.n.hi) (.slice fa b.fs.length fc) (.slice sa b.ss.length sc) (by omega)).trans g3
    refine hK _ _ hH3 (fun _ => ?_)
    clear hK K hHeld hH2 z0 z1 g3 f0 f1 f2 f3 f4 f5 d0 d1 d2 d3 d4 d5
    try simp only [Act.put, List.setIfInBounds_toArray, List.set_cons_zero, List.set_cons_succ]
    generalize ((((((w3.setCell ⟨w2.heap.size, 0, none⟩ (.int .i64 b.e.lo)).setCell ⟨w2.heap.size, 1, none⟩ (.int .i64 b.e.hi)).setCell ⟨w2.heap.size, 2, none⟩ (.int .i64 b.n.lo)).setCell ⟨w2.heap.size, 3, none⟩ (.int .i64 b.n.hi)).setCell ⟨w2.heap.size, 4, none⟩ (.slice fa b.fs.length fc)).setCell ⟨w2.heap.size, 5, none⟩ (.slice sa b.ss.length sc)) = w4 at t4 m4 g4 hH3 ⊢
    have f0 := frozen_block m4 0
    have f1 := frozen_block m4 1
    have f2 := frozen_block m4 2
    have f3 := frozen_block m4 3
    have f4 := frozen_block m4 4
    have f5 := frozen_block m4 5
    have d0 := cell_block m4 0
    have d1 := cell_block m4 1
    have d2 := cell_block m4 2
    have d3 := cell_block m4 3
    have d4 := cell_block m4 4
    have d5 := cell_block m4 5
    simp only [List.getElem?_toArray, List.getElem?_cons_zero, List.getElem?_cons_succ] at d0 d1 d2 d3 d4 d5
    refine wpAnyW_one 5 (by kernel_rfl) (by kernel_rfl) ?_
    intro o ho K hK
    simp only [List.getElem?_toArray, List.getElem?_cons_zero, List.getElem?_cons_succ, Option.some.injEq] at ho
    subst ho
    go_simp
    have hH4 := six_below (.int .i64 b.e.lo) (.int .i64 b.e.hi) (.int .i64 b.n.lo) (.int .i64 b.n.hi) (.slice fa b.fs.length fc) (.slice sa b.ss.length sc) hH3 (show w2.heap.size ≤ (w2.heap.size + 1) by omega)
    have m5 := six_same (.int .i64 b.e.lo) (.int .i64 b.e.hi) (.int .i64 b.n.lo) (.int .i64 b.n.hi) (.slice fa b.fs.length fc) (.slice sa b.ss.length sc) m4
    have t5 := (six_other w4 (w2.heap.size + 1) w2.heap.size (.int .i64 b.e.lo) (.int .i64 b.e.hi) (.int .i64 b.n.lo) (.int .i64 b.n.hi) (.slice fa b.fs.length fc) (.slice sa b.ss.length sc) (by omega)).trans t4
    have g5 := (six_other w4 (w2.heap.size + 1) w.heap.size (.int .i64 b.e.lo) (.int .i64 b.e.hi) (.int .i64 b.n.lo) (.int .i64 b.n.hi) (.slice fa b.fs.length fc) (.slice sa b.ss.length sc) (by omega)).trans g4
    refine hK _ _ hH4 (fun _ => ?_)
    clear hK K hH3 t4 m4 g4 f0 f1 f2 f3 f4 f5 d0 d1 d2 d3 d4 d5
    try simp only [Act.put, List.setIfInBounds_toArray, List.set_cons_zero, List.set_cons_succ]
    generalize ((((((w4.setCell ⟨(w2.heap.size + 1), 0, none⟩ (.int .i64 b.e.lo)).setCell ⟨(w2.heap.size + 1), 1, none⟩ (.int .i64 b.e.hi)).setCell ⟨(w2.heap.size + 1), 2, none⟩ (.int .i64 b.n.lo)).setCell ⟨(w2.heap.size + 1), 3, none⟩ (.int .i64 b.n.hi)).setCell ⟨(w2.heap.size + 1), 4, none⟩ (.slice fa b.fs.length fc)).setCell ⟨(w2.heap.size + 1), 5, none⟩ (.slice sa b.ss.length sc)) = w5 at t5 m5 g5 hH4 ⊢
    refine wpAnyW_done (by kernel_rfl) ?_ _
    dsimp only [onNormal]
    go_upto_region 4 with fail
    refine lawTurned_f b fa sa fc sc w2.heap.size (w2.heap.size + 1) far w w5 HB HOK HF.out ⟨by omega, by omega, by omega, by omega, by omega⟩ g5 t5 m5 (hb0.trans (hH4.mono hb0.size)) _ ?_
    assumption
  · intro o ho K hK
    simp only [List.getElem?_toArray, List.getElem?_cons_zero, List.getElem?_cons_succ, Option.some.injEq] at ho
    subst ho
    go_simp
    refine hK _ _ (show Below w2.heap.size w2 (w2.alloc (.cells #[.int .i64 0, .int .i64 0, .int .i64 0, .int .i64 0, .slice none 0 0, .slice none 0 0] 26)).drew from (below_alloc _ _).drew) (fun hH1 => ?_)
    clear hK K
    try simp only [Act.put, List.setIfInBounds_toArray, List.set_cons_zero, List.set_cons_succ]
    refine wpAnyW_one 2 (by kernel_rfl) (by kernel_rfl) ?_
    intro o ho K hK
    simp only [List.getElem?_toArray, List.getElem?_cons_zero, List.getElem?_cons_succ, Option.some.injEq] at ho
    subst ho
    go_simp
    have hH2 : Below w2.heap.size w2 (((w2.alloc (.cells #[.int .i64 0, .int .i64 0, .int .i64 0, .int .i64 0, .slice none 0 0, .slice none 0 0] 26)).alloc (.cells #[.int .i64 0, .int .i64 0, .int .i64 0, .int .i64 0, .slice none 0 0, .slice none 0 0] 26)).drew) := ((below_alloc w2 _).alloc (by rw [World.size_alloc]; exact Nat.le_succ _) _).drew
    refine hK _ _ hH2 (fun _ => ?_)
    clear hK K hH1
    try simp only [Act.put, List.setIfInBounds_toArray, List.set_cons_zero, List.set_cons_succ]
    have z0 : (((w2.alloc (.cells #[.int .i64 0, .int .i64 0, .int .i64 0, .int .i64 0, .slice none 0 0, .slice none 0 0] 26)).alloc (.cells #[.int .i64 0, .int .i64 0, .int .i64 0, .int .i64 0, .slice none 0 0, .slice none 0 0] 26)).drew).heap[w2.heap.size]? = some (.cells #[.int .i64 0, .int .i64 0, .int .i64 0, .int .i64 0, .slice none 0 0, .slice none 0 0] 26) := by show ((w2.alloc _).alloc _).heap[w2.heap.size]? = _; rw [alloc_get, World.size_alloc, if_neg (by omega), alloc_get, if_pos rfl]
    have z1 : (((w2.alloc (.cells #[.int .i64 0, .int .i64 0, .int .i64 0, .int .i64 0, .slice none 0 0, .slice none 0 0] 26)).alloc (.cells #[.int .i64 0, .int .i64 0, .int .i64 0, .int .i64 0, .slice none 0 0, .slice none 0 0] 26)).drew).heap[w2.heap.size + 1]? = some (.cells #[.int .i64 0, .int .i64 0, .int .i64 0, .int .i64 0, .slice none 0 0, .slice none 0 0] 26) := by show ((w2.alloc _).alloc _).heap[w2.heap.size + 1]? = _; rw [alloc_get, World.size_alloc, if_pos rfl]
    have g3 := obj_later hH2 g2
    generalize ((w2.alloc (.cells #[.int .i64 0, .int .i64 0, .int .i64 0, .int .i64 0, .slice none 0 0, .slice none 0 0] 26)).alloc (.cells #[.int .i64 0, .int .i64 0, .int .i64 0, .int .i64 0, .slice none 0 0, .slice none 0 0] 26)).drew = w3 at z0 z1 g3 hH2 ⊢
    have f0 := frozen_block z1 0
    have f1 := frozen_block z1 1
    have f2 := frozen_block z1 2
    have f3 := frozen_block z1 3
    have f4 := frozen_block z1 4
    have f5 := frozen_block z1 5
    have d0 := cell_block z1 0
    have d1 := cell_block z1 1
    have d2 := cell_block z1 2
    have d3 := cell_block z1 3
    have d4 := cell_block z1 4
    have d5 := cell_block z1 5
    simp only [List.getElem?_toArray, List.getElem?_cons_zero, List.getElem?_cons_succ] at d0 d1 d2 d3 d4 d5
    refine wpAnyW_one 4 (by kernel_rfl) (by kernel_rfl) ?_
    intro o ho K hK
    simp only [List.getElem?_toArray, List.getElem?_cons_zero, List.getElem?_cons_succ, Option.some.injEq] at ho
    subst ho
    go_simp
    have hH3 := six_below (.int .i64 b.e.lo) (.int .i64 b.e.hi) (.int .i64 b.n.lo) (.int .i64 b.n.hi) (.slice fa b.fs.length fc) (.slice sa b.ss.length sc) hH2 (show w2.heap.size ≤ (w2.heap.size + 1) by omega)
    have t4 := six_same (.int .i64 b.e.lo) (.int .i64 b.e.hi) (.int .i64 b.n.lo) (.int .i64 b.n.hi) (.slice fa b.fs.length fc) (.slice sa b.ss.length sc) z1
    have m4 := (six_other w3 (w2.heap.size + 1) w2.heap.size (.int .i64 b.e.lo) (.int .i64 b.e.hi) (.int .i64 b.n.lo) (.int .i64 b.n.hi) (.slice fa b.fs.length fc) (.slice sa b.ss.length sc) (by omega)).trans z0
    have g4 := (six_other w3 (w2.heap.size + 1) w.heap.size (.int .i64 b.e.lo) (.int .i64 b.e.hi) (.int .i64 b.n.lo) (.int .i64 b.n.hi) (.slice fa b.fs.length fc) (.slice sa b.ss.length sc) (by omega)).trans g3
    refine hK _ _ hH3 (fun _ => ?_)
    clear hK K hHeld hH2 z0 z1 g3 f0 f1 f2 f3 f4 f5 d0 d1 d2 d3 d4 d5
    try simp only [Act.put, List.setIfInBounds_toArray, List.set_cons_zero, List.set_cons_succ]
    generalize ((((((w3.setCell ⟨(w2.heap.size + 1), 0, none⟩ (.int .i64 b.e.lo)).setCell ⟨(w2.heap.size + 1), 1, none⟩ (.int .i64 b.e.hi)).setCell ⟨(w2.heap.size + 1), 2, none⟩ (.int .i64 b.n.lo)).setCell ⟨(w2.heap.size + 1), 3, none⟩ (.int .i64 b.n.hi)).setCell ⟨(w2.heap.size + 1), 4, none⟩ (.slice fa b.fs.length fc)).setCell ⟨(w2.heap.size + 1), 5, none⟩ (.slice sa b.ss.length sc)) = w4 at t4 m4 g4 hH3 ⊢
    have f0 := frozen_block m4 0
    have f1 := frozen_block m4 1
    have f2 := frozen_block m4 2
    have f3 := frozen_block m4 3
    have f4 := frozen_block m4 4
    have f5 := frozen_block m4 5
    have d0 := cell_block m4 0
    have d1 := cell_block m4 1
    have d2 := cell_block m4 2
    have d3 := cell_block m4 3
    have d4 := cell_block m4 4
    have d5 := cell_block m4 5
    simp only [List.getElem?_toArray, List.getElem?_cons_zero, List.getElem?_cons_succ] at d0 d1 d2 d3 d4 d5
    refine wpAnyW_one 5 (by kernel_rfl) (by kernel_rfl) ?_
    intro o ho K hK
    simp only [List.getElem?_toArray, List.getElem?_cons_zero, List.getElem?_cons_succ, Option.some.injEq] at ho
    subst ho
    go_simp
    have hH4 := six_below (.int .i64 b.e.lo) (.int .i64 b.e.hi) (.int .i64 b.n.lo) (.int .i64 b.n.hi) (.slice fa b.fs.length fc) (.slice sa b.ss.length sc) hH3 (show w2.heap.size ≤ w2.heap.size by omega)
    have m5 := six_same (.int .i64 b.e.lo) (.int .i64 b.e.hi) (.int .i64 b.n.lo) (.int .i64 b.n.hi) (.slice fa b.fs.length fc) (.slice sa b.ss.length sc) m4
    have t5 := (six_other w4 w2.heap.size (w2.heap.size + 1) (.int .i64 b.e.lo) (.int .i64 b.e.hi) (.int .i64 b.n.lo) (.int .i64 b.n.hi) (.slice fa b.fs.length fc) (.slice sa b.ss.length sc) (by omega)).trans t4
    have g5 := (six_other w4 w2.heap.size w.heap.size (.int .i64 b.e.lo) (.int .i64 b.e.hi) (.int .i64 b.n.lo) (.int .i64 b.n.hi) (.slice fa b.fs.length fc) (.slice sa b.ss.length sc) (by omega)).trans g4
    refine hK _ _ hH4 (fun _ => ?_)
    clear hK K hH3 t4 m4 g4 f0 f1 f2 f3 f4 f5 d0 d1 d2 d3 d4 d5
    try simp only [Act.put, List.setIfInBounds_toArray, List.set_cons_zero, List.set_cons_succ]
    generalize ((((((w4.setCell ⟨w2.heap.size, 0, none⟩ (.int .i64 b.e.lo)).setCell ⟨w2.heap.size, 1, none⟩ (.int .i64 b.e.hi)).setCell ⟨w2.heap.size, 2, none⟩ (.int .i64 b.n.lo)).setCell ⟨w2.heap.size, 3, none⟩ (.int .i64 b.n.hi)).setCell ⟨w2.heap.size, 4, none⟩ (.slice fa b.fs.length fc)).setCell ⟨w2.heap.size, 5, none⟩ (.slice sa b.ss.length sc)) = w5 at t5 m5 g5 hH4 ⊢
    refine wpAnyW_done (by kernel_rfl) ?_ _
    dsimp only [onNormal]
    go_upto_region 4 with fail
    refine lawTurned_f b fa sa fc sc (w2.heap.size + 1) w2.heap.size far w w5 HB HOK HF.out ⟨by omega, by omega, by omega, by omega, by omega⟩ g5 t5 m5 (hb0.trans (hH4.mono hb0.size)) _ ?_
    assumption
end Go.Proofs.Ytjkegmjjhdmkiaa
