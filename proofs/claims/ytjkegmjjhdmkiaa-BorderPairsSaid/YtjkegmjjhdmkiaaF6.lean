/- What the document fixes of its sample: it holds. -/
import Derived.Test.YtjkegmjjhdmkiaaSmp
import Derived.Test.YtjkegmjjhdmkiaaRg
namespace Go.Proofs.Ytjkegmjjhdmkiaa
open Go.RowKit Go.Shelf
set_option maxHeartbeats 3200000
set_option maxRecDepth 100000
set_option linter.unusedSimpArgs false

theorem smp_arg {w : World} {q1 q2 : Nat} (h1 : w.heap[q1]? = some (.cells (edsCells smp.fs).toArray 55)) (h2 : w.heap[q2]? = some (.cells (edsCells smp.ss).toArray 55)) : BoArg w smp (some ⟨q1, 0, none⟩) (some ⟨q2, 0, none⟩) :=
  ⟨EdSl.of_block (c := 0) h1 (fun i hi => by simp) rfl, EdSl.of_block (c := 0) h2 (fun i hi => by simp) rfl, by decide, by decide⟩

theorem awake_any (w : World) : Calls Try.prog 12 #[] w fun e w' => e = .returned (.bool true) ∧ Below w.heap.size w w' := by
  have n1 : ∀ w, (binOp .neq 23 (.agg #[.int .i64 2, .int .i64 3]) (.agg #[.int .i64 2, .int .i64 3])).run Try.prog w = .ok (.bool false) w := fun w => by kernel_rfl
  have n2 : ∀ w, (binOp .neq 23 (.agg #[.int .i64 (-2), .int .i64 (-1)]) (.agg #[.int .i64 (-2), .int .i64 (-1)])).run Try.prog w = .ok (.bool false) w := fun w => by kernel_rfl
  go_enter Try.func12, Try.ntmps12
  -- Same
  go_wp2_with fail
  refine (sample_any _).mono ?_
  rintro e w1 ⟨q1, q2, rfl, g1, g2, _, _, _, hb0⟩
  go_wp2_with fail
  have hc := xsame_any smp 0 0 2 (-1) (some ⟨q1, 0, none⟩) (some ⟨q2, 0, none⟩) 3 3 w1 (smp_arg g1 g2)
  refine hc.mono ?_
  clear hc
  rintro e w2 ⟨he, hb1⟩
  rw [smp_same] at he
  subst he
  replace hb0 := hb0.trans (hb1.mono hb0.size)
  clear hb1 g1 g2
  -- Possible
  go_wp2_with fail
  refine (sample_any _).mono ?_
  rintro e w3 ⟨q1, q2, rfl, g1, g2, _, _, _, hb1⟩
  replace hb0 := hb0.trans (hb1.mono hb0.size)
  clear hb1
  go_wp2_with fail
  have hc := possible_any smp 2 (-1) (some ⟨q1, 0, none⟩) (some ⟨q2, 0, none⟩) 3 3 w3 (smp_arg g1 g2)
  refine hc.mono ?_
  clear hc
  rintro e w4 ⟨he, hb1⟩
  rw [smp_possible] at he
  subst he
  replace hb0 := hb0.trans (hb1.mono hb0.size)
  clear hb1 g1 g2
  -- Shift
  go_wp2_with fail
  refine (sample_any _).mono ?_
  rintro e w5 ⟨q1, q2, rfl, g1, g2, _, _, _, hb1⟩
  replace hb0 := hb0.trans (hb1.mono hb0.size)
  clear hb1
  go_wp2_with fail
  have hc := shift_any smp (some ⟨q1, 0, none⟩) (some ⟨q2, 0, none⟩) 3 3 w5 (smp_arg g1 g2)
  refine hc.mono ?_
  clear hc
  rintro e w6 ⟨he, hb1⟩
  rw [smp_shift] at he
  unfold spV at he
  simp only at he
  subst he
  replace hb0 := hb0.trans (hb1.mono hb0.size)
  clear hb1 g1 g2
  go_wp2_with fail
  obtain ⟨W6, hW6⟩ : ∃ W, ((w6.alloc (.cells #[.int .i64 2, .int .i64 3] 23)).alloc (.cells #[.int .i64 (-2), .int .i64 (-1)] 23)) = W := ⟨_, rfl⟩
  rw [hW6]
  try simp only [Nat.add_assoc, Nat.reduceAdd]
  have hst_W6 : Steps (fun _ => False) w6 W6 := by rw [← hW6]; exact (Steps.alloc _ w6 _).trans (Steps.alloc (fun _ => False) _ _) (fun _ _ h => h)
  have hz_W6 : W6.heap.size = w6.heap.size + 2 := by rw [← hW6]; simp
  have g0_W6 : W6.heap[w6.heap.size]? = some (.cells #[.int .i64 2, .int .i64 3] 23) := by rw [← hW6]; simp only [alloc_get, World.size_alloc]; repeat (first | exact if_pos trivial | exact if_pos (by omega) | rw [if_neg (by omega)])
  have g1_W6 : W6.heap[w6.heap.size + 1]? = some (.cells #[.int .i64 (-2), .int .i64 (-1)] 23) := by rw [← hW6]; simp only [alloc_get, World.size_alloc]; repeat (first | exact if_pos trivial | exact if_pos (by omega) | rw [if_neg (by omega)])
  clear hW6
  have s1 := g0_W6
  have s2 := g1_W6
  replace hb0 := hb0.trans (hst_W6.below hb0.size (fun _ _ h => h))
  clear g0_W6 g1_W6 hst_W6 hz_W6
  obtain ⟨b1, hb1⟩ : ∃ x, w6.heap.size = x := ⟨_, rfl⟩
  rw [hb1] at s1 s2 ⊢
  clear hb1
  -- Pairs
  refine (sample_any _).mono ?_
  rintro e w7 ⟨q1, q2, rfl, g1, g2, _, _, _, hb1⟩
  replace s1 := obj_later hb1 s1
  replace s2 := obj_later hb1 s2
  replace hb0 := hb0.trans (hb1.mono hb0.size)
  clear hb1
  go_wp2_with fail
  have hc := pairs_any smp 1 (some ⟨q1, 0, none⟩) (some ⟨q2, 0, none⟩) 3 3 w7 (smp_arg g1 g2)
  refine hc.mono ?_
  clear hc
  rintro e w8 ⟨he, hb1⟩
  rw [smp_pairs] at he
  subst he
  replace s1 := obj_later hb1 s1
  replace s2 := obj_later hb1 s2
  replace hb0 := hb0.trans (hb1.mono hb0.size)
  clear hb1 g1 g2
  go_wp2_with fail
  -- Alone
  refine (sample_any _).mono ?_
  rintro e w9 ⟨q1, q2, rfl, g1, g2, _, _, _, hb1⟩
  replace s1 := obj_later hb1 s1
  replace s2 := obj_later hb1 s2
  replace hb0 := hb0.trans (hb1.mono hb0.size)
  clear hb1
  go_wp2_with fail
  have hc := alone_any smp (some ⟨q1, 0, none⟩) (some ⟨q2, 0, none⟩) 3 3 w9 (smp_arg g1 g2)
  refine hc.mono ?_
  clear hc
  rintro e w10 ⟨he, hb1⟩
  rw [smp_alone] at he
  subst he
  replace s1 := obj_later hb1 s1
  replace s2 := obj_later hb1 s2
  replace hb0 := hb0.trans (hb1.mono hb0.size)
  clear hb1 g1 g2
  go_wp2_with fail
  -- Best
  refine (sample_any _).mono ?_
  rintro e w11 ⟨q1, q2, rfl, g1, g2, _, _, _, hb1⟩
  replace s1 := obj_later hb1 s1
  replace s2 := obj_later hb1 s2
  replace hb0 := hb0.trans (hb1.mono hb0.size)
  clear hb1
  go_wp2_with fail
  have hc := best_any smp (some ⟨q1, 0, none⟩) (some ⟨q2, 0, none⟩) 3 3 w11 (smp_arg g1 g2)
  refine hc.mono ?_
  clear hc
  rintro e w12 ⟨he, hb1⟩
  rw [smp_best] at he
  obtain ⟨qb, cb, rfl, hI⟩ := he
  replace s1 := obj_later hb1 s1
  replace s2 := obj_later hb1 s2
  replace hb0 := hb0.trans (hb1.mono hb0.size)
  clear hb1 g1 g2
  have hIl := hI.lt
  have hs1l := (Array.getElem?_eq_some_iff.1 s1).1
  have hs2l := (Array.getElem?_eq_some_iff.1 s2).1
  go_wp2_with fail
  -- Clash
  refine (sample_any _).mono ?_
  rintro e w13 ⟨q1, q2, rfl, g1, g2, hq1, hq2, hq12, hb1⟩
  replace s1 := obj_later hb1 s1
  replace s2 := obj_later hb1 s2
  replace hI := hI.later (hb1.block _ hIl)
  replace hb0' := hb0.trans (hb1.mono hb0.size)
  have hz1 := hb1.size
  clear hb1
  go_upto_region 8 with fail
  obtain ⟨W13, hW13⟩ : ∃ W, (w13.alloc (.cells #[.int .i64 (-5), .int .i64 5, .int .i64 (-5), .int .i64 5, .slice (some ⟨q1, 0, none⟩) 3 3, .slice (some ⟨q2, 0, none⟩) 3 3] 26)) = W := ⟨_, rfl⟩
  rw [hW13]
  try simp only [Nat.add_assoc, Nat.reduceAdd]
  have hst_W13 : Steps (fun _ => False) w13 W13 := by rw [← hW13]; exact Steps.alloc _ w13 _
  have hz_W13 : W13.heap.size = w13.heap.size + 1 := by rw [← hW13]; simp
  have g0_W13 : W13.heap[w13.heap.size]? = some (.cells #[.int .i64 (-5), .int .i64 5, .int .i64 (-5), .int .i64 5, .slice (some ⟨q1, 0, none⟩) 3 3, .slice (some ⟨q2, 0, none⟩) 3 3] 26) := by rw [← hW13]; simp only [alloc_get, World.size_alloc]; repeat (first | exact if_pos trivial | exact if_pos (by omega) | rw [if_neg (by omega)])
  clear hW13
  have hbW : Below w13.heap.size w13 W13 := hst_W13.below (Nat.le_refl _) (fun _ _ h => h)
  have hq1m := (Array.getElem?_eq_some_iff.1 g1).1
  replace g1 := obj_later hbW g1
  replace g2 := obj_later hbW g2
  replace s1 := obj_later hbW s1
  replace s2 := obj_later hbW s2
  replace hI := hI.later (hbW.block _ (by omega))
  replace hb0' := hb0'.trans (hbW.mono hb0'.size)
  have hq1l := (Array.getElem?_eq_some_iff.1 g1).1
  have hg1l := (Array.getElem?_eq_some_iff.1 g1).1
  have c4 := cell_block g0_W13 4
  have c20 := cell_block g1 20
  have e20 : (edsCells smp.fs).toArray[20]? = some (.bool false) := by rfl
  rw [e20] at c20
  simp only [List.getElem?_toArray, List.getElem?_cons_zero, List.getElem?_cons_succ] at c4
  have f20 := frozen_block g1 20
  have hsame : (edsCells smp.fs).toArray.setIfInBounds 20 (.bool true) = (edsCells smp'.fs).toArray := by rfl
  have HSM := Lib.hid hsame
  clear hsame
  go_upto_region 9 with fail
  have z1 : (W13.setCell ⟨q1, 20, none⟩ (.bool true)).heap[q1]? = some (.cells (edsCells smp'.fs).toArray 55) := by rw [← HSM.out]; exact block_set g1 20 (.bool true)
  have z2 : (W13.setCell ⟨q1, 20, none⟩ (.bool true)).heap[q2]? = some (.cells (edsCells smp'.ss).toArray 55) := block_other g2 (Ne.symm hq12) 20 (.bool true)
  have z3 : (W13.setCell ⟨q1, 20, none⟩ (.bool true)).heap[b1]? = _ := block_other s1 (by omega) 20 (.bool true)
  have z4 : (W13.setCell ⟨q1, 20, none⟩ (.bool true)).heap[b1 + 1]? = _ := block_other s2 (by omega) 20 (.bool true)
  have z5 : IntsAt (W13.setCell ⟨q1, 20, none⟩ (.bool true)) qb [0, 1, -1] := hI.later (Below.heap_setCell _ _ _ _ (by show ¬ qb = q1; omega))
  have z6 : (W13.setCell ⟨q1, 20, none⟩ (.bool true)).heap[w13.heap.size]? = _ := block_other g0_W13 (by omega) 20 (.bool true)
  have z7 : Below w.heap.size w (W13.setCell ⟨q1, 20, none⟩ (.bool true)) := hb0'.setCell (p := ⟨q1, 20, none⟩) (by have := hb0.size; show w.heap.size ≤ q1; omega) _
  generalize W13.setCell ⟨q1, 20, none⟩ (.bool true) = w14 at z1 z2 z3 z4 z5 z6 z7 ⊢
  clear hbW g1 g2 s1 s2 hI hb0' c4 c20 e20 f20 HSM g0_W13 hst_W13
  have c0 := cell_block z6 0
  have c1 := cell_block z6 1
  have c2 := cell_block z6 2
  have c3 := cell_block z6 3
  have c4 := cell_block z6 4
  have c5 := cell_block z6 5
  simp only [List.getElem?_toArray, List.getElem?_cons_zero, List.getElem?_cons_succ] at c0 c1 c2 c3 c4 c5
  go_wp2_with fail
  have hc := clash_any smp' (some ⟨q1, 0, none⟩) (some ⟨q2, 0, none⟩) 3 3 w14 ⟨EdSl.of_block (c := 0) z1 (fun i hi => by simp) rfl, EdSl.of_block (c := 0) z2 (fun i hi => by simp) rfl, by decide, by decide⟩
  refine hc.mono ?_
  clear hc
  rintro e w15 ⟨he, hb1⟩
  have he' : e = .returned (.tuple #[.int .i64 4, .int .i64 0, .int .i64 0]) := by
    unfold ClashOut at he
    rw [smp_ok', smp_no] at he
    simp only [if_true, Bool.false_eq_true, if_false] at he
    obtain ⟨t, ht, rfl⟩ := he
    rw [smp_clash ht]
    rfl
  subst he'
  clear he
  replace z3 := obj_later hb1 z3
  replace z4 := obj_later hb1 z4
  replace z5 := z5.later (hb1.block _ z5.lt)
  replace z7 := z7.trans (hb1.mono z7.size)
  clear hb1 z1 z2 z6 c0 c1 c2 c3 c4 c5
  have hz7 := z7.size
  have d0 := cell_block z3 0
  have d1 := cell_block z3 1
  have d2 := cell_block z4 0
  have d3 := cell_block z4 1
  simp only [List.getElem?_toArray, List.getElem?_cons_zero, List.getElem?_cons_succ] at d0 d1 d2 d3
  go_upto_region 10 with fail
  have k0 := held d0 (Nat.le_refl _)
  have k1 := held d1 (Nat.le_refl _)
  have k2 := held d2 (Nat.le_refl _)
  have k3 := held d3 (Nat.le_refl _)
  refine (wpIn_wide (n := 1)).1 ?_
  refine wpIn_region_Wn (S := fun W => Below w15.heap.size w15 W) 52 (by kernel_rfl) (by kernel_rfl) (Below.refl _ _).drew (fun hHeld => ?_)
  refine wpAnyW_takeD 0 68 (v := ?_) (by kernel_rfl) (by kernel_rfl) (by kernel_rfl) (by kernel_rfl) (fun _ _ _ h => h) ?_ (by assumption) ?_
  rotate_left
  · intro oi hoi w hSw; (try dsimp only at hSw); simp only [List.getElem?_toArray, List.getElem?_cons_zero, List.getElem?_cons_succ, Option.some.injEq] at hoi; subst hoi; go_simp; try with_reducible rfl
  simp only [Act.put, List.setIfInBounds_toArray, List.set_cons_zero, List.set_cons_succ]
  refine wpAnyW_takeD 1 69 (v := ?_) (by kernel_rfl) (by kernel_rfl) (by kernel_rfl) (by kernel_rfl) (fun _ _ _ h => h) ?_ (by assumption) ?_
  rotate_left
  · intro oi hoi w hSw; (try dsimp only at hSw); simp only [List.getElem?_toArray, List.getElem?_cons_zero, List.getElem?_cons_succ, Option.some.injEq] at hoi; subst hoi; go_simp; try with_reducible rfl
  simp only [Act.put, List.setIfInBounds_toArray, List.set_cons_zero, List.set_cons_succ]
  refine wpAnyW_takeD 2 70 (v := ?_) (by kernel_rfl) (by kernel_rfl) (by kernel_rfl) (by kernel_rfl) (fun _ _ _ h => h) ?_ (by assumption) ?_
  rotate_left
  · intro oi hoi w hSw; (try dsimp only at hSw); simp only [List.getElem?_toArray, List.getElem?_cons_zero, List.getElem?_cons_succ, Option.some.injEq] at hoi; subst hoi; go_simp; try with_reducible rfl
  simp only [Act.put, List.setIfInBounds_toArray, List.set_cons_zero, List.set_cons_succ]
  refine wpAnyW_takeD 3 71 (v := ?_) (by kernel_rfl) (by kernel_rfl) (by kernel_rfl) (by kernel_rfl) (fun _ _ _ h => h) ?_ (by assumption) ?_
  rotate_left
  · intro oi hoi w hSw; (try dsimp only at hSw); simp only [List.getElem?_toArray, List.getElem?_cons_zero, List.getElem?_cons_succ, Option.some.injEq] at hoi; subst hoi; go_simp; try with_reducible rfl
  simp only [Act.put, List.setIfInBounds_toArray, List.set_cons_zero, List.set_cons_succ]
  refine wpAnyW_takeD 4 72 (v := ?_) (by kernel_rfl) (by kernel_rfl) (by kernel_rfl) (by kernel_rfl) (fun _ _ _ h => h) ?_ (by assumption) ?_
  rotate_left
  · intro oi hoi w hSw; (try dsimp only at hSw); simp only [List.getElem?_toArray, List.getElem?_cons_zero, List.getElem?_cons_succ, Option.some.injEq] at hoi; subst hoi; go_simp; try with_reducible rfl
  simp only [Act.put, List.setIfInBounds_toArray, List.set_cons_zero, List.set_cons_succ]
  refine wpAnyW_takeD 5 73 (v := ?_) (by kernel_rfl) (by kernel_rfl) (by kernel_rfl) (by kernel_rfl) (fun _ _ _ h => h) ?_ (by assumption) ?_
  rotate_left
  · intro oi hoi w hSw; (try dsimp only at hSw); simp only [List.getElem?_toArray, List.getElem?_cons_zero, List.getElem?_cons_succ, Option.some.injEq] at hoi; subst hoi; go_simp; try with_reducible rfl
  simp only [Act.put, List.setIfInBounds_toArray, List.set_cons_zero, List.set_cons_succ]
  refine wpAnyW_takeD 6 74 (v := ?_) (by kernel_rfl) (by kernel_rfl) (by kernel_rfl) (by kernel_rfl) (fun _ _ _ h => h) ?_ (by assumption) ?_
  rotate_left
  · intro oi hoi w hSw; (try dsimp only at hSw); simp only [List.getElem?_toArray, List.getElem?_cons_zero, List.getElem?_cons_succ, Option.some.injEq] at hoi; subst hoi; go_simp; try with_reducible rfl
  simp only [Act.put, List.setIfInBounds_toArray, List.set_cons_zero, List.set_cons_succ]
  refine wpAnyW_takeD 7 75 (v := ?_) (by kernel_rfl) (by kernel_rfl) (by kernel_rfl) (by kernel_rfl) (fun _ _ _ h => h) ?_ (by assumption) ?_
  rotate_left
  · intro oi hoi w hSw; (try dsimp only at hSw); simp only [List.getElem?_toArray, List.getElem?_cons_zero, List.getElem?_cons_succ, Option.some.injEq] at hoi; subst hoi; go_simp; try with_reducible rfl
  simp only [Act.put, List.setIfInBounds_toArray, List.set_cons_zero, List.set_cons_succ]
  refine wpAnyW_takeD 8 76 (v := ?_) (by kernel_rfl) (by kernel_rfl) (by kernel_rfl) (by kernel_rfl) (fun _ _ _ h => h) ?_ (by assumption) ?_
  rotate_left
  · intro oi hoi w hSw; (try dsimp only at hSw); simp only [List.getElem?_toArray, List.getElem?_cons_zero, List.getElem?_cons_succ, Option.some.injEq] at hoi; subst hoi; go_simp; try with_reducible rfl
  simp only [Act.put, List.setIfInBounds_toArray, List.set_cons_zero, List.set_cons_succ]
  refine wpAnyW_takeD 9 77 (v := ?_) (by kernel_rfl) (by kernel_rfl) (by kernel_rfl) (by kernel_rfl) (fun _ _ _ h => h) ?_ (by assumption) ?_
  rotate_left
  · intro oi hoi w hSw; (try dsimp only at hSw); simp only [List.getElem?_toArray, List.getElem?_cons_zero, List.getElem?_cons_succ, Option.some.injEq] at hoi; subst hoi; go_simp; try with_reducible rfl
  simp only [Act.put, List.setIfInBounds_toArray, List.set_cons_zero, List.set_cons_succ]
  refine wpAnyW_takeD 10 78 (v := ?_) (by kernel_rfl) (by kernel_rfl) (by kernel_rfl) (by kernel_rfl) (fun _ _ _ h => h) ?_ (by assumption) ?_
  rotate_left
  · intro oi hoi w hSw; (try dsimp only at hSw); simp only [List.getElem?_toArray, List.getElem?_cons_zero, List.getElem?_cons_succ, Option.some.injEq] at hoi; subst hoi; go_simp; try with_reducible rfl
  simp only [Act.put, List.setIfInBounds_toArray, List.set_cons_zero, List.set_cons_succ]
  refine wpAnyW_takeD 11 79 (v := ?_) (by kernel_rfl) (by kernel_rfl) (by kernel_rfl) (by kernel_rfl) (fun _ _ _ h => h) ?_ (by assumption) ?_
  rotate_left
  · intro oi hoi w hSw; (try dsimp only at hSw); simp only [List.getElem?_toArray, List.getElem?_cons_zero, List.getElem?_cons_succ, Option.some.injEq] at hoi; subst hoi; go_simp; try with_reducible rfl
  simp only [Act.put, List.setIfInBounds_toArray, List.set_cons_zero, List.set_cons_succ]
  refine wpAnyW_takeD 12 80 (v := ?_) (by kernel_rfl) (by kernel_rfl) (by kernel_rfl) (by kernel_rfl) (fun _ _ _ h => h) ?_ (by assumption) ?_
  rotate_left
  · intro oi hoi w hSw; (try dsimp only at hSw); simp only [List.getElem?_toArray, List.getElem?_cons_zero, List.getElem?_cons_succ, Option.some.injEq] at hoi; subst hoi; go_simp; try with_reducible rfl
  simp only [Act.put, List.setIfInBounds_toArray, List.set_cons_zero, List.set_cons_succ]
  refine wpAnyW_takeD 13 81 (v := ?_) (by kernel_rfl) (by kernel_rfl) (by kernel_rfl) (by kernel_rfl) (fun _ _ _ h => h) ?_ (by assumption) ?_
  rotate_left
  · intro oi hoi w hSw; (try dsimp only at hSw); simp only [List.getElem?_toArray, List.getElem?_cons_zero, List.getElem?_cons_succ, Option.some.injEq] at hoi; subst hoi; go_simp; try with_reducible rfl
  simp only [Act.put, List.setIfInBounds_toArray, List.set_cons_zero, List.set_cons_succ]
  refine wpAnyW_takeD 14 82 (v := ?_) (by kernel_rfl) (by kernel_rfl) (by kernel_rfl) (by kernel_rfl) (fun _ _ _ h => h) ?_ (by assumption) ?_
  rotate_left
  · intro oi hoi w hSw; (try dsimp only at hSw); simp only [List.getElem?_toArray, List.getElem?_cons_zero, List.getElem?_cons_succ, Option.some.injEq] at hoi; subst hoi; go_simp; try with_reducible rfl
  simp only [Act.put, List.setIfInBounds_toArray, List.set_cons_zero, List.set_cons_succ]
  refine wpAnyW_takeD 15 83 (v := ?_) (by kernel_rfl) (by kernel_rfl) (by kernel_rfl) (by kernel_rfl) (fun _ _ _ h => h) ?_ (by assumption) ?_
  rotate_left
  · intro oi hoi w hSw; (try dsimp only at hSw); simp only [List.getElem?_toArray, List.getElem?_cons_zero, List.getElem?_cons_succ, Option.some.injEq] at hoi; subst hoi; go_simp; try with_reducible rfl
  simp only [Act.put, List.setIfInBounds_toArray, List.set_cons_zero, List.set_cons_succ]
  refine wpAnyW_one 16 (by kernel_rfl) (by kernel_rfl) ?_
  intro o ho K hK
  simp only [List.getElem?_toArray, List.getElem?_cons_zero, List.getElem?_cons_succ, Option.some.injEq] at ho
  subst ho
  go_simp
  refine ⟨trivial, CallsIn.mono (callsIn_wide.2 (lspan_any 2 3 _)) ?_⟩
  rintro e w16 ⟨rfl, hb1⟩
  have hH16 := hHeld.trans (hb1.mono hHeld.size)
  refine hK _ _ hH16 (fun _ => ?_)
  clear hK K
  try simp only [Act.put, List.setIfInBounds_toArray, List.set_cons_zero, List.set_cons_succ]
  refine wpAnyW_takeD 17 85 (v := ?_) (by kernel_rfl) (by kernel_rfl) (by kernel_rfl) (by kernel_rfl) (fun _ _ _ h => h) ?_ (by assumption) ?_
  rotate_left
  · intro oi hoi w hSw; (try dsimp only at hSw); simp only [List.getElem?_toArray, List.getElem?_cons_zero, List.getElem?_cons_succ, Option.some.injEq] at hoi; subst hoi; go_simp; try with_reducible rfl
  simp only [Act.put, List.setIfInBounds_toArray, List.set_cons_zero, List.set_cons_succ]
  refine wpAnyW_takeD 18 86 (v := ?_) (by kernel_rfl) (by kernel_rfl) (by kernel_rfl) (by kernel_rfl) (fun _ _ _ h => h) ?_ (by assumption) ?_
  rotate_left
  · intro oi hoi w hSw; (try dsimp only at hSw); simp only [List.getElem?_toArray, List.getElem?_cons_zero, List.getElem?_cons_succ, Option.some.injEq] at hoi; subst hoi; go_simp; try with_reducible rfl
  simp only [Act.put, List.setIfInBounds_toArray, List.set_cons_zero, List.set_cons_succ]
  refine wpAnyW_takeD 19 87 (v := ?_) (by kernel_rfl) (by kernel_rfl) (by kernel_rfl) (by kernel_rfl) (fun _ _ _ h => h) ?_ (by assumption) ?_
  rotate_left
  · intro oi hoi w hSw; (try dsimp only at hSw); simp only [List.getElem?_toArray, List.getElem?_cons_zero, List.getElem?_cons_succ, Option.some.injEq] at hoi; subst hoi; go_simp; try with_reducible rfl
  simp only [Act.put, List.setIfInBounds_toArray, List.set_cons_zero, List.set_cons_succ]
  refine wpAnyW_takeD 20 88 (v := ?_) (by kernel_rfl) (by kernel_rfl) (by kernel_rfl) (by kernel_rfl) (fun _ _ _ h => h) ?_ (by assumption) ?_
  rotate_left
  · intro oi hoi w hSw; (try dsimp only at hSw); simp only [List.getElem?_toArray, List.getElem?_cons_zero, List.getElem?_cons_succ, Option.some.injEq] at hoi; subst hoi; go_simp; try with_reducible rfl
  simp only [Act.put, List.setIfInBounds_toArray, List.set_cons_zero, List.set_cons_succ]
  refine wpAnyW_one 21 (by kernel_rfl) (by kernel_rfl) ?_
  intro o ho K hK
  simp only [List.getElem?_toArray, List.getElem?_cons_zero, List.getElem?_cons_succ, Option.some.injEq] at ho
  subst ho
  go_simp
  refine ⟨trivial, CallsIn.mono (callsIn_wide.2 (lspan_any (-2) (-1) _)) ?_⟩
  rintro e w17 ⟨rfl, hb2⟩
  have hH17 := hH16.trans (hb2.mono hH16.size)
  refine hK _ _ hH17 (fun _ => ?_)
  clear hK K
  try simp only [Act.put, List.setIfInBounds_toArray, List.set_cons_zero, List.set_cons_succ]
  refine wpAnyW_takeD 22 90 (v := ?_) (by kernel_rfl) (by kernel_rfl) (by kernel_rfl) (by kernel_rfl) (fun _ _ _ h => h) ?_ (by assumption) ?_
  rotate_left
  · intro oi hoi w hSw; (try dsimp only at hSw); simp only [List.getElem?_toArray, List.getElem?_cons_zero, List.getElem?_cons_succ, Option.some.injEq] at hoi; subst hoi; go_simp; try with_reducible rfl
  simp only [Act.put, List.setIfInBounds_toArray, List.set_cons_zero, List.set_cons_succ]
  refine wpAnyW_takeD 23 91 (v := ?_) (by kernel_rfl) (by kernel_rfl) (by kernel_rfl) (by kernel_rfl) (fun _ _ _ h => h) ?_ (by assumption) ?_
  rotate_left
  · intro oi hoi w hSw; (try dsimp only at hSw); simp only [List.getElem?_toArray, List.getElem?_cons_zero, List.getElem?_cons_succ, Option.some.injEq] at hoi; subst hoi; go_simp; try with_reducible rfl
  simp only [Act.put, List.setIfInBounds_toArray, List.set_cons_zero, List.set_cons_succ]
  refine wpAnyW_takeD 24 92 (v := ?_) (by kernel_rfl) (by kernel_rfl) (by kernel_rfl) (by kernel_rfl) (fun _ _ _ h => h) ?_ (by assumption) ?_
  rotate_left
  · intro oi hoi w hSw; (try dsimp only at hSw); simp only [List.getElem?_toArray, List.getElem?_cons_zero, List.getElem?_cons_succ, Option.some.injEq] at hoi; subst hoi; go_simp; try with_reducible rfl
  simp only [Act.put, List.setIfInBounds_toArray, List.set_cons_zero, List.set_cons_succ]
  refine wpAnyW_takeD 25 93 (v := ?_) (by kernel_rfl) (by kernel_rfl) (by kernel_rfl) (by kernel_rfl) (fun _ _ _ h => h) ?_ (by assumption) ?_
  rotate_left
  · intro oi hoi w hSw; (try dsimp only at hSw); simp only [List.getElem?_toArray, List.getElem?_cons_zero, List.getElem?_cons_succ, Option.some.injEq] at hoi; subst hoi; go_simp; try with_reducible rfl
  simp only [Act.put, List.setIfInBounds_toArray, List.set_cons_zero, List.set_cons_succ]
  refine wpAnyW_takeD 26 94 (v := ?_) (by kernel_rfl) (by kernel_rfl) (by kernel_rfl) (by kernel_rfl) (fun _ _ _ h => h) ?_ (by assumption) ?_
  rotate_left
  · intro oi hoi w hSw; (try dsimp only at hSw); simp only [List.getElem?_toArray, List.getElem?_cons_zero, List.getElem?_cons_succ, Option.some.injEq] at hoi; subst hoi; go_simp; try with_reducible rfl
  simp only [Act.put, List.setIfInBounds_toArray, List.set_cons_zero, List.set_cons_succ]
  refine wpAnyW_takeD 27 95 (v := ?_) (by kernel_rfl) (by kernel_rfl) (by kernel_rfl) (by kernel_rfl) (fun _ _ _ h => h) ?_ (by assumption) ?_
  rotate_left
  · intro oi hoi w hSw; (try dsimp only at hSw); simp only [List.getElem?_toArray, List.getElem?_cons_zero, List.getElem?_cons_succ, Option.some.injEq] at hoi; subst hoi; go_simp; try with_reducible rfl
  simp only [Act.put, List.setIfInBounds_toArray, List.set_cons_zero, List.set_cons_succ]
  refine wpAnyW_takeD 28 96 (v := ?_) (by kernel_rfl) (by kernel_rfl) (by kernel_rfl) (by kernel_rfl) (fun _ _ _ h => h) ?_ (by assumption) ?_
  rotate_left
  · intro oi hoi w hSw; (try dsimp only at hSw); simp only [List.getElem?_toArray, List.getElem?_cons_zero, List.getElem?_cons_succ, Option.some.injEq] at hoi; subst hoi; go_simp; try with_reducible rfl
  simp only [Act.put, List.setIfInBounds_toArray, List.set_cons_zero, List.set_cons_succ]
  refine wpAnyW_takeD 29 97 (v := ?_) (by kernel_rfl) (by kernel_rfl) (by kernel_rfl) (by kernel_rfl) (fun _ _ _ h => h) ?_ (by assumption) ?_
  rotate_left
  · intro oi hoi w hSw; (try dsimp only at hSw); simp only [List.getElem?_toArray, List.getElem?_cons_zero, List.getElem?_cons_succ, Option.some.injEq] at hoi; subst hoi; go_simp; try with_reducible rfl
  simp only [Act.put, List.setIfInBounds_toArray, List.set_cons_zero, List.set_cons_succ]
  refine wpAnyW_takeD 30 98 (v := ?_) (by kernel_rfl) (by kernel_rfl) (by kernel_rfl) (by kernel_rfl) (fun _ _ _ h => h) ?_ (by assumption) ?_
  rotate_left
  · intro oi hoi w hSw; (try dsimp only at hSw); simp only [List.getElem?_toArray, List.getElem?_cons_zero, List.getElem?_cons_succ, Option.some.injEq] at hoi; subst hoi; go_simp; try with_reducible rfl
  simp only [Act.put, List.setIfInBounds_toArray, List.set_cons_zero, List.set_cons_succ]
  refine wpAnyW_takeD 31 99 (v := ?_) (by kernel_rfl) (by kernel_rfl) (by kernel_rfl) (by kernel_rfl) (fun _ _ _ h => h) ?_ (by assumption) ?_
  rotate_left
  · intro oi hoi w hSw; (try dsimp only at hSw); simp only [List.getElem?_toArray, List.getElem?_cons_zero, List.getElem?_cons_succ, Option.some.injEq] at hoi; subst hoi; go_simp; try with_reducible rfl
  simp only [Act.put, List.setIfInBounds_toArray, List.set_cons_zero, List.set_cons_succ]
  refine wpAnyW_takeD 32 100 (v := ?_) (by kernel_rfl) (by kernel_rfl) (by kernel_rfl) (by kernel_rfl) (fun _ _ _ h => h) ?_ (by assumption) ?_
  rotate_left
  · intro oi hoi w hSw; (try dsimp only at hSw); simp only [List.getElem?_toArray, List.getElem?_cons_zero, List.getElem?_cons_succ, Option.some.injEq] at hoi; subst hoi; go_simp; try with_reducible rfl
  simp only [Act.put, List.setIfInBounds_toArray, List.set_cons_zero, List.set_cons_succ]
  refine wpAnyW_takeD 33 101 (v := ?_) (by kernel_rfl) (by kernel_rfl) (by kernel_rfl) (by kernel_rfl) (fun _ _ _ h => h) ?_ (by assumption) ?_
  rotate_left
  · intro oi hoi w hSw; (try dsimp only at hSw); simp only [List.getElem?_toArray, List.getElem?_cons_zero, List.getElem?_cons_succ, Option.some.injEq] at hoi; subst hoi; go_simp; try with_reducible rfl
  simp only [Act.put, List.setIfInBounds_toArray, List.set_cons_zero, List.set_cons_succ]
  refine wpAnyW_takeD 34 102 (v := ?_) (by kernel_rfl) (by kernel_rfl) (by kernel_rfl) (by kernel_rfl) (fun _ _ _ h => h) ?_ (by assumption) ?_
  rotate_left
  · intro oi hoi w hSw; (try dsimp only at hSw); simp only [List.getElem?_toArray, List.getElem?_cons_zero, List.getElem?_cons_succ, Option.some.injEq] at hoi; subst hoi; go_simp; try with_reducible rfl
  simp only [Act.put, List.setIfInBounds_toArray, List.set_cons_zero, List.set_cons_succ]
  refine wpAnyW_takeD 35 103 (v := ?_) (by kernel_rfl) (by kernel_rfl) (by kernel_rfl) (by kernel_rfl) (fun _ _ _ h => h) ?_ (by assumption) ?_
  rotate_left
  · intro oi hoi w hSw; (try dsimp only at hSw); simp only [List.getElem?_toArray, List.getElem?_cons_zero, List.getElem?_cons_succ, Option.some.injEq] at hoi; subst hoi; go_simp; try with_reducible rfl
  simp only [Act.put, List.setIfInBounds_toArray, List.set_cons_zero, List.set_cons_succ]
  refine wpAnyW_takeD 36 104 (v := ?_) (by kernel_rfl) (by kernel_rfl) (by kernel_rfl) (by kernel_rfl) (fun _ _ _ h => h) ?_ (by assumption) ?_
  rotate_left
  · intro oi hoi w hSw; (try dsimp only at hSw); simp only [List.getElem?_toArray, List.getElem?_cons_zero, List.getElem?_cons_succ, Option.some.injEq] at hoi; subst hoi; go_simp; try with_reducible rfl
  simp only [Act.put, List.setIfInBounds_toArray, List.set_cons_zero, List.set_cons_succ]
  refine wpAnyW_takeD 37 105 (v := ?_) (by kernel_rfl) (by kernel_rfl) (by kernel_rfl) (by kernel_rfl) (fun _ _ _ h => h) ?_ (by assumption) ?_
  rotate_left
  · intro oi hoi w hSw; (try dsimp only at hSw); simp only [List.getElem?_toArray, List.getElem?_cons_zero, List.getElem?_cons_succ, Option.some.injEq] at hoi; subst hoi; go_simp; try with_reducible rfl
  simp only [Act.put, List.setIfInBounds_toArray, List.set_cons_zero, List.set_cons_succ]
  refine wpAnyW_takeD 38 106 (v := ?_) (by kernel_rfl) (by kernel_rfl) (by kernel_rfl) (by kernel_rfl) (fun _ _ _ h => h) ?_ (by assumption) ?_
  rotate_left
  · intro oi hoi w hSw; (try dsimp only at hSw); simp only [List.getElem?_toArray, List.getElem?_cons_zero, List.getElem?_cons_succ, Option.some.injEq] at hoi; subst hoi; go_simp; try with_reducible rfl
  simp only [Act.put, List.setIfInBounds_toArray, List.set_cons_zero, List.set_cons_succ]
  refine wpAnyW_takeD 39 107 (v := ?_) (by kernel_rfl) (by kernel_rfl) (by kernel_rfl) (by kernel_rfl) (fun _ _ _ h => h) ?_ (by assumption) ?_
  rotate_left
  · intro oi hoi w hSw; (try dsimp only at hSw); simp only [List.getElem?_toArray, List.getElem?_cons_zero, List.getElem?_cons_succ, Option.some.injEq] at hoi; subst hoi; go_simp; try with_reducible rfl
  simp only [Act.put, List.setIfInBounds_toArray, List.set_cons_zero, List.set_cons_succ]
  refine wpAnyW_takeD 40 108 (v := ?_) (by kernel_rfl) (by kernel_rfl) (by kernel_rfl) (by kernel_rfl) (fun _ _ _ h => h) ?_ (by assumption) ?_
  rotate_left
  · intro oi hoi w hSw; (try dsimp only at hSw); simp only [List.getElem?_toArray, List.getElem?_cons_zero, List.getElem?_cons_succ, Option.some.injEq] at hoi; subst hoi; go_simp; try with_reducible rfl
  simp only [Act.put, List.setIfInBounds_toArray, List.set_cons_zero, List.set_cons_succ]
  refine wpAnyW_takeD 41 109 (v := ?_) (by kernel_rfl) (by kernel_rfl) (by kernel_rfl) (by kernel_rfl) (fun _ _ _ h => h) ?_ (by assumption) ?_
  rotate_left
  · intro oi hoi w hSw; (try dsimp only at hSw); simp only [List.getElem?_toArray, List.getElem?_cons_zero, List.getElem?_cons_succ, Option.some.injEq] at hoi; subst hoi; go_simp; try with_reducible rfl
  simp only [Act.put, List.setIfInBounds_toArray, List.set_cons_zero, List.set_cons_succ]
  refine wpAnyW_takeD 42 110 (v := ?_) (by kernel_rfl) (by kernel_rfl) (by kernel_rfl) (by kernel_rfl) (fun _ _ _ h => h) ?_ (by assumption) ?_
  rotate_left
  · intro oi hoi w hSw; (try dsimp only at hSw); simp only [List.getElem?_toArray, List.getElem?_cons_zero, List.getElem?_cons_succ, Option.some.injEq] at hoi; subst hoi; go_simp; try with_reducible rfl
  simp only [Act.put, List.setIfInBounds_toArray, List.set_cons_zero, List.set_cons_succ]
  refine wpAnyW_takeD 43 111 (v := ?_) (by kernel_rfl) (by kernel_rfl) (by kernel_rfl) (by kernel_rfl) (fun _ _ _ h => h) ?_ (by assumption) ?_
  rotate_left
  · intro oi hoi w hSw; (try dsimp only at hSw); simp only [List.getElem?_toArray, List.getElem?_cons_zero, List.getElem?_cons_succ, Option.some.injEq] at hoi; subst hoi; go_simp; try with_reducible rfl
  simp only [Act.put, List.setIfInBounds_toArray, List.set_cons_zero, List.set_cons_succ]
  refine wpAnyW_takeD 44 112 (v := ?_) (by kernel_rfl) (by kernel_rfl) (by kernel_rfl) (by kernel_rfl) (fun _ _ _ h => h) ?_ (by assumption) ?_
  rotate_left
  · intro oi hoi w hSw; (try dsimp only at hSw); simp only [List.getElem?_toArray, List.getElem?_cons_zero, List.getElem?_cons_succ, Option.some.injEq] at hoi; subst hoi; go_simp; try with_reducible rfl
  simp only [Act.put, List.setIfInBounds_toArray, List.set_cons_zero, List.set_cons_succ]
  refine wpAnyW_takeD 45 113 (v := ?_) (by kernel_rfl) (by kernel_rfl) (by kernel_rfl) (by kernel_rfl) (fun _ _ _ h => h) ?_ (by assumption) ?_
  rotate_left
  · intro oi hoi w hSw; (try dsimp only at hSw); simp only [List.getElem?_toArray, List.getElem?_cons_zero, List.getElem?_cons_succ, Option.some.injEq] at hoi; subst hoi; go_simp; try with_reducible rfl
  simp only [Act.put, List.setIfInBounds_toArray, List.set_cons_zero, List.set_cons_succ]
  refine wpAnyW_takeD 46 114 (v := ?_) (by kernel_rfl) (by kernel_rfl) (by kernel_rfl) (by kernel_rfl) (fun _ _ _ h => h) ?_ (by assumption) ?_
  rotate_left
  · intro oi hoi w hSw; (try dsimp only at hSw); simp only [List.getElem?_toArray, List.getElem?_cons_zero, List.getElem?_cons_succ, Option.some.injEq] at hoi; subst hoi; go_simp; try with_reducible rfl
  simp only [Act.put, List.setIfInBounds_toArray, List.set_cons_zero, List.set_cons_succ]
  refine wpAnyW_takeD 47 115 (v := ?_) (by kernel_rfl) (by kernel_rfl) (by kernel_rfl) (by kernel_rfl) (fun _ _ _ h => h) ?_ (by assumption) ?_
  rotate_left
  · intro oi hoi w hSw; (try dsimp only at hSw); simp only [List.getElem?_toArray, List.getElem?_cons_zero, List.getElem?_cons_succ, Option.some.injEq] at hoi; subst hoi; go_simp; try with_reducible rfl
  simp only [Act.put, List.setIfInBounds_toArray, List.set_cons_zero, List.set_cons_succ]
  refine wpAnyW_takeD 48 116 (v := ?_) (by kernel_rfl) (by kernel_rfl) (by kernel_rfl) (by kernel_rfl) (fun _ _ _ h => h) ?_ (by assumption) ?_
  rotate_left
  · intro oi hoi w hSw; (try dsimp only at hSw); simp only [List.getElem?_toArray, List.getElem?_cons_zero, List.getElem?_cons_succ, Option.some.injEq] at hoi; subst hoi; go_simp; try with_reducible rfl
  simp only [Act.put, List.setIfInBounds_toArray, List.set_cons_zero, List.set_cons_succ]
  refine wpAnyW_takeD 49 117 (v := ?_) (by kernel_rfl) (by kernel_rfl) (by kernel_rfl) (by kernel_rfl) (fun _ _ _ h => h) ?_ (by assumption) ?_
  rotate_left
  · intro oi hoi w hSw; (try dsimp only at hSw); simp only [List.getElem?_toArray, List.getElem?_cons_zero, List.getElem?_cons_succ, Option.some.injEq] at hoi; subst hoi; go_simp; try with_reducible rfl
  simp only [Act.put, List.setIfInBounds_toArray, List.set_cons_zero, List.set_cons_succ]
  refine wpAnyW_takeD 50 118 (v := ?_) (by kernel_rfl) (by kernel_rfl) (by kernel_rfl) (by kernel_rfl) (fun _ _ _ h => h) ?_ (by assumption) ?_
  rotate_left
  · intro oi hoi w hSw; (try dsimp only at hSw); simp only [List.getElem?_toArray, List.getElem?_cons_zero, List.getElem?_cons_succ, Option.some.injEq] at hoi; subst hoi; go_simp; try with_reducible rfl
  simp only [Act.put, List.setIfInBounds_toArray, List.set_cons_zero, List.set_cons_succ]
  refine wpAnyW_takeD 51 119 (v := ?_) (by kernel_rfl) (by kernel_rfl) (by kernel_rfl) (by kernel_rfl) (fun _ _ _ h => h) ?_ (by assumption) ?_
  rotate_left
  · intro oi hoi w hSw; (try dsimp only at hSw); simp only [List.getElem?_toArray, List.getElem?_cons_zero, List.getElem?_cons_succ, Option.some.injEq] at hoi; subst hoi; go_simp; try with_reducible rfl
  simp only [Act.put, List.setIfInBounds_toArray, List.set_cons_zero, List.set_cons_succ]
  refine wpAnyW_done (by kernel_rfl) ?_ _
  dsimp only [onNormal]
  replace z5 := z5.later (hH17.block _ z5.lt)
  replace z7 := z7.trans (hH17.mono hz7)
  go_wp2_with fail
  have hbl := below_alloc w17 (.cells #[.int .i64 0, .int .i64 1, .int .i64 (-1)] 3)
  have hI2 : IntsAt (w17.alloc (.cells #[.int .i64 0, .int .i64 1, .int .i64 (-1)] 3)) w17.heap.size [0, 1, -1] := ⟨_, _, obj_new _ _, fun i hi => by
    match i, hi with
    | 0, _ => rfl
    | 1, _ => rfl
    | 2, _ => rfl⟩
  have hc := ints_any (some ⟨qb, 0, none⟩) (some ⟨w17.heap.size, 0, none⟩) cb 3 [0, 1, -1] [0, 1, -1] _ (z5.later (hbl.block _ z5.lt)).v hI2.v (by decide) (by decide)
  refine hc.mono ?_
  clear hc
  rintro e w18 ⟨he, hb3⟩
  have ht : (decide (([0, 1, -1] : List Int) = [0, 1, -1])) = true := by decide
  rw [ht] at he
  subst he
  go_wp2
  go_ret
  exact ⟨rfl, z7.trans ((hbl.mono z7.size).trans (hb3.mono (Nat.le_trans z7.size hbl.size)))⟩
end Go.Proofs.Ytjkegmjjhdmkiaa
