/- The document's answer: a border of which the stars of two sets alone are Sure. -/
import Derived.Test.YtjkegmjjhdmkiaaBU19
import Derived.Deep.RegionWith
namespace Go.Proofs.Ytjkegmjjhdmkiaa
open Go.RowKit Go.Shelf
set_option maxHeartbeats 1600000
set_option maxRecDepth 100000
set_option linter.unusedSimpArgs false

/-- Two operations can come up, and each is carried out. -/
theorem wpAnyW_two {P : Program} {n : Nat} {md : Region.Mode} {ops : Array Oper} {Q : Exit → Act → World → Prop} {S : World → Prop} (i j : Nat) {fuel : Nat} {listed : Array Bool} {a : Act} {w : World} (hr : Region.ready md ops listed = [i, j])
    (hg : (((ops[i]?).map fun o => Region.wanted o (yielded ops a.tmps)) = some true) ∧ (((ops[j]?).map fun o => Region.wanted o (yielded ops a.tmps)) = some true))
    (h1 : ∀ o, ops[i]? = some o → ∀ K : Act → World → Prop, (∀ a' w', S w' → (S w' → wpAnyW P n md ops Q S fuel (listed.setIfInBounds i true) a' w') → K a' w') → Oper.wpIn Fence.wide n P o a w K Q)
    (h2 : ∀ o, ops[j]? = some o → ∀ K : Act → World → Prop, (∀ a' w', S w' → (S w' → wpAnyW P n md ops Q S fuel (listed.setIfInBounds j true) a' w') → K a' w') → Oper.wpIn Fence.wide n P o a w K Q) :
    wpAnyW P n md ops Q S (fuel + 1) listed a w := by
  refine ⟨fun h0 => (by rw [hr] at h0; cases h0), ?_⟩
  intro k hk
  rw [hr, List.mem_cons, List.mem_singleton] at hk
  rcases hk with rfl | rfl
  · unfold wpOpIn
    cases ho : ops[k]? with
    | none => rw [ho] at hg; simp at hg
    | some o =>
      have hg1 := hg.1
      rw [ho] at hg1
      simp at hg1
      simp only [if_pos hg1]
      exact h1 o ho _ fun a' w' hS hk => ⟨hS, hk hS⟩
  · unfold wpOpIn
    cases ho : ops[k]? with
    | none => rw [ho] at hg; simp at hg
    | some o =>
      have hg1 := hg.2
      rw [ho] at hg1
      simp at hg1
      simp only [if_pos hg1]
      exact h2 o ho _ fun a' w' hS hk => ⟨hS, hk hS⟩

/-- One block is as it was. -/
def Far (q : Nat) (w w' : World) : Prop := w'.heap[q]? = w.heap[q]? ∧ w.heap.size ≤ w'.heap.size
theorem Far.refl (q : Nat) (w : World) : Far q w w := ⟨rfl, Nat.le_refl _⟩
theorem Far.set {q : Nat} {w w' : World} {a : Addr} {v : Value} (h : Far q w w') (hq : ¬ q = a.block) : Far q w (w'.setCell a v) :=
  ⟨(Below.heap_setCell _ _ _ _ hq).trans h.1, by simpa [World.setCell] using h.2⟩
theorem EdSl.moved {w w' : World} {q o : Nat} {l : List Ed} (h : EdSl w (some ⟨q, o, none⟩) l) (hf : Far q w w') : EdSl w' (some ⟨q, o, none⟩) l := fun k hk => by
  obtain ⟨b, o', e, hb, hx⟩ := h k hk
  cases e
  exact ⟨q, o, rfl, Nat.lt_of_lt_of_le hb hf.2, hx.same hf.1⟩

def onlyB (b : Bo) (s t : Nat) : Bo := ⟨b.e, b.n, onlyEds b.fs s, onlyEds b.ss t⟩

def OnlyPost (b : Bo) (s t : Nat) (w : World) (e : Ending) (w' : World) : Prop :=
  ∃ q1 q2 c1 c2, e = .returned (boV (onlyB b s t) (some ⟨q1, 0, none⟩) (some ⟨q2, 0, none⟩) c1 c2) ∧ BoArg w' (onlyB b s t) (some ⟨q1, 0, none⟩) (some ⟨q2, 0, none⟩) ∧ Below w.heap.size w w'

theorem only_any (b : Bo) (fa sa : Option Addr) (fc sc : Nat) (s t : Nat) (w : World) (hb : BoArg w b fa sa) (hlf : b.fs.length ≤ 6) (hls : b.ss.length ≤ 6) (hs : s < 4096) (ht : t < 4096) :
    Calls Try.prog 36 #[.agg #[.int .i64 b.e.lo, .int .i64 b.e.hi, .int .i64 b.n.lo, .int .i64 b.n.hi, .slice fa b.fs.length fc, .slice sa b.ss.length sc], .int .i64 s, .int .i64 t] w (OnlyPost b s t w) := by
  obtain ⟨hf, hs', _, _⟩ := hb
  go_enter Try.func36, Try.ntmps36
  go_upto_region 1 with fail

  obtain ⟨W0, hW0⟩ : ∃ W, ((w.alloc (.cells #[.int .i64 b.e.lo, .int .i64 b.e.hi, .int .i64 b.n.lo, .int .i64 b.n.hi, .slice fa b.fs.length fc, .slice sa b.ss.length sc] 26)).alloc (.cells #[.int .i64 0, .int .i64 0, .int .i64 0, .int .i64 0, .slice none 0 0, .slice none 0 0] 26)) = W := ⟨_, rfl⟩
  rw [hW0]
  try simp only [Nat.add_assoc, Nat.reduceAdd]
  have hst_W0 : Steps (fun _ => False) w W0 := by rw [← hW0]; exact (Steps.alloc _ w _).trans (Steps.alloc (fun _ => False) _ _) (fun _ _ h => h)
  have hz_W0 : W0.heap.size = w.heap.size + 2 := by rw [← hW0]; simp
  have g0_W0 : W0.heap[w.heap.size]? = some (.cells #[.int .i64 b.e.lo, .int .i64 b.e.hi, .int .i64 b.n.lo, .int .i64 b.n.hi, .slice fa b.fs.length fc, .slice sa b.ss.length sc] 26) := by rw [← hW0]; simp only [alloc_get, World.size_alloc]; repeat (first | exact if_pos trivial | exact if_pos (by omega) | rw [if_neg (by omega)])
  have g1_W0 : W0.heap[w.heap.size + 1]? = some (.cells #[.int .i64 0, .int .i64 0, .int .i64 0, .int .i64 0, .slice none 0 0, .slice none 0 0] 26) := by rw [← hW0]; simp only [alloc_get, World.size_alloc]; repeat (first | exact if_pos trivial | exact if_pos (by omega) | rw [if_neg (by omega)])
  clear hW0
  have hb0 : Below w.heap.size w W0 := hst_W0.below (Nat.le_refl _) (fun _ _ h => h)
  have hfW : EdSl W0.drew fa b.fs := hf.below (hb0.trans ((below_drew W0).mono hb0.size)) (Nat.le_refl _)
  have hsW : EdSl W0.drew sa b.ss := hs'.below (hb0.trans ((below_drew W0).mono hb0.size)) (Nat.le_refl _)
  have c4 := cell_block g0_W0 4
  have c5 := cell_block g0_W0 5
  simp only [List.getElem?_toArray, List.getElem?_cons_zero, List.getElem?_cons_succ] at c4 c5
  have c5d := cell_later (below_drew W0) c5
  have hz : W0.drew.heap.size = w.heap.size + 2 := hz_W0
  have g0 := obj_later (below_drew W0) g0_W0
  have g1 := obj_later (below_drew W0) g1_W0
  replace hb0 := hb0.trans ((below_drew W0).mono hb0.size)
  clear g0_W0 g1_W0 hst_W0 hz_W0
  refine (wpIn_wide (n := 1)).1 ?_
  refine wpIn_region_Wn (S := fun W => Below w.heap.size w W) 12 (by kernel_rfl) (by kernel_rfl) (by exact hb0) (fun hHeld => ?_)
  refine wpAnyW_takeD 0 7 (v := ?_) (by kernel_rfl) (by kernel_rfl) (by kernel_rfl) (by kernel_rfl) (fun _ _ _ h => h) ?_ (by assumption) ?_
  rotate_left
  · intro oi hoi w hSw; (try dsimp only at hSw); simp only [List.getElem?_toArray, List.getElem?_cons_zero, List.getElem?_cons_succ, Option.some.injEq] at hoi; subst hoi; go_simp; try with_reducible rfl
  simp only [Act.put, List.setIfInBounds_toArray, List.set_cons_zero, List.set_cons_succ]
  refine wpAnyW_takeD 2 9 (v := ?_) (by kernel_rfl) (by kernel_rfl) (by kernel_rfl) (by kernel_rfl) (fun _ _ _ h => h) ?_ (by assumption) ?_
  rotate_left
  · intro oi hoi w hSw; (try dsimp only at hSw); simp only [List.getElem?_toArray, List.getElem?_cons_zero, List.getElem?_cons_succ, Option.some.injEq] at hoi; subst hoi; go_simp; try with_reducible rfl
  simp only [Act.put, List.setIfInBounds_toArray, List.set_cons_zero, List.set_cons_succ]
  refine wpAnyW_takeD 4 11 (v := ?_) (by kernel_rfl) (by kernel_rfl) (by kernel_rfl) (by kernel_rfl) (fun _ _ _ h => h) ?_ (by assumption) ?_
  rotate_left
  · intro oi hoi w hSw; (try dsimp only at hSw); simp only [List.getElem?_toArray, List.getElem?_cons_zero, List.getElem?_cons_succ, Option.some.injEq] at hoi; subst hoi; go_simp; try with_reducible rfl
  simp only [Act.put, List.setIfInBounds_toArray, List.set_cons_zero, List.set_cons_succ]
  refine wpAnyW_takeD 6 13 (v := ?_) (by kernel_rfl) (by kernel_rfl) (by kernel_rfl) (by kernel_rfl) (fun _ _ _ h => h) ?_ (by assumption) ?_
  rotate_left
  · intro oi hoi w hSw; (try dsimp only at hSw); simp only [List.getElem?_toArray, List.getElem?_cons_zero, List.getElem?_cons_succ, Option.some.injEq] at hoi; subst hoi; go_simp; try with_reducible rfl
  simp only [Act.put, List.setIfInBounds_toArray, List.set_cons_zero, List.set_cons_succ]
  refine wpAnyW_two 1 5 (by kernel_rfl) ⟨by kernel_rfl, by kernel_rfl⟩ ?_ ?_
  · intro o ho K hK
    simp only [List.getElem?_toArray, List.getElem?_cons_zero, List.getElem?_cons_succ, Option.some.injEq] at ho
    subst ho
    go_simp
    refine hK _ _ hHeld (fun _ => ?_)
    clear hK K
    try simp only [Act.put, List.setIfInBounds_toArray, List.set_cons_zero, List.set_cons_succ]
    refine wpAnyW_two 3 5 (by kernel_rfl) ⟨by kernel_rfl, by kernel_rfl⟩ ?_ ?_
    · intro o ho K hK
      simp only [List.getElem?_toArray, List.getElem?_cons_zero, List.getElem?_cons_succ, Option.some.injEq] at ho
      subst ho
      go_simp
      refine ⟨trivial, CallsIn.mono (callsIn_wide.2 (sure_any fa fc b.fs s _ hlf hs hfW)) ?_⟩
      rintro e w1 ⟨q1, k1, rfl, hq1, hE1, hb1⟩
      have hH1 := hHeld.trans (hb1.mono hHeld.size)
      refine hK _ _ hH1 (fun _ => ?_)
      clear hK K
      try simp only [Act.put, List.setIfInBounds_toArray, List.set_cons_zero, List.set_cons_succ]
      have d5 := cell_later hb1 c5d
      refine wpAnyW_one 5 (by kernel_rfl) (by kernel_rfl) ?_
      intro o ho K hK
      simp only [List.getElem?_toArray, List.getElem?_cons_zero, List.getElem?_cons_succ, Option.some.injEq] at ho
      subst ho
      go_simp
      refine hK _ _ hH1 (fun _ => ?_)
      clear hK K
      try simp only [Act.put, List.setIfInBounds_toArray, List.set_cons_zero, List.set_cons_succ]
      refine wpAnyW_takeD 8 15 (v := ?_) (by kernel_rfl) (by kernel_rfl) (by kernel_rfl) (by kernel_rfl) (fun _ _ _ h => h) ?_ (by assumption) ?_
      rotate_left
      · intro oi hoi w hSw; (try dsimp only at hSw); simp only [List.getElem?_toArray, List.getElem?_cons_zero, List.getElem?_cons_succ, Option.some.injEq] at hoi; subst hoi; go_simp; try with_reducible rfl
      simp only [Act.put, List.setIfInBounds_toArray, List.set_cons_zero, List.set_cons_succ]
      refine wpAnyW_one 7 (by kernel_rfl) (by kernel_rfl) ?_
      intro o ho K hK
      simp only [List.getElem?_toArray, List.getElem?_cons_zero, List.getElem?_cons_succ, Option.some.injEq] at ho
      subst ho
      go_simp
      refine ⟨trivial, CallsIn.mono (callsIn_wide.2 (sure_any sa sc b.ss t _ hls ht (hsW.below hb1 (Nat.le_refl _)))) ?_⟩
      rintro e w2 ⟨q2, k2, rfl, hq2, hE2, hb2⟩
      have hH2 := hH1.trans (hb2.mono hH1.size)
      refine hK _ _ hH2 (fun _ => ?_)
      clear hK K
      try simp only [Act.put, List.setIfInBounds_toArray, List.set_cons_zero, List.set_cons_succ]
      have hw0 : w.heap.size ≤ w.heap.size := Nat.le_refl _
      have f0 := obj_later hb2 (obj_later hb1 g0)
      have f1 := obj_later hb2 (obj_later hb1 g1)
      have hfz := frozen_block f0 4
      have hfy := frozen_block f0 5
      have e0 := cell_block f0 0
      have e1 := cell_block f0 1
      have e2 := cell_block f0 2
      have e3 := cell_block f0 3
      have e4 := cell_block f0 4
      have e5 := cell_block f0 5
      simp only [List.getElem?_toArray, List.getElem?_cons_zero, List.getElem?_cons_succ] at e0 e1 e2 e3 e4 e5
      refine wpAnyW_one 9 (by kernel_rfl) (by kernel_rfl) ?_
      intro o ho K hK
      simp only [List.getElem?_toArray, List.getElem?_cons_zero, List.getElem?_cons_succ, Option.some.injEq] at ho
      subst ho
      go_simp
      refine hK _ _ (hH2.setCell hw0 _) (fun _ => ?_)
      clear hK K
      try simp only [Act.put, List.setIfInBounds_toArray, List.set_cons_zero, List.set_cons_succ]
      refine wpAnyW_takeD 10 16 (v := ?_) (by kernel_rfl) (by kernel_rfl) (by kernel_rfl) (by kernel_rfl) (fun _ _ _ h => h) ?_ (by assumption) ?_
      rotate_left
      · intro oi hoi w hSw; (try dsimp only at hSw); simp only [List.getElem?_toArray, List.getElem?_cons_zero, List.getElem?_cons_succ, Option.some.injEq] at hoi; subst hoi; go_simp; try with_reducible rfl
      simp only [Act.put, List.setIfInBounds_toArray, List.set_cons_zero, List.set_cons_succ]
      refine wpAnyW_one 11 (by kernel_rfl) (by kernel_rfl) ?_
      intro o ho K hK
      simp only [List.getElem?_toArray, List.getElem?_cons_zero, List.getElem?_cons_succ, Option.some.injEq] at ho
      subst ho
      go_simp
      refine hK _ _ ((hH2.setCell hw0 _).setCell hw0 _) (fun _ => ?_)
      clear hK K
      try simp only [Act.put, List.setIfInBounds_toArray, List.set_cons_zero, List.set_cons_succ]
      refine wpAnyW_done (by kernel_rfl) ?_ _
      dsimp only [onNormal]
      have r0 := cell_block f1 0
      have r1 := cell_block f1 1
      have r2 := cell_block f1 2
      have r3 := cell_block f1 3
      have r4 := cell_block f1 4
      have r5 := cell_block f1 5
      simp only [List.getElem?_toArray, List.getElem?_cons_zero, List.getElem?_cons_succ] at r0 r1 r2 r3 r4 r5
      have j0 := frozen_block f1 0
      have j1 := frozen_block f1 1
      have j2 := frozen_block f1 2
      have j3 := frozen_block f1 3
      have j4 := frozen_block f1 4
      have j5 := frozen_block f1 5
      clear f0 f1
      go_wp2
      have hz1 := hb1.size
      have hz2 := hb2.size
      have hq1' := (hE1.below hb2 (Nat.le_refl _))
      refine bodyPost_ret (v := boV (onlyB b s t) (some ⟨q1, 0, none⟩) (some ⟨q2, 0, none⟩) k1 k2) (by simp [results, Try.results36, go_sem, boV, onlyB, onlyEds_length, r0, r1, r2, r3, r4, r5]) rfl ⟨q1, q2, k1, k2, rfl, ⟨hq1'.moved ?_, hE2.moved ?_, by simp only [onlyB, onlyEds_length]; omega, by simp only [onlyB, onlyEds_length]; omega⟩, ?_⟩
      · iterate 8 refine Far.set ?_ (by dsimp only; omega)
        exact Far.refl _ _
      · iterate 8 refine Far.set ?_ (by dsimp only; omega)
        exact Far.refl _ _
      · iterate 8 refine Below.setCell ?_ (by dsimp only; omega) _
        exact hH2
    · intro o ho K hK
      simp only [List.getElem?_toArray, List.getElem?_cons_zero, List.getElem?_cons_succ, Option.some.injEq] at ho
      subst ho
      go_simp
      refine hK _ _ hHeld (fun _ => ?_)
      clear hK K
      try simp only [Act.put, List.setIfInBounds_toArray, List.set_cons_zero, List.set_cons_succ]
      refine wpAnyW_one 3 (by kernel_rfl) (by kernel_rfl) ?_
      intro o ho K hK
      simp only [List.getElem?_toArray, List.getElem?_cons_zero, List.getElem?_cons_succ, Option.some.injEq] at ho
      subst ho
      go_simp
      refine ⟨trivial, CallsIn.mono (callsIn_wide.2 (sure_any fa fc b.fs s _ hlf hs hfW)) ?_⟩
      rintro e w1 ⟨q1, k1, rfl, hq1, hE1, hb1⟩
      have hH1 := hHeld.trans (hb1.mono hHeld.size)
      refine hK _ _ hH1 (fun _ => ?_)
      clear hK K
      try simp only [Act.put, List.setIfInBounds_toArray, List.set_cons_zero, List.set_cons_succ]
      have d5 := cell_later hb1 c5d
      refine wpAnyW_takeD 8 15 (v := ?_) (by kernel_rfl) (by kernel_rfl) (by kernel_rfl) (by kernel_rfl) (fun _ _ _ h => h) ?_ (by assumption) ?_
      rotate_left
      · intro oi hoi w hSw; (try dsimp only at hSw); simp only [List.getElem?_toArray, List.getElem?_cons_zero, List.getElem?_cons_succ, Option.some.injEq] at hoi; subst hoi; go_simp; try with_reducible rfl
      simp only [Act.put, List.setIfInBounds_toArray, List.set_cons_zero, List.set_cons_succ]
      refine wpAnyW_one 7 (by kernel_rfl) (by kernel_rfl) ?_
      intro o ho K hK
      simp only [List.getElem?_toArray, List.getElem?_cons_zero, List.getElem?_cons_succ, Option.some.injEq] at ho
      subst ho
      go_simp
      refine ⟨trivial, CallsIn.mono (callsIn_wide.2 (sure_any sa sc b.ss t _ hls ht (hsW.below hb1 (Nat.le_refl _)))) ?_⟩
      rintro e w2 ⟨q2, k2, rfl, hq2, hE2, hb2⟩
      have hH2 := hH1.trans (hb2.mono hH1.size)
      refine hK _ _ hH2 (fun _ => ?_)
      clear hK K
      try simp only [Act.put, List.setIfInBounds_toArray, List.set_cons_zero, List.set_cons_succ]
      have hw0 : w.heap.size ≤ w.heap.size := Nat.le_refl _
      have f0 := obj_later hb2 (obj_later hb1 g0)
      have f1 := obj_later hb2 (obj_later hb1 g1)
      have hfz := frozen_block f0 4
      have hfy := frozen_block f0 5
      have e0 := cell_block f0 0
      have e1 := cell_block f0 1
      have e2 := cell_block f0 2
      have e3 := cell_block f0 3
      have e4 := cell_block f0 4
      have e5 := cell_block f0 5
      simp only [List.getElem?_toArray, List.getElem?_cons_zero, List.getElem?_cons_succ] at e0 e1 e2 e3 e4 e5
      refine wpAnyW_one 9 (by kernel_rfl) (by kernel_rfl) ?_
      intro o ho K hK
      simp only [List.getElem?_toArray, List.getElem?_cons_zero, List.getElem?_cons_succ, Option.some.injEq] at ho
      subst ho
      go_simp
      refine hK _ _ (hH2.setCell hw0 _) (fun _ => ?_)
      clear hK K
      try simp only [Act.put, List.setIfInBounds_toArray, List.set_cons_zero, List.set_cons_succ]
      refine wpAnyW_takeD 10 16 (v := ?_) (by kernel_rfl) (by kernel_rfl) (by kernel_rfl) (by kernel_rfl) (fun _ _ _ h => h) ?_ (by assumption) ?_
      rotate_left
      · intro oi hoi w hSw; (try dsimp only at hSw); simp only [List.getElem?_toArray, List.getElem?_cons_zero, List.getElem?_cons_succ, Option.some.injEq] at hoi; subst hoi; go_simp; try with_reducible rfl
      simp only [Act.put, List.setIfInBounds_toArray, List.set_cons_zero, List.set_cons_succ]
      refine wpAnyW_one 11 (by kernel_rfl) (by kernel_rfl) ?_
      intro o ho K hK
      simp only [List.getElem?_toArray, List.getElem?_cons_zero, List.getElem?_cons_succ, Option.some.injEq] at ho
      subst ho
      go_simp
      refine hK _ _ ((hH2.setCell hw0 _).setCell hw0 _) (fun _ => ?_)
      clear hK K
      try simp only [Act.put, List.setIfInBounds_toArray, List.set_cons_zero, List.set_cons_succ]
      refine wpAnyW_done (by kernel_rfl) ?_ _
      dsimp only [onNormal]
      have r0 := cell_block f1 0
      have r1 := cell_block f1 1
      have r2 := cell_block f1 2
      have r3 := cell_block f1 3
      have r4 := cell_block f1 4
      have r5 := cell_block f1 5
      simp only [List.getElem?_toArray, List.getElem?_cons_zero, List.getElem?_cons_succ] at r0 r1 r2 r3 r4 r5
      have j0 := frozen_block f1 0
      have j1 := frozen_block f1 1
      have j2 := frozen_block f1 2
      have j3 := frozen_block f1 3
      have j4 := frozen_block f1 4
      have j5 := frozen_block f1 5
      clear f0 f1
      go_wp2
      have hz1 := hb1.size
      have hz2 := hb2.size
      have hq1' := (hE1.below hb2 (Nat.le_refl _))
      refine bodyPost_ret (v := boV (onlyB b s t) (some ⟨q1, 0, none⟩) (some ⟨q2, 0, none⟩) k1 k2) (by simp [results, Try.results36, go_sem, boV, onlyB, onlyEds_length, r0, r1, r2, r3, r4, r5]) rfl ⟨q1, q2, k1, k2, rfl, ⟨hq1'.moved ?_, hE2.moved ?_, by simp only [onlyB, onlyEds_length]; omega, by simp only [onlyB, onlyEds_length]; omega⟩, ?_⟩
      · iterate 8 refine Far.set ?_ (by dsimp only; omega)
        exact Far.refl _ _
      · iterate 8 refine Far.set ?_ (by dsimp only; omega)
        exact Far.refl _ _
      · iterate 8 refine Below.setCell ?_ (by dsimp only; omega) _
        exact hH2
  · intro o ho K hK
    simp only [List.getElem?_toArray, List.getElem?_cons_zero, List.getElem?_cons_succ, Option.some.injEq] at ho
    subst ho
    go_simp
    refine hK _ _ hHeld (fun _ => ?_)
    clear hK K
    try simp only [Act.put, List.setIfInBounds_toArray, List.set_cons_zero, List.set_cons_succ]
    refine wpAnyW_one 1 (by kernel_rfl) (by kernel_rfl) ?_
    intro o ho K hK
    simp only [List.getElem?_toArray, List.getElem?_cons_zero, List.getElem?_cons_succ, Option.some.injEq] at ho
    subst ho
    go_simp
    refine hK _ _ hHeld (fun _ => ?_)
    clear hK K
    try simp only [Act.put, List.setIfInBounds_toArray, List.set_cons_zero, List.set_cons_succ]
    refine wpAnyW_one 3 (by kernel_rfl) (by kernel_rfl) ?_
    intro o ho K hK
    simp only [List.getElem?_toArray, List.getElem?_cons_zero, List.getElem?_cons_succ, Option.some.injEq] at ho
    subst ho
    go_simp
    refine ⟨trivial, CallsIn.mono (callsIn_wide.2 (sure_any fa fc b.fs s _ hlf hs hfW)) ?_⟩
    rintro e w1 ⟨q1, k1, rfl, hq1, hE1, hb1⟩
    have hH1 := hHeld.trans (hb1.mono hHeld.size)
    refine hK _ _ hH1 (fun _ => ?_)
    clear hK K
    try simp only [Act.put, List.setIfInBounds_toArray, List.set_cons_zero, List.set_cons_succ]
    have d5 := cell_later hb1 c5d
    refine wpAnyW_takeD 8 15 (v := ?_) (by kernel_rfl) (by kernel_rfl) (by kernel_rfl) (by kernel_rfl) (fun _ _ _ h => h) ?_ (by assumption) ?_
    rotate_left
    · intro oi hoi w hSw; (try dsimp only at hSw); simp only [List.getElem?_toArray, List.getElem?_cons_zero, List.getElem?_cons_succ, Option.some.injEq] at hoi; subst hoi; go_simp; try with_reducible rfl
    simp only [Act.put, List.setIfInBounds_toArray, List.set_cons_zero, List.set_cons_succ]
    refine wpAnyW_one 7 (by kernel_rfl) (by kernel_rfl) ?_
    intro o ho K hK
    simp only [List.getElem?_toArray, List.getElem?_cons_zero, List.getElem?_cons_succ, Option.some.injEq] at ho
    subst ho
    go_simp
    refine ⟨trivial, CallsIn.mono (callsIn_wide.2 (sure_any sa sc b.ss t _ hls ht (hsW.below hb1 (Nat.le_refl _)))) ?_⟩
    rintro e w2 ⟨q2, k2, rfl, hq2, hE2, hb2⟩
    have hH2 := hH1.trans (hb2.mono hH1.size)
    refine hK _ _ hH2 (fun _ => ?_)
    clear hK K
    try simp only [Act.put, List.setIfInBounds_toArray, List.set_cons_zero, List.set_cons_succ]
    have hw0 : w.heap.size ≤ w.heap.size := Nat.le_refl _
    have f0 := obj_later hb2 (obj_later hb1 g0)
    have f1 := obj_later hb2 (obj_later hb1 g1)
    have hfz := frozen_block f0 4
    have hfy := frozen_block f0 5
    have e0 := cell_block f0 0
    have e1 := cell_block f0 1
    have e2 := cell_block f0 2
    have e3 := cell_block f0 3
    have e4 := cell_block f0 4
    have e5 := cell_block f0 5
    simp only [List.getElem?_toArray, List.getElem?_cons_zero, List.getElem?_cons_succ] at e0 e1 e2 e3 e4 e5
    refine wpAnyW_one 9 (by kernel_rfl) (by kernel_rfl) ?_
    intro o ho K hK
    simp only [List.getElem?_toArray, List.getElem?_cons_zero, List.getElem?_cons_succ, Option.some.injEq] at ho
    subst ho
    go_simp
    refine hK _ _ (hH2.setCell hw0 _) (fun _ => ?_)
    clear hK K
    try simp only [Act.put, List.setIfInBounds_toArray, List.set_cons_zero, List.set_cons_succ]
    refine wpAnyW_takeD 10 16 (v := ?_) (by kernel_rfl) (by kernel_rfl) (by kernel_rfl) (by kernel_rfl) (fun _ _ _ h => h) ?_ (by assumption) ?_
    rotate_left
    · intro oi hoi w hSw; (try dsimp only at hSw); simp only [List.getElem?_toArray, List.getElem?_cons_zero, List.getElem?_cons_succ, Option.some.injEq] at hoi; subst hoi; go_simp; try with_reducible rfl
    simp only [Act.put, List.setIfInBounds_toArray, List.set_cons_zero, List.set_cons_succ]
    refine wpAnyW_one 11 (by kernel_rfl) (by kernel_rfl) ?_
    intro o ho K hK
    simp only [List.getElem?_toArray, List.getElem?_cons_zero, List.getElem?_cons_succ, Option.some.injEq] at ho
    subst ho
    go_simp
    refine hK _ _ ((hH2.setCell hw0 _).setCell hw0 _) (fun _ => ?_)
    clear hK K
    try simp only [Act.put, List.setIfInBounds_toArray, List.set_cons_zero, List.set_cons_succ]
    refine wpAnyW_done (by kernel_rfl) ?_ _
    dsimp only [onNormal]
    have r0 := cell_block f1 0
    have r1 := cell_block f1 1
    have r2 := cell_block f1 2
    have r3 := cell_block f1 3
    have r4 := cell_block f1 4
    have r5 := cell_block f1 5
    simp only [List.getElem?_toArray, List.getElem?_cons_zero, List.getElem?_cons_succ] at r0 r1 r2 r3 r4 r5
    have j0 := frozen_block f1 0
    have j1 := frozen_block f1 1
    have j2 := frozen_block f1 2
    have j3 := frozen_block f1 3
    have j4 := frozen_block f1 4
    have j5 := frozen_block f1 5
    clear f0 f1
    go_wp2
    have hz1 := hb1.size
    have hz2 := hb2.size
    have hq1' := (hE1.below hb2 (Nat.le_refl _))
    refine bodyPost_ret (v := boV (onlyB b s t) (some ⟨q1, 0, none⟩) (some ⟨q2, 0, none⟩) k1 k2) (by simp [results, Try.results36, go_sem, boV, onlyB, onlyEds_length, r0, r1, r2, r3, r4, r5]) rfl ⟨q1, q2, k1, k2, rfl, ⟨hq1'.moved ?_, hE2.moved ?_, by simp only [onlyB, onlyEds_length]; omega, by simp only [onlyB, onlyEds_length]; omega⟩, ?_⟩
    · iterate 8 refine Far.set ?_ (by dsimp only; omega)
      exact Far.refl _ _
    · iterate 8 refine Far.set ?_ (by dsimp only; omega)
      exact Far.refl _ _
    · iterate 8 refine Below.setCell ?_ (by dsimp only; omega) _
      exact hH2
end Go.Proofs.Ytjkegmjjhdmkiaa
