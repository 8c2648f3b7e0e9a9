/- Package border: what gathers the stars of one pair. Package border: what gathers the stars that are in pairs. Package border: what gathers the best joining. -/
import Derived.Test.YtjkegmjjhdmkiaaBU13
import Derived.Test.YtjkegmjjhdmkiaaBU1
namespace Go.Proofs.Ytjkegmjjhdmkiaa
open Go.RowKit Go.Shelf
set_option maxHeartbeats 1600000
set_option maxRecDepth 100000
set_option linter.unusedSimpArgs false

theorem bJoins_mem {b : Bo} {f s : Nat} {z : Int × Int} {x : List Int} (h : x ∈ bJoins b f s z) : x.length = b.fs.length ∧ ∀ e ∈ x, e = -1 ∨ (0 ≤ e ∧ e < b.ss.length) := by
  obtain ⟨t, rfl, ht, hm⟩ := joins_mem _ _ _ h
  simpa using ⟨ht, hm⟩

theorem getD_get {l : List Int} {i : Nat} (h : i < l.length) : l.getD i (-1) = l[i] := by
  rw [List.getD_eq_getElem?_getD, List.getElem?_eq_getElem h]; rfl

structure PrAt (w : World) (g i : Nat) (ev so : Nat) (mn : Bool) : Prop where
  c0 : w.cell? ⟨g, 0, none⟩ = some (.int .i64 i)
  c1 : w.cell? ⟨g, 1, none⟩ = some (.int .u64 ev)
  c2 : w.cell? ⟨g, 2, none⟩ = some (.int .u64 so)
  c3 : w.cell? ⟨g, 3, none⟩ = some (.bool mn)
  fz : ∀ i, w.frozen? ⟨g, i, none⟩ = false
theorem PrAt.lt {w : World} {g i ev so : Nat} {mn : Bool} (h : PrAt w g i ev so mn) : g < w.heap.size := World.block_lt_of_cell? w _ h.c0
theorem PrAt.steps {w w' : World} {own : Nat → Prop} {g i ev so : Nat} {mn : Bool} (h : PrAt w g i ev so mn) (hs : Steps own w w') (hn : ¬ own g) : PrAt w' g i ev so mn := by
  have e := hs.block g h.lt hn
  exact ⟨(World.cell?_of_block e).trans h.c0, (World.cell?_of_block e).trans h.c1, (World.cell?_of_block e).trans h.c2, (World.cell?_of_block e).trans h.c3, fun i => (World.frozen?_of_block e).trans (h.fz i)⟩

theorem PrAt.set1 {w : World} {g i ev so : Nat} {mn : Bool} (h : PrAt w g i ev so mn) (v : Nat) : PrAt (w.setCell ⟨g, 1, none⟩ (.int .u64 v)) g i v so mn :=
  ⟨cell_far h.c0 (.inr (by omega)), cell_set _ h.c1, cell_far h.c2 (.inr (by omega)), cell_far h.c3 (.inr (by omega)), fun i => by rw [World.frozen?_setCell]; exact h.fz i⟩
theorem PrAt.set2 {w : World} {g i ev so : Nat} {mn : Bool} (h : PrAt w g i ev so mn) (v : Nat) : PrAt (w.setCell ⟨g, 2, none⟩ (.int .u64 v)) g i ev v mn :=
  ⟨cell_far h.c0 (.inr (by omega)), cell_far h.c1 (.inr (by omega)), cell_set _ h.c2, cell_far h.c3 (.inr (by omega)), fun i => by rw [World.frozen?_setCell]; exact h.fz i⟩
theorem PrAt.set3 {w : World} {g i ev so : Nat} {mn : Bool} (h : PrAt w g i ev so mn) (v : Bool) : PrAt (w.setCell ⟨g, 3, none⟩ (.bool v)) g i ev so v :=
  ⟨cell_far h.c0 (.inr (by omega)), cell_far h.c1 (.inr (by omega)), cell_far h.c2 (.inr (by omega)), cell_set _ h.c3, fun i => by rw [World.frozen?_setCell]; exact h.fz i⟩

/-- What 'pairs' holds. -/
structure PairsA (g i : Nat) (b : Bo) (f s : Nat) (own : Nat → Prop) (pre : List Joined) (W : World) : Prop where
  o : ¬ own g
  p : PrAt W g i (prsOf (pre.map fun z => bitOf (z.2.getD i (-1)))).every (prsOf (pre.map fun z => bitOf (z.2.getD i (-1)))).some (prsOf (pre.map fun z => bitOf (z.2.getD i (-1)))).many
  s : ∀ z ∈ pre, z.2 ∈ bJoins b f s z.1

theorem pairs_adder (N g i r : Nat) (b : Bo) (f s : Nat) (hok : b.ok = true) (hgr : g ≠ r) (hi : i < b.fs.length) : Adder 113 g r b f s N (PairsA g i b f s) where
  bides := by
    rintro own own' pre A C ⟨h1, h2, h3⟩ hs ho
    exact ⟨fun h => by rcases ho g h with h | h; exact h1 h; have := h2.lt; omega, h2.steps hs h1, h3⟩
  known := by
    rintro own pre A C ⟨h1, h2, h3⟩ hs
    exact ⟨h1, h2.steps hs hgr, h3⟩
  add := by
    rintro own pre z x q cap W ⟨h1, h2, h3⟩ hz hx hqN hq hqg hqr hql hqi hown
    obtain ⟨hxl, hxe⟩ := bJoins_mem hx
    obtain ⟨l1, l2⟩ := bo_lens hok
    have hlt := prsOf_lt (N := 6) (pre.map fun z => bitOf (z.2.getD i (-1))) (fun y hy => by
      obtain ⟨z', hz', rfl⟩ := List.mem_map.1 hy
      obtain ⟨k1, k2⟩ := bJoins_mem (h3 z' hz')
      have hg : z'.2.getD i (-1) ∈ z'.2 := by rw [getD_get (by omega)]; exact List.getElem_mem _
      exact Nat.lt_of_lt_of_le (bitOf_lt (k2 _ hg)) (Nat.pow_le_pow_right (by omega) l2))
    have hfin : PrAt W g i (prsOf (pre.map fun z => bitOf (z.2.getD i (-1)))).every (prsOf (pre.map fun z => bitOf (z.2.getD i (-1)))).some (prsOf (pre.map fun z => bitOf (z.2.getD i (-1)))).many := h2
    have hnext : prsOf ((pre ++ [(z, x)]).map fun z => bitOf (z.2.getD i (-1))) = (prsOf (pre.map fun z => bitOf (z.2.getD i (-1)))).put (bitOf (x.getD i (-1))) := by
      rw [List.map_append, List.map_singleton, prsOf_snoc]
    generalize (prsOf (pre.map fun z => bitOf (z.2.getD i (-1)))) = P at hlt hfin hnext
    have hy : x.getD i (-1) = -1 ∨ (0 ≤ x.getD i (-1) ∧ x.getD i (-1) < b.ss.length) := by
      rw [getD_get (by omega)]; exact hxe _ (List.getElem_mem _)
    have hcy : W.cell? ⟨q, i, none⟩ = some (.int .i64 (x.getD i (-1))) := by
      rw [getD_get (by omega)]; exact hqi.cell i (by omega)
    have hs3 : ∀ z' ∈ pre ++ [(z, x)], z'.2 ∈ bJoins b f s z'.1 := fun z' hz' => by
      rcases List.mem_append.1 hz' with h | h
      · exact h3 z' h
      · rw [List.mem_singleton] at h; subst h; exact hx
    have HN := Lib.hid hnext
    have HS3 := Lib.hid hs3
    clear hnext hs3 h3 h2 hx hz hqi hxe
    generalize hyy : x.getD i (-1) = y at hy hcy HN
    clear hyy
    have hbl := bitOf_lt (ns := 6) (y := y) (by omega)
    obtain ⟨P1, P2, P3⟩ := P
    simp only at hfin hlt
    obtain ⟨c0, c1, c2, c3, fz⟩ := hfin
    have hgW : g < W.heap.size := World.block_lt_of_cell? W _ c0
    have hil : (i : Int) < x.length := by omega
    have HXL := Lib.hid hxl
    clear hxl
    have hi6 : i < 6 := by omega
    have f1 := fz 1
    have f2 := fz 2
    have f3 := fz 3
    obtain ⟨ez, er⟩ := z
    unfold shV
    have hst1 : Steps (fun k => k = g) W (W.alloc (.cells #[.int .i64 ez, .int .i64 er] 72)) := Steps.alloc _ W _
    go_enter Try.func113, Try.ntmps113
    go_upto_if 16 with fail
    have hp0 : PrAt (W.alloc (.cells #[.int .i64 ez, .int .i64 er] 72)) g i P1 P2 P3 :=
      ⟨cell_later (below_alloc _ _) c0, cell_later (below_alloc _ _) c1, cell_later (below_alloc _ _) c2, cell_later (below_alloc _ _) c3, fun i => (bcell (below_alloc _ _)).2 _ _ hgW |>.trans (fz i)⟩
    go_cut [6] (fun v wx => v = .int .u64 (bitOf y) ∧ PrAt wx g i P1 P2 P3 ∧ Steps (fun k => k = g) W wx)
    case first =>
      by_cases hm : y = -1
      · subst hm
        go_wp2_with fail
        go_meet
        exact ⟨by simp [bitOf], hp0, hst1⟩
      · obtain ⟨k, rfl⟩ := Int.eq_ofNat_of_zero_le (show 0 ≤ y by omega)
        have hk64 : (k : Int) < 64 := by omega
        go_wp2_with fail
        go_meet
        refine ⟨?_, hp0, hst1⟩
        rw [pow_u64 k (by omega)]
        simp [bitOf, hm]
    case rest =>
      obtain ⟨rfl, hp1, hst1⟩ := hcut
      clear hcy hy hil hp0 c0 c1 c2 c3 fz f1 f2 f3
      have hp1' := hp1
      obtain ⟨c0, c1, c2, c3, fz⟩ := hp1'
      have f1 := fz 1
      have f3 := fz 3
      go_upto_if 23 with fail
      go_cut [6] (fun v wx => v = .int .u64 (bitOf y) ∧ PrAt wx g i (if P3 then P1 else bitOf y) P2 true ∧ Steps (fun k => k = g) W wx)
      case first =>
        cases P3 with
        | true =>
          go_wp2_with fail
          go_meet
          exact ⟨rfl, hp1, hst1⟩
        | false =>
          go_wp2_with fail
          go_meet
          exact ⟨rfl, (hp1.set1 _).set3 _, (hst1.trans (Steps.setCell (own := fun k => k = g) _ rfl _) (fun _ _ h => h)).trans (Steps.setCell (own := fun k => k = g) _ rfl _) (fun _ _ h => h)⟩
      case rest =>
        obtain ⟨rfl, hp, hst⟩ := hcut
        have he : (if P3 then P1 else bitOf y) < 2 ^ 6 := by cases P3 <;> simp <;> omega
        have hfin : ∀ W', PrAt W' g i ((if P3 then P1 else bitOf y) &&& bitOf y) (P2 ||| bitOf y) true → Steps (fun k => k = g) W W' → Steps (fun k => k = g) W W' ∧ PairsA g i b f s own (pre ++ [((ez, er), x)]) W' := fun W' h1' h2' =>
          ⟨h2', h1, by rw [HN.out]; exact h1', HS3.out⟩
        have HF := Lib.hid hfin
        clear hfin c0 c1 c2 c3 fz f1 f3 hst1 hp1
        generalize (if P3 then P1 else bitOf y) = E1 at he hp HF
        have hp' := hp
        obtain ⟨c0, c1, c2, c3, fz⟩ := hp'
        have f1 := fz 1
        have f2 := fz 2
        have a1 := and_u64 E1 (bitOf y) (by omega) (by omega)
        have a2 := or_u64 P2 (bitOf y) (by omega) (by omega)
        go_upto_region 7 with fail
        have k1 : ∀ W', KeepCells (fun k => k = g) wc W' → W'.cell? ⟨g, 1, none⟩ = some (.int .u64 E1) := fun W' h => h ⟨g, 1, none⟩ _ rfl c1
        have k2 : ∀ W', KeepCells (fun k => k = g) wc W' → W'.cell? ⟨g, 2, none⟩ = some (.int .u64 P2) := fun W' h => h ⟨g, 2, none⟩ _ rfl c2
        refine (wpIn_wide (n := 1)).1 ?_
        refine wpIn_region_V (B := [16, 19]) (S := fun W' => KeepCells (fun k => k = g) wc W') 20 (by kernel_rfl) (by kernel_rfl) (fun a v _ h => h) (fun hHeld => ?_)
        refine wpAnyV_takeP 0 31 (v := ?_) (by kernel_rfl) (by kernel_rfl) (by kernel_rfl) (by kernel_rfl) (fun _ _ _ h => h) ?_ (by kernel_rfl) (by first | exact .inr hHeld | exact .inl (by kernel_rfl)) ?_
        rotate_left
        · intro oi hoi w; simp only [List.getElem?_toArray, List.getElem?_cons_zero, List.getElem?_cons_succ, Option.some.injEq] at hoi; subst hoi; go_simp; try with_reducible rfl
        simp only [Act.put, List.setIfInBounds_toArray, List.set_cons_zero, List.set_cons_succ]
        refine wpAnyV_takeP 1 32 (v := ?_) (by kernel_rfl) (by kernel_rfl) (by kernel_rfl) (by kernel_rfl) (fun _ _ _ h => h) ?_ (by kernel_rfl) (by first | exact .inr hHeld | exact .inl (by kernel_rfl)) ?_
        rotate_left
        · intro oi hoi w; simp only [List.getElem?_toArray, List.getElem?_cons_zero, List.getElem?_cons_succ, Option.some.injEq] at hoi; subst hoi; go_simp; try with_reducible rfl
        simp only [Act.put, List.setIfInBounds_toArray, List.set_cons_zero, List.set_cons_succ]
        refine wpAnyV_takeP 2 33 (v := ?_) (by kernel_rfl) (by kernel_rfl) (by kernel_rfl) (by kernel_rfl) (fun _ _ _ h => h) ?_ (by kernel_rfl) (by first | exact .inr hHeld | exact .inl (by kernel_rfl)) ?_
        rotate_left
        · intro oi hoi w; simp only [List.getElem?_toArray, List.getElem?_cons_zero, List.getElem?_cons_succ, Option.some.injEq] at hoi; subst hoi; go_simp; try with_reducible rfl
        simp only [Act.put, List.setIfInBounds_toArray, List.set_cons_zero, List.set_cons_succ]
        refine wpAnyV_takeP 3 34 (v := ?_) (by kernel_rfl) (by kernel_rfl) (by kernel_rfl) (by kernel_rfl) (fun _ _ _ h => h) ?_ (by kernel_rfl) (by first | exact .inr hHeld | exact .inl (by kernel_rfl)) ?_
        rotate_left
        · intro oi hoi w; simp only [List.getElem?_toArray, List.getElem?_cons_zero, List.getElem?_cons_succ, Option.some.injEq] at hoi; subst hoi; go_simp; try with_reducible rfl
        simp only [Act.put, List.setIfInBounds_toArray, List.set_cons_zero, List.set_cons_succ]
        refine wpAnyV_takeP 4 35 (v := ?_) (by kernel_rfl) (by kernel_rfl) (by kernel_rfl) (by kernel_rfl) (fun _ _ _ h => h) ?_ (by kernel_rfl) (by first | exact .inr hHeld | exact .inl (by kernel_rfl)) ?_
        rotate_left
        · intro oi hoi w; simp only [List.getElem?_toArray, List.getElem?_cons_zero, List.getElem?_cons_succ, Option.some.injEq] at hoi; subst hoi; go_simp; try with_reducible rfl
        simp only [Act.put, List.setIfInBounds_toArray, List.set_cons_zero, List.set_cons_succ]
        refine wpAnyV_takeD 5 36 (v := ?_) (by kernel_rfl) (by kernel_rfl) (by kernel_rfl) (by kernel_rfl) (fun _ _ _ h => h) (by kernel_rfl) ?_ (by assumption) ?_
        rotate_left
        · intro oi hoi w hSw; (try dsimp only at hSw); simp only [List.getElem?_toArray, List.getElem?_cons_zero, List.getElem?_cons_succ, Option.some.injEq] at hoi; subst hoi; go_simp; try with_reducible rfl
        simp only [Act.put, List.setIfInBounds_toArray, List.set_cons_zero, List.set_cons_succ]
        refine wpAnyV_takeP 6 37 (v := ?_) (by kernel_rfl) (by kernel_rfl) (by kernel_rfl) (by kernel_rfl) (fun _ _ _ h => h) ?_ (by kernel_rfl) (by first | exact .inr hHeld | exact .inl (by kernel_rfl)) ?_
        rotate_left
        · intro oi hoi w; simp only [List.getElem?_toArray, List.getElem?_cons_zero, List.getElem?_cons_succ, Option.some.injEq] at hoi; subst hoi; go_simp; try with_reducible rfl
        simp only [Act.put, List.setIfInBounds_toArray, List.set_cons_zero, List.set_cons_succ]
        refine wpAnyV_takeP 7 38 (v := ?_) (by kernel_rfl) (by kernel_rfl) (by kernel_rfl) (by kernel_rfl) (fun _ _ _ h => h) ?_ (by kernel_rfl) (by first | exact .inr hHeld | exact .inl (by kernel_rfl)) ?_
        rotate_left
        · intro oi hoi w; simp only [List.getElem?_toArray, List.getElem?_cons_zero, List.getElem?_cons_succ, Option.some.injEq] at hoi; subst hoi; go_simp; try with_reducible rfl
        simp only [Act.put, List.setIfInBounds_toArray, List.set_cons_zero, List.set_cons_succ]
        refine wpAnyV_takeP 8 39 (v := ?_) (by kernel_rfl) (by kernel_rfl) (by kernel_rfl) (by kernel_rfl) (fun _ _ _ h => h) ?_ (by kernel_rfl) (by first | exact .inr hHeld | exact .inl (by kernel_rfl)) ?_
        rotate_left
        · intro oi hoi w; simp only [List.getElem?_toArray, List.getElem?_cons_zero, List.getElem?_cons_succ, Option.some.injEq] at hoi; subst hoi; go_simp; try with_reducible rfl
        simp only [Act.put, List.setIfInBounds_toArray, List.set_cons_zero, List.set_cons_succ]
        refine wpAnyV_takeP 9 40 (v := ?_) (by kernel_rfl) (by kernel_rfl) (by kernel_rfl) (by kernel_rfl) (fun _ _ _ h => h) ?_ (by kernel_rfl) (by first | exact .inr hHeld | exact .inl (by kernel_rfl)) ?_
        rotate_left
        · intro oi hoi w; simp only [List.getElem?_toArray, List.getElem?_cons_zero, List.getElem?_cons_succ, Option.some.injEq] at hoi; subst hoi; go_simp; try with_reducible rfl
        simp only [Act.put, List.setIfInBounds_toArray, List.set_cons_zero, List.set_cons_succ]
        refine wpAnyV_takeP 10 41 (v := ?_) (by kernel_rfl) (by kernel_rfl) (by kernel_rfl) (by kernel_rfl) (fun _ _ _ h => h) ?_ (by kernel_rfl) (by first | exact .inr hHeld | exact .inl (by kernel_rfl)) ?_
        rotate_left
        · intro oi hoi w; simp only [List.getElem?_toArray, List.getElem?_cons_zero, List.getElem?_cons_succ, Option.some.injEq] at hoi; subst hoi; go_simp; try with_reducible rfl
        simp only [Act.put, List.setIfInBounds_toArray, List.set_cons_zero, List.set_cons_succ]
        refine wpAnyV_takeD 11 42 (v := ?_) (by kernel_rfl) (by kernel_rfl) (by kernel_rfl) (by kernel_rfl) (fun _ _ _ h => h) (by kernel_rfl) ?_ (by assumption) ?_
        rotate_left
        · intro oi hoi w hSw; (try dsimp only at hSw); simp only [List.getElem?_toArray, List.getElem?_cons_zero, List.getElem?_cons_succ, Option.some.injEq] at hoi; subst hoi; go_simp; try with_reducible rfl
        simp only [Act.put, List.setIfInBounds_toArray, List.set_cons_zero, List.set_cons_succ]
        refine wpAnyV_takeP 12 43 (v := ?_) (by kernel_rfl) (by kernel_rfl) (by kernel_rfl) (by kernel_rfl) (fun _ _ _ h => h) ?_ (by kernel_rfl) (by first | exact .inr hHeld | exact .inl (by kernel_rfl)) ?_
        rotate_left
        · intro oi hoi w; simp only [List.getElem?_toArray, List.getElem?_cons_zero, List.getElem?_cons_succ, Option.some.injEq] at hoi; subst hoi; go_simp; try with_reducible rfl
        simp only [Act.put, List.setIfInBounds_toArray, List.set_cons_zero, List.set_cons_succ]
        refine wpAnyV_takeP 13 44 (v := ?_) (by kernel_rfl) (by kernel_rfl) (by kernel_rfl) (by kernel_rfl) (fun _ _ _ h => h) ?_ (by kernel_rfl) (by first | exact .inr hHeld | exact .inl (by kernel_rfl)) ?_
        rotate_left
        · intro oi hoi w; simp only [List.getElem?_toArray, List.getElem?_cons_zero, List.getElem?_cons_succ, Option.some.injEq] at hoi; subst hoi; go_simp; try with_reducible rfl
        simp only [Act.put, List.setIfInBounds_toArray, List.set_cons_zero, List.set_cons_succ]
        refine wpAnyV_takeP 14 45 (v := ?_) (by kernel_rfl) (by kernel_rfl) (by kernel_rfl) (by kernel_rfl) (fun _ _ _ h => h) ?_ (by kernel_rfl) (by first | exact .inr hHeld | exact .inl (by kernel_rfl)) ?_
        rotate_left
        · intro oi hoi w; simp only [List.getElem?_toArray, List.getElem?_cons_zero, List.getElem?_cons_succ, Option.some.injEq] at hoi; subst hoi; go_simp; try with_reducible rfl
        simp only [Act.put, List.setIfInBounds_toArray, List.set_cons_zero, List.set_cons_succ]
        refine wpAnyV_takeP 15 46 (v := ?_) (by kernel_rfl) (by kernel_rfl) (by kernel_rfl) (by kernel_rfl) (fun _ _ _ h => h) ?_ (by kernel_rfl) (by first | exact .inr hHeld | exact .inl (by kernel_rfl)) ?_
        rotate_left
        · intro oi hoi w; simp only [List.getElem?_toArray, List.getElem?_cons_zero, List.getElem?_cons_succ, Option.some.injEq] at hoi; subst hoi; go_simp; try with_reducible rfl
        simp only [Act.put, List.setIfInBounds_toArray, List.set_cons_zero, List.set_cons_succ]
        refine wpAnyV_one 16 (by kernel_rfl) (by kernel_rfl) ?_
        intro o ho K hK
        simp only [List.getElem?_toArray, List.getElem?_cons_zero, List.getElem?_cons_succ, Option.some.injEq] at ho
        subst ho
        go_simp
        refine hK _ _ (.inl (by kernel_rfl)) (fun _ => ?_)
        clear hK K
        try simp only [Act.put, List.setIfInBounds_toArray, List.set_cons_zero, List.set_cons_succ]
        refine wpAnyV_takeP 17 47 (v := ?_) (by kernel_rfl) (by kernel_rfl) (by kernel_rfl) (by kernel_rfl) (fun _ _ _ h => h) ?_ (by kernel_rfl) (by first | exact .inr hHeld | exact .inl (by kernel_rfl)) ?_
        rotate_left
        · intro oi hoi w; simp only [List.getElem?_toArray, List.getElem?_cons_zero, List.getElem?_cons_succ, Option.some.injEq] at hoi; subst hoi; go_simp; try with_reducible rfl
        simp only [Act.put, List.setIfInBounds_toArray, List.set_cons_zero, List.set_cons_succ]
        refine wpAnyV_takeP 18 48 (v := ?_) (by kernel_rfl) (by kernel_rfl) (by kernel_rfl) (by kernel_rfl) (fun _ _ _ h => h) ?_ (by kernel_rfl) (by first | exact .inr hHeld | exact .inl (by kernel_rfl)) ?_
        rotate_left
        · intro oi hoi w; simp only [List.getElem?_toArray, List.getElem?_cons_zero, List.getElem?_cons_succ, Option.some.injEq] at hoi; subst hoi; go_simp; try with_reducible rfl
        simp only [Act.put, List.setIfInBounds_toArray, List.set_cons_zero, List.set_cons_succ]
        refine wpAnyV_one 19 (by kernel_rfl) (by kernel_rfl) ?_
        intro o ho K hK
        simp only [List.getElem?_toArray, List.getElem?_cons_zero, List.getElem?_cons_succ, Option.some.injEq] at ho
        subst ho
        go_simp
        refine hK _ _ (.inl (by kernel_rfl)) (fun _ => ?_)
        clear hK K
        try simp only [Act.put, List.setIfInBounds_toArray, List.set_cons_zero, List.set_cons_succ]
        refine wpAnyV_done (by kernel_rfl) ?_ _
        go_wp2_with fail
        go_end0
        exact ⟨rfl, HF.out _ (((hp.set1 _).set2 _).steps (Steps.refl (fun _ => False) _).drew (fun h => h))
          (((hst.trans (Steps.setCell (own := fun k => k = g) _ rfl _) (fun _ _ h => h)).trans (Steps.setCell (own := fun k => k = g) _ rfl _) (fun _ _ h => h)).drew)⟩
end Go.Proofs.Ytjkegmjjhdmkiaa
namespace Go.Proofs.Ytjkegmjjhdmkiaa
open Go.RowKit Go.Shelf
set_option maxHeartbeats 1600000
set_option maxRecDepth 100000
set_option linter.unusedSimpArgs false

structure JnAt (w : World) (g a c : Nat) : Prop where
  c0 : w.cell? ⟨g, 0, none⟩ = some (.int .u64 a)
  c1 : w.cell? ⟨g, 1, none⟩ = some (.int .u64 c)
  fz : ∀ i, w.frozen? ⟨g, i, none⟩ = false
theorem JnAt.lt {w : World} {g a c : Nat} (h : JnAt w g a c) : g < w.heap.size := World.block_lt_of_cell? w _ h.c0
theorem JnAt.steps {w w' : World} {own : Nat → Prop} {g a c : Nat} (h : JnAt w g a c) (hs : Steps own w w') (hn : ¬ own g) : JnAt w' g a c := by
  have e := hs.block g h.lt hn
  exact ⟨(World.cell?_of_block e).trans h.c0, (World.cell?_of_block e).trans h.c1, fun i => (World.frozen?_of_block e).trans (h.fz i)⟩
theorem JnAt.set0 {w : World} {g a c : Nat} (h : JnAt w g a c) (v : Nat) : JnAt (w.setCell ⟨g, 0, none⟩ (.int .u64 v)) g v c :=
  ⟨cell_set _ h.c0, cell_far h.c1 (.inr (by omega)), fun i => by rw [World.frozen?_setCell]; exact h.fz i⟩
theorem JnAt.set1 {w : World} {g a c : Nat} (h : JnAt w g a c) (v : Nat) : JnAt (w.setCell ⟨g, 1, none⟩ (.int .u64 v)) g a v :=
  ⟨cell_far h.c0 (.inr (by omega)), cell_set _ h.c1, fun i => by rw [World.frozen?_setCell]; exact h.fz i⟩
theorem JnAt.drew {w : World} {g a c : Nat} (h : JnAt w g a c) : JnAt w.drew g a c := h.steps (Steps.refl (fun _ => False) _).drew (fun h => h)

def Jn2 (w : World) (g a c : Nat) (y : Int) (k : Nat) : Prop := JnAt w g (a ||| (if y = -1 then 0 else 2 ^ k)) (c ||| bitOf y)

/-- What 'joined' holds. -/
structure JoinedA (g : Nat) (b : Bo) (f s : Nat) (own : Nat → Prop) (pre : List Joined) (W : World) : Prop where
  o : ¬ own g
  j : JnAt W g (allFirst (pre.map (·.2))) (allSecond (pre.map (·.2)))
  s : ∀ z ∈ pre, z.2 ∈ bJoins b f s z.1

theorem jFirst_succ (x : List Int) (k : Nat) (h : k < x.length) : jFirst x (k + 1) = jFirst x k ||| (if x[k] = -1 then 0 else 2 ^ k) := by
  unfold jFirst
  simp only [maskOf, List.getElem?_eq_getElem h]
  by_cases e : x[k] = -1 <;> simp [e]
theorem jFirst_lt (x : List Int) (k N : Nat) (h : k ≤ N) : jFirst x k < 2 ^ N := Nat.lt_of_lt_of_le (maskOf_lt _ _) (Nat.pow_le_pow_right (by omega) h)
theorem jSecond_take (x : List Int) (k : Nat) (h : k < x.length) : jSecond (x.take (k + 1)) = jSecond (x.take k) ||| bitOf x[k] := by
  rw [List.take_succ_eq_append_getElem h, jSecond_snoc]

theorem joined_adder (N g r : Nat) (b : Bo) (f s : Nat) (hok : b.ok = true) (hgr : g ≠ r) : Adder 114 g r b f s N (JoinedA g b f s) where
  bides := by
    rintro own own' pre A C ⟨h1, h2, h3⟩ hs ho
    exact ⟨fun h => by rcases ho g h with h | h; exact h1 h; have := h2.lt; omega, h2.steps hs h1, h3⟩
  known := by
    rintro own pre A C ⟨h1, h2, h3⟩ hs
    exact ⟨h1, h2.steps hs hgr, h3⟩
  add := by
    rintro own pre z x q cap W ⟨h1, h2, h3⟩ hz hx hqN hq hqg hqr hql hqi hown
    obtain ⟨hxl, hxe⟩ := bJoins_mem hx
    obtain ⟨l1, l2⟩ := bo_lens hok
    have e1 := allFirst_lt (N := 6) (pre.map (·.2)) (fun y hy => by
      obtain ⟨z', hz', rfl⟩ := List.mem_map.1 hy
      have := (bJoins_mem (h3 z' hz')).1; omega)
    have e2 := allSecond_lt (N := 6) (pre.map (·.2)) (fun y hy e he => by
      obtain ⟨z', hz', rfl⟩ := List.mem_map.1 hy
      have := (bJoins_mem (h3 z' hz')).2 e he; omega)
    have hn1 : allFirst ((pre ++ [(z, x)]).map (·.2)) = allFirst (pre.map (·.2)) ||| jFirst x x.length := by rw [List.map_append, List.map_singleton, allFirst_snoc]
    have hn2 : allSecond ((pre ++ [(z, x)]).map (·.2)) = allSecond (pre.map (·.2)) ||| jSecond x := by rw [List.map_append, List.map_singleton, allSecond_snoc]
    generalize allFirst (pre.map (·.2)) = a at e1 hn1 h2
    generalize allSecond (pre.map (·.2)) = c at e2 hn2 h2
    have hs3 : ∀ z' ∈ pre ++ [(z, x)], z'.2 ∈ bJoins b f s z'.1 := fun z' hz' => by
      rcases List.mem_append.1 hz' with h | h
      · exact h3 z' h
      · rw [List.mem_singleton] at h; subst h; exact hx
    have HN1 := Lib.hid hn1
    have HN2 := Lib.hid hn2
    have HS3 := Lib.hid hs3
    have HXL := Lib.hid hxl
    have hx6 : x.length ≤ 6 := by omega
    clear hn1 hn2 hs3 h3 hx hz hxl
    obtain ⟨ez, er⟩ := z
    unfold shV
    go_enter Try.func114, Try.ntmps114
    go_wp2
    have hst1 : Steps (fun k => k = g) W (W.alloc (.cells #[.int .i64 ez, .int .i64 er] 72)) := Steps.alloc _ W _
    have hj1 : JnAt (W.alloc (.cells #[.int .i64 ez, .int .i64 er] 72)) g a c := h2.steps (Steps.alloc (fun _ => False) _ _) (fun h => h)
    go_loopw [6, 7, 10] (fun _ _ i wr => ∃ k : Nat, k ≤ x.length ∧ i = .int .i64 k ∧ JnAt wr g (a ||| jFirst x k) (c ||| jSecond (x.take k)) ∧ Steps (fun k => k = g) W wr) (fun _ _ i _ => x.length - (intOf i).toNat)
    case atStart => exact ⟨0, Nat.zero_le _, rfl, by simpa [jFirst, maskOf, jSecond] using hj1, hst1⟩
    case round =>
      rename_i wr
      obtain ⟨k, hk, rfl, hjr, hsr⟩ := hrel
      by_cases hlt : k < x.length
      · have hqk := (hqi.later (hsr.block q hql hqg)).cell k hlt
        have hy := hxe x[k] (List.getElem_mem _)
        have hF := jFirst_succ x k hlt
        have hS := jSecond_take x k hlt
        have b1 : a ||| jFirst x k < 2 ^ 6 := Nat.or_lt_two_pow e1 (jFirst_lt x k 6 (by omega))
        have b2 : c ||| jSecond (x.take k) < 2 ^ 6 := Nat.or_lt_two_pow e2 (jSecond_lt _ (fun y hy => by have := hxe y (List.mem_of_mem_take hy); omega))
        have b3 := bitOf_lt (ns := 6) (y := x[k]) (by omega)
        generalize x[k] = y at hqk hy hF hS b3
        have hJ : ∀ W', JnAt W' g ((a ||| jFirst x k) ||| (if y = -1 then 0 else 2 ^ k)) ((c ||| jSecond (x.take k)) ||| bitOf y) → JnAt W' g (a ||| jFirst x (k + 1)) (c ||| jSecond (x.take (k + 1))) := fun W' h => by
          rw [hF, hS, ← Nat.or_assoc, ← Nat.or_assoc]; exact h
        have HJ := Lib.hid hJ
        clear hJ hF hS
        generalize a ||| jFirst x k = a1 at hjr HJ b1
        generalize c ||| jSecond (x.take k) = c1 at hjr HJ b2
        have hjr' := hjr
        obtain ⟨c0, c1', fz⟩ := hjr'
        by_cases hm : y = -1
        · subst hm
          go_wp2_with fail
          go_roundw
          case rel => exact ⟨k + 1, by omega, by go_num, HJ.out _ (by simpa [bitOf] using hjr), hsr⟩
          case measure => simp [intOf]; omega
        · obtain ⟨n, rfl⟩ := Int.eq_ofNat_of_zero_le (show 0 ≤ y by omega)
          have hn64 : (n : Int) < 64 := by omega
          have hk64 : (k : Int) < 64 := by omega
          have f0 := fz 0
          have f1 := fz 1
          have p1 := pow_u64 k (by omega)
          have p2 := pow_u64 n (by omega)
          have hpk : 2 ^ k < 2 ^ 6 := Nat.pow_lt_pow_right (by omega) (by omega)
          have hpn : 2 ^ n < 2 ^ 6 := Nat.pow_lt_pow_right (by omega) (by omega)
          have o1 : bits .or .u64 (a1 : Int) (IntKind.u64.wrap (2 ^ k)) = ((a1 ||| 2 ^ k : Nat) : Int) := by rw [p1]; exact or_u64 _ _ (by omega) (by omega)
          have o2 : bits .or .u64 (c1 : Int) (IntKind.u64.wrap (2 ^ n)) = ((c1 ||| 2 ^ n : Nat) : Int) := by rw [p2]; exact or_u64 _ _ (by omega) (by omega)
          have hpost : ∀ W', JnAt W' g (a1 ||| 2 ^ k) (c1 ||| 2 ^ n) → Jn2 W' g a1 c1 (n : Int) k := fun W' h => by
            have hb : bitOf (n : Int) = 2 ^ n := by simp [bitOf, hm]
            unfold Jn2
            rw [hb, if_neg hm]; exact h
          have HP := Lib.hid hpost
          clear p1 p2 hpost
          go_upto_region 5 with fail
          have k0 : ∀ W', KeepCells (fun k => k = g) wr W' → W'.cell? ⟨g, 0, none⟩ = some (.int .u64 a1) := fun W' h => h ⟨g, 0, none⟩ _ rfl c0
          have k1 : ∀ W', KeepCells (fun k => k = g) wr W' → W'.cell? ⟨g, 1, none⟩ = some (.int .u64 c1) := fun W' h => h ⟨g, 1, none⟩ _ rfl c1'
          refine (wpIn_wide (n := 1)).1 ?_
          refine wpIn_region_V (B := [18, 21]) (S := fun W' => KeepCells (fun k => k = g) wr W') 22 (by kernel_rfl) (by kernel_rfl) (fun a v _ h => h) (fun hHeld => ?_)
          refine wpAnyV_takeP 0 17 (v := ?_) (by kernel_rfl) (by kernel_rfl) (by kernel_rfl) (by kernel_rfl) (fun _ _ _ h => h) ?_ (by kernel_rfl) (by first | exact .inr hHeld | exact .inl (by kernel_rfl)) ?_
          rotate_left
          · intro oi hoi w; simp only [List.getElem?_toArray, List.getElem?_cons_zero, List.getElem?_cons_succ, Option.some.injEq] at hoi; subst hoi; go_simp; try with_reducible rfl
          simp only [Act.put, List.setIfInBounds_toArray, List.set_cons_zero, List.set_cons_succ]
          refine wpAnyV_takeP 1 18 (v := ?_) (by kernel_rfl) (by kernel_rfl) (by kernel_rfl) (by kernel_rfl) (fun _ _ _ h => h) ?_ (by kernel_rfl) (by first | exact .inr hHeld | exact .inl (by kernel_rfl)) ?_
          rotate_left
          · intro oi hoi w; simp only [List.getElem?_toArray, List.getElem?_cons_zero, List.getElem?_cons_succ, Option.some.injEq] at hoi; subst hoi; go_simp; try with_reducible rfl
          simp only [Act.put, List.setIfInBounds_toArray, List.set_cons_zero, List.set_cons_succ]
          refine wpAnyV_takeP 2 19 (v := ?_) (by kernel_rfl) (by kernel_rfl) (by kernel_rfl) (by kernel_rfl) (fun _ _ _ h => h) ?_ (by kernel_rfl) (by first | exact .inr hHeld | exact .inl (by kernel_rfl)) ?_
          rotate_left
          · intro oi hoi w; simp only [List.getElem?_toArray, List.getElem?_cons_zero, List.getElem?_cons_succ, Option.some.injEq] at hoi; subst hoi; go_simp; try with_reducible rfl
          simp only [Act.put, List.setIfInBounds_toArray, List.set_cons_zero, List.set_cons_succ]
          refine wpAnyV_takeP 3 20 (v := ?_) (by kernel_rfl) (by kernel_rfl) (by kernel_rfl) (by kernel_rfl) (fun _ _ _ h => h) ?_ (by kernel_rfl) (by first | exact .inr hHeld | exact .inl (by kernel_rfl)) ?_
          rotate_left
          · intro oi hoi w; simp only [List.getElem?_toArray, List.getElem?_cons_zero, List.getElem?_cons_succ, Option.some.injEq] at hoi; subst hoi; go_simp; try with_reducible rfl
          simp only [Act.put, List.setIfInBounds_toArray, List.set_cons_zero, List.set_cons_succ]
          refine wpAnyV_takeP 4 21 (v := ?_) (by kernel_rfl) (by kernel_rfl) (by kernel_rfl) (by kernel_rfl) (fun _ _ _ h => h) ?_ (by kernel_rfl) (by first | exact .inr hHeld | exact .inl (by kernel_rfl)) ?_
          rotate_left
          · intro oi hoi w; simp only [List.getElem?_toArray, List.getElem?_cons_zero, List.getElem?_cons_succ, Option.some.injEq] at hoi; subst hoi; go_simp; try with_reducible rfl
          simp only [Act.put, List.setIfInBounds_toArray, List.set_cons_zero, List.set_cons_succ]
          refine wpAnyV_takeD 5 22 (v := ?_) (by kernel_rfl) (by kernel_rfl) (by kernel_rfl) (by kernel_rfl) (fun _ _ _ h => h) (by kernel_rfl) ?_ (by assumption) ?_
          rotate_left
          · intro oi hoi w hSw; (try dsimp only at hSw); simp only [List.getElem?_toArray, List.getElem?_cons_zero, List.getElem?_cons_succ, Option.some.injEq] at hoi; subst hoi; go_simp; try with_reducible rfl
          simp only [Act.put, List.setIfInBounds_toArray, List.set_cons_zero, List.set_cons_succ]
          refine wpAnyV_takeP 6 23 (v := ?_) (by kernel_rfl) (by kernel_rfl) (by kernel_rfl) (by kernel_rfl) (fun _ _ _ h => h) ?_ (by kernel_rfl) (by first | exact .inr hHeld | exact .inl (by kernel_rfl)) ?_
          rotate_left
          · intro oi hoi w; simp only [List.getElem?_toArray, List.getElem?_cons_zero, List.getElem?_cons_succ, Option.some.injEq] at hoi; subst hoi; go_simp; try with_reducible rfl
          simp only [Act.put, List.setIfInBounds_toArray, List.set_cons_zero, List.set_cons_succ]
          refine wpAnyV_takeP 7 24 (v := ?_) (by kernel_rfl) (by kernel_rfl) (by kernel_rfl) (by kernel_rfl) (fun _ _ _ h => h) ?_ (by kernel_rfl) (by first | exact .inr hHeld | exact .inl (by kernel_rfl)) ?_
          rotate_left
          · intro oi hoi w; simp only [List.getElem?_toArray, List.getElem?_cons_zero, List.getElem?_cons_succ, Option.some.injEq] at hoi; subst hoi; go_simp; try with_reducible rfl
          simp only [Act.put, List.setIfInBounds_toArray, List.set_cons_zero, List.set_cons_succ]
          refine wpAnyV_takeP 8 25 (v := ?_) (by kernel_rfl) (by kernel_rfl) (by kernel_rfl) (by kernel_rfl) (fun _ _ _ h => h) ?_ (by kernel_rfl) (by first | exact .inr hHeld | exact .inl (by kernel_rfl)) ?_
          rotate_left
          · intro oi hoi w; simp only [List.getElem?_toArray, List.getElem?_cons_zero, List.getElem?_cons_succ, Option.some.injEq] at hoi; subst hoi; go_simp; try with_reducible rfl
          simp only [Act.put, List.setIfInBounds_toArray, List.set_cons_zero, List.set_cons_succ]
          refine wpAnyV_takeP 9 26 (v := ?_) (by kernel_rfl) (by kernel_rfl) (by kernel_rfl) (by kernel_rfl) (fun _ _ _ h => h) ?_ (by kernel_rfl) (by first | exact .inr hHeld | exact .inl (by kernel_rfl)) ?_
          rotate_left
          · intro oi hoi w; simp only [List.getElem?_toArray, List.getElem?_cons_zero, List.getElem?_cons_succ, Option.some.injEq] at hoi; subst hoi; go_simp; try with_reducible rfl
          simp only [Act.put, List.setIfInBounds_toArray, List.set_cons_zero, List.set_cons_succ]
          refine wpAnyV_takeP 10 27 (v := ?_) (by kernel_rfl) (by kernel_rfl) (by kernel_rfl) (by kernel_rfl) (fun _ _ _ h => h) ?_ (by kernel_rfl) (by first | exact .inr hHeld | exact .inl (by kernel_rfl)) ?_
          rotate_left
          · intro oi hoi w; simp only [List.getElem?_toArray, List.getElem?_cons_zero, List.getElem?_cons_succ, Option.some.injEq] at hoi; subst hoi; go_simp; try with_reducible rfl
          simp only [Act.put, List.setIfInBounds_toArray, List.set_cons_zero, List.set_cons_succ]
          refine wpAnyV_takeP 11 28 (v := ?_) (by kernel_rfl) (by kernel_rfl) (by kernel_rfl) (by kernel_rfl) (fun _ _ _ h => h) ?_ (by kernel_rfl) (by first | exact .inr hHeld | exact .inl (by kernel_rfl)) ?_
          rotate_left
          · intro oi hoi w; simp only [List.getElem?_toArray, List.getElem?_cons_zero, List.getElem?_cons_succ, Option.some.injEq] at hoi; subst hoi; go_simp; try with_reducible rfl
          simp only [Act.put, List.setIfInBounds_toArray, List.set_cons_zero, List.set_cons_succ]
          refine wpAnyV_takeD 12 29 (v := ?_) (by kernel_rfl) (by kernel_rfl) (by kernel_rfl) (by kernel_rfl) (fun _ _ _ h => h) (by kernel_rfl) ?_ (by assumption) ?_
          rotate_left
          · intro oi hoi w hSw; (try dsimp only at hSw); simp only [List.getElem?_toArray, List.getElem?_cons_zero, List.getElem?_cons_succ, Option.some.injEq] at hoi; subst hoi; go_simp; try with_reducible rfl
          simp only [Act.put, List.setIfInBounds_toArray, List.set_cons_zero, List.set_cons_succ]
          refine wpAnyV_takeP 13 30 (v := ?_) (by kernel_rfl) (by kernel_rfl) (by kernel_rfl) (by kernel_rfl) (fun _ _ _ h => h) ?_ (by kernel_rfl) (by first | exact .inr hHeld | exact .inl (by kernel_rfl)) ?_
          rotate_left
          · intro oi hoi w; simp only [List.getElem?_toArray, List.getElem?_cons_zero, List.getElem?_cons_succ, Option.some.injEq] at hoi; subst hoi; go_simp; try with_reducible rfl
          simp only [Act.put, List.setIfInBounds_toArray, List.set_cons_zero, List.set_cons_succ]
          refine wpAnyV_takeP 14 31 (v := ?_) (by kernel_rfl) (by kernel_rfl) (by kernel_rfl) (by kernel_rfl) (fun _ _ _ h => h) ?_ (by kernel_rfl) (by first | exact .inr hHeld | exact .inl (by kernel_rfl)) ?_
          rotate_left
          · intro oi hoi w; simp only [List.getElem?_toArray, List.getElem?_cons_zero, List.getElem?_cons_succ, Option.some.injEq] at hoi; subst hoi; go_simp; try with_reducible rfl
          simp only [Act.put, List.setIfInBounds_toArray, List.set_cons_zero, List.set_cons_succ]
          refine wpAnyV_takeP 15 32 (v := ?_) (by kernel_rfl) (by kernel_rfl) (by kernel_rfl) (by kernel_rfl) (fun _ _ _ h => h) ?_ (by kernel_rfl) (by first | exact .inr hHeld | exact .inl (by kernel_rfl)) ?_
          rotate_left
          · intro oi hoi w; simp only [List.getElem?_toArray, List.getElem?_cons_zero, List.getElem?_cons_succ, Option.some.injEq] at hoi; subst hoi; go_simp; try with_reducible rfl
          simp only [Act.put, List.setIfInBounds_toArray, List.set_cons_zero, List.set_cons_succ]
          refine wpAnyV_takeP 16 33 (v := ?_) (by kernel_rfl) (by kernel_rfl) (by kernel_rfl) (by kernel_rfl) (fun _ _ _ h => h) ?_ (by kernel_rfl) (by first | exact .inr hHeld | exact .inl (by kernel_rfl)) ?_
          rotate_left
          · intro oi hoi w; simp only [List.getElem?_toArray, List.getElem?_cons_zero, List.getElem?_cons_succ, Option.some.injEq] at hoi; subst hoi; go_simp; try with_reducible rfl
          simp only [Act.put, List.setIfInBounds_toArray, List.set_cons_zero, List.set_cons_succ]
          refine wpAnyV_takeP 17 34 (v := ?_) (by kernel_rfl) (by kernel_rfl) (by kernel_rfl) (by kernel_rfl) (fun _ _ _ h => h) ?_ (by kernel_rfl) (by first | exact .inr hHeld | exact .inl (by kernel_rfl)) ?_
          rotate_left
          · intro oi hoi w; simp only [List.getElem?_toArray, List.getElem?_cons_zero, List.getElem?_cons_succ, Option.some.injEq] at hoi; subst hoi; go_simp; try with_reducible rfl
          simp only [Act.put, List.setIfInBounds_toArray, List.set_cons_zero, List.set_cons_succ]
          refine wpAnyV_one 18 (by kernel_rfl) (by kernel_rfl) ?_
          intro o ho K hK
          simp only [List.getElem?_toArray, List.getElem?_cons_zero, List.getElem?_cons_succ, Option.some.injEq] at ho
          subst ho
          go_simp
          refine hK _ _ (.inl (by kernel_rfl)) (fun _ => ?_)
          clear hK K
          try simp only [Act.put, List.setIfInBounds_toArray, List.set_cons_zero, List.set_cons_succ]
          refine wpAnyV_takeP 19 35 (v := ?_) (by kernel_rfl) (by kernel_rfl) (by kernel_rfl) (by kernel_rfl) (fun _ _ _ h => h) ?_ (by kernel_rfl) (by first | exact .inr hHeld | exact .inl (by kernel_rfl)) ?_
          rotate_left
          · intro oi hoi w; simp only [List.getElem?_toArray, List.getElem?_cons_zero, List.getElem?_cons_succ, Option.some.injEq] at hoi; subst hoi; go_simp; try with_reducible rfl
          simp only [Act.put, List.setIfInBounds_toArray, List.set_cons_zero, List.set_cons_succ]
          refine wpAnyV_takeP 20 36 (v := ?_) (by kernel_rfl) (by kernel_rfl) (by kernel_rfl) (by kernel_rfl) (fun _ _ _ h => h) ?_ (by kernel_rfl) (by first | exact .inr hHeld | exact .inl (by kernel_rfl)) ?_
          rotate_left
          · intro oi hoi w; simp only [List.getElem?_toArray, List.getElem?_cons_zero, List.getElem?_cons_succ, Option.some.injEq] at hoi; subst hoi; go_simp; try with_reducible rfl
          simp only [Act.put, List.setIfInBounds_toArray, List.set_cons_zero, List.set_cons_succ]
          refine wpAnyV_one 21 (by kernel_rfl) (by kernel_rfl) ?_
          intro o ho K hK
          simp only [List.getElem?_toArray, List.getElem?_cons_zero, List.getElem?_cons_succ, Option.some.injEq] at ho
          subst ho
          go_simp
          refine hK _ _ (.inl (by kernel_rfl)) (fun _ => ?_)
          clear hK K
          try simp only [Act.put, List.setIfInBounds_toArray, List.set_cons_zero, List.set_cons_succ]
          refine wpAnyV_done (by kernel_rfl) ?_ _
          go_wp2_with fail
          go_roundw
          case measure => simp [intOf]; omega
          case rel => exact ⟨k + 1, by omega, by go_num, HJ.out _ (HP.out _ ((hjr.set0 _).set1 _).drew), ((hsr.trans (Steps.setCell (own := fun k => k = g) _ rfl _) (fun _ _ h => h)).trans (Steps.setCell (own := fun k => k = g) _ rfl _) (fun _ _ h => h)).drew⟩
      · obtain rfl : k = x.length := by omega
        go_wp2
        go_end0
        rw [List.take_length] at hjr
        exact ⟨rfl, hsr, h1, by rw [HN1.out, HN2.out]; exact hjr, HS3.out⟩
end Go.Proofs.Ytjkegmjjhdmkiaa
namespace Go.Proofs.Ytjkegmjjhdmkiaa
open Go.RowKit Go.Shelf
set_option maxHeartbeats 1600000
set_option maxRecDepth 100000
set_option linter.unusedSimpArgs false

structure BsAt (w : World) (g : Nat) (z : Int × Int) (sl : Value) (m : Nat) : Prop where
  c0 : w.cell? ⟨g, 0, none⟩ = some (.int .i64 z.1)
  c1 : w.cell? ⟨g, 1, none⟩ = some (.int .i64 z.2)
  c2 : w.cell? ⟨g, 2, none⟩ = some sl
  c3 : w.cell? ⟨g, 3, none⟩ = some (.int .i64 m)
  fz : ∀ i, w.frozen? ⟨g, i, none⟩ = false
theorem BsAt.lt {w : World} {g : Nat} {z : Int × Int} {sl : Value} {m : Nat} (h : BsAt w g z sl m) : g < w.heap.size := World.block_lt_of_cell? w _ h.c0
theorem BsAt.steps {w w' : World} {own : Nat → Prop} {g : Nat} {z : Int × Int} {sl : Value} {m : Nat} (h : BsAt w g z sl m) (hs : Steps own w w') (hn : ¬ own g) : BsAt w' g z sl m := by
  have e := hs.block g h.lt hn
  exact ⟨(World.cell?_of_block e).trans h.c0, (World.cell?_of_block e).trans h.c1, (World.cell?_of_block e).trans h.c2, (World.cell?_of_block e).trans h.c3, fun i => (World.frozen?_of_block e).trans (h.fz i)⟩

/-- What 'best' holds. -/
def BestIs (N g r : Nat) (own : Nat → Prop) (W : World) : Option Joined → Prop
  | none => BsAt W g (0, 0) (.slice none 0 0) 0
  | some y => ∃ q cap, BsAt W g y.1 (.slice (some ⟨q, 0, none⟩) y.2.length cap) (pairsIn y.2) ∧ IntsAt W q y.2 ∧ ¬ own q ∧ q ≠ g ∧ q ≠ r ∧ N ≤ q
theorem BestIs.lt {N g r : Nat} {own : Nat → Prop} {W : World} : ∀ {o : Option Joined}, BestIs N g r own W o → g < W.heap.size
  | none, h => BsAt.lt h
  | some _, ⟨_, _, h, _⟩ => h.lt
theorem BestIs.steps {N g r : Nat} {own own' own2 : Nat → Prop} {A C : World} (hg : ¬ own2 g) (hq : ∀ k, k < A.heap.size → own2 k → own k ∨ k = r) (ho : ∀ k, k < A.heap.size → own' k → own k) (hs : Steps own2 A C) : ∀ {o : Option Joined}, BestIs N g r own A o → BestIs N g r own' C o
  | none, h => BsAt.steps h hs hg
  | some _, ⟨q, cap, h1, h2, h3, h4, h5, h6⟩ => ⟨q, cap, h1.steps hs hg, h2.later (hs.block q h2.lt (fun h => by rcases hq q h2.lt h with h | h; exact h3 h; exact h5 h)), fun h => h3 (ho q h2.lt h), h4, h5, h6⟩

structure BestA (N g r : Nat) (b : Bo) (f s : Nat) (own : Nat → Prop) (pre : List Joined) (W : World) : Prop where
  o : ¬ own g
  j : BestIs N g r own W (bestOf pre)
  s : ∀ z ∈ pre, z.2 ∈ bJoins b f s z.1
theorem bestOf_mem : ∀ (L : List Joined) (y : Joined), bestOf L = some y → y ∈ L := by
  intro L
  unfold bestOf
  suffices h : ∀ (L : List Joined) (o : Option Joined) (y : Joined), L.foldl (fun o z => match o with | none => some z | some y => if pairsIn y.2 < pairsIn z.2 then some z else some y) o = some y → o = some y ∨ y ∈ L by
    intro y hy
    rcases h L none y hy with h | h
    · cases h
    · exact h
  intro L
  induction L with
  | nil => intro o y h; exact .inl h
  | cons z L ih =>
    intro o y h
    rw [List.foldl_cons] at h
    rcases ih _ _ h with h | h
    · cases o with
      | none => simp at h; exact .inr (by simp [h])
      | some v =>
        simp only at h
        split at h
        · simp at h; exact .inr (by simp [h])
        · exact .inl h
    · exact .inr (by simp [h])

theorem best_adder (N g r : Nat) (b : Bo) (f s : Nat) (hok : b.ok = true) (hgr : g ≠ r) : Adder 115 g r b f s N (BestA N g r b f s) where
  bides := by
    rintro own own' pre A C ⟨h1, h2, h3⟩ hs ho
    have hl := h2.lt
    exact ⟨fun h => by rcases ho g h with h | h; exact h1 h; omega, h2.steps h1 (fun k _ h => .inl h) (fun k hk h => by rcases ho k h with h | h; exact h; omega) hs, h3⟩
  known := by
    rintro own pre A C ⟨h1, h2, h3⟩ hs
    exact ⟨h1, h2.steps (own2 := fun k => k = r) hgr (fun k _ h => .inr h) (fun k _ h => h) hs, h3⟩
  add := by
    rintro own pre z x q cap W ⟨h1, h2, h3⟩ hz hx hqN hq hqg hqr hql hqi hown
    obtain ⟨hxl, hxe⟩ := bJoins_mem hx
    obtain ⟨l1, l2⟩ := bo_lens hok
    have hs3 : ∀ z' ∈ pre ++ [(z, x)], z'.2 ∈ bJoins b f s z'.1 := fun z' hz' => by
      rcases List.mem_append.1 hz' with h | h
      · exact h3 z' h
      · rw [List.mem_singleton] at h; subst h; exact hx
    have hbn := bestOf_snoc pre (z, x)
    have hyl : ∀ y, bestOf pre = some y → y.2.length ≤ 6 := fun y hy => by have := (bJoins_mem (h3 y (bestOf_mem _ _ hy))).1; omega
    have HS3 := Lib.hid hs3
    have HXL := Lib.hid hxl
    have hx6 : x.length ≤ 6 := by omega
    clear hs3 h3 hx hz hxl
    generalize bestOf pre = o at h2 hbn hyl
    obtain ⟨ez, er⟩ := z
    have HBN := Lib.hid hbn
    clear hbn
    have hnil : ∀ w, (binOp .eql 40 (.slice none 0 0) (.slice none 0 0)).run Try.prog w = .ok (.bool true) w := fun w => by kernel_rfl
    have hnn : ∀ w (q n cap : Nat), (binOp .eql 40 (.slice (some ⟨q, 0, none⟩) n cap) (.slice none 0 0)).run Try.prog w = .ok (.bool false) w := fun w q n cap => nil_ne q n cap w
    unfold shV
    go_enter Try.func115, Try.ntmps115
    go_wp2
    obtain ⟨W1, hW1⟩ : ∃ W1, W.alloc (.cells #[.int .i64 ez, .int .i64 er] 72) = W1 := ⟨_, rfl⟩
    rw [hW1]
    have hs1 : Steps (fun _ => False) W W1 := by rw [← hW1]; exact Steps.alloc _ _ _
    have b1 : W1.heap[W.heap.size]? = some (.cells #[.int .i64 ez, .int .i64 er] 72) := by rw [← hW1]; exact obj_new _ _
    clear hW1
    have c0 := cell_block b1 0
    have c1 := cell_block b1 1
    simp only [List.getElem?_toArray, List.getElem?_cons_zero, List.getElem?_cons_succ] at c0 c1
    have hqi1 := hqi.later (hs1.block q hql (fun h => h))
    have h21 : BestIs N g r own W1 o := h2.steps (fun h => h) (fun k _ h => h.elim) (fun k _ h => h) hs1
    go_loopw [6, 8, 11] (fun m _ i wr => ∃ k : Nat, k ≤ x.length ∧ i = .int .i64 k ∧ m = .int .i64 (pairsIn (x.take k)) ∧ wr = W1) (fun _ _ i _ => x.length - (intOf i).toNat)
    case atStart => exact ⟨0, Nat.zero_le _, rfl, rfl, rfl⟩
    case round =>
      obtain ⟨k, hk, rfl, rfl, rfl⟩ := hrel
      by_cases hlt : k < x.length
      · have hqk := hqi1.cell k hlt
        have hS : pairsIn (x.take (k + 1)) = pairsIn (x.take k) + if x[k] = -1 then 0 else 1 := by rw [List.take_succ_eq_append_getElem hlt, pairsIn_snoc]
        have hp6 : pairsIn (x.take k) ≤ 6 := Nat.le_trans (pairsIn_le _) (Nat.le_trans (List.length_take_le _ _) (by omega))
        generalize x[k] = y at hqk hS
        have HS := Lib.hid hS
        clear hS
        by_cases hm : y = -1
        · subst hm
          go_wp2
          go_roundw
          case rel => exact ⟨k + 1, by omega, by go_num, by rw [HS.out]; simp, trivial⟩
          case measure => simp [intOf]; omega
        · go_wp2
          go_roundw
          case rel => exact ⟨k + 1, by omega, by go_num, by rw [HS.out, if_neg hm]; go_num, trivial⟩
          case measure => simp [intOf]; omega
      · obtain rfl : k = x.length := by omega
        have hp6 : pairsIn x ≤ 6 := Nat.le_trans (pairsIn_le _) (by omega)
        rw [List.take_length]
        have hst : Steps (fun k => k = g) W wr := hs1.mono (fun _ _ h => h.elim)
        have hset : ∀ (z0 : Int × Int) (sl : Value) (m : Nat), BsAt wr g z0 sl m → BestIs N g r own (((((wr.setCell ⟨g, 0, none⟩ (.int .i64 ez)).setCell ⟨g, 1, none⟩ (.int .i64 er)).setCell ⟨g, 2, none⟩ (.slice (some ⟨q, 0, none⟩) x.length cap)).setCell ⟨g, 3, none⟩ (.int .i64 (pairsIn x)))) (some ((ez, er), x)) ∧
            Steps (fun k => k = g) W ((((wr.setCell ⟨g, 0, none⟩ (.int .i64 ez)).setCell ⟨g, 1, none⟩ (.int .i64 er)).setCell ⟨g, 2, none⟩ (.slice (some ⟨q, 0, none⟩) x.length cap)).setCell ⟨g, 3, none⟩ (.int .i64 (pairsIn x))) := fun z0 sl m h => by
          have s1 := Steps.setCell (own := fun k => k = g) wr (p := ⟨g, 0, none⟩) rfl (.int .i64 ez)
          have s2 := Steps.setCell (own := fun k => k = g) (wr.setCell ⟨g, 0, none⟩ (.int .i64 ez)) (p := ⟨g, 1, none⟩) rfl (.int .i64 er)
          have s3 := Steps.setCell (own := fun k => k = g) ((wr.setCell ⟨g, 0, none⟩ (.int .i64 ez)).setCell ⟨g, 1, none⟩ (.int .i64 er)) (p := ⟨g, 2, none⟩) rfl (.slice (some ⟨q, 0, none⟩) x.length cap)
          have s4 := Steps.setCell (own := fun k => k = g) (((wr.setCell ⟨g, 0, none⟩ (.int .i64 ez)).setCell ⟨g, 1, none⟩ (.int .i64 er)).setCell ⟨g, 2, none⟩ (.slice (some ⟨q, 0, none⟩) x.length cap)) (p := ⟨g, 3, none⟩) rfl (.int .i64 (pairsIn x))
          have ss := ((s1.trans s2 (fun _ _ h => h)).trans s3 (fun _ _ h => h)).trans s4 (fun _ _ h => h)
          refine ⟨⟨q, cap, ⟨?_, ?_, ?_, ?_, fun i => ?_⟩, hqi1.later (ss.block q hqi1.lt hqg), hq, hqg, hqr, hqN⟩, hst.trans ss (fun _ _ h => h)⟩
          · exact cell_far (cell_far (cell_far (cell_set _ h.c0) (.inr (by omega))) (.inr (by omega))) (.inr (by omega))
          · exact cell_far (cell_far (cell_set _ (cell_far h.c1 (.inr (by omega)))) (.inr (by omega))) (.inr (by omega))
          · exact cell_far (cell_set _ (cell_far (cell_far h.c2 (.inr (by omega))) (.inr (by omega)))) (.inr (by omega))
          · exact cell_set _ (cell_far (cell_far (cell_far h.c3 (.inr (by omega))) (.inr (by omega))) (.inr (by omega)))
          · rw [World.frozen?_setCell, World.frozen?_setCell, World.frozen?_setCell, World.frozen?_setCell]; exact h.fz i
        have HSET := Lib.hid hset
        clear hset
        cases o with
        | none =>
          have hB : BsAt wr g (0, 0) (.slice none 0 0) 0 := h21
          have hB' := hB
          obtain ⟨d0, d1, d2, d3, fz⟩ := hB'
          have f0 := fz 0
          have f1 := fz 1
          have f2 := fz 2
          have f3 := fz 3
          go_wp2
          go_end0
          obtain ⟨q1, q2⟩ := HSET.out _ _ _ hB
          exact ⟨rfl, q2, h1, by rw [HBN.out]; exact q1, HS3.out⟩
        | some y =>
          obtain ⟨q', cap', hB, hI, hno, hng, hnr, hnN⟩ := h21
          have hy6 := hyl y rfl
          have hyp : pairsIn y.2 ≤ 6 := Nat.le_trans (pairsIn_le _) hy6
          have hB' := hB
          obtain ⟨d0, d1, d2, d3, fz⟩ := hB'
          have f0 := fz 0
          have f1 := fz 1
          have f2 := fz 2
          have f3 := fz 3
          have HYL := Lib.hid hyl
          clear hyl
          by_cases hc : pairsIn y.2 < pairsIn x
          · go_wp2
            go_end0
            obtain ⟨q1, q2⟩ := HSET.out _ _ _ hB
            exact ⟨rfl, q2, h1, by rw [HBN.out]; simp only [hc, if_true]; exact q1, HS3.out⟩
          · go_wp2
            go_end0
            exact ⟨rfl, hst, h1, by rw [HBN.out]; simp only [hc, if_false]; exact ⟨q', cap', hB, hI, hno, hng, hnr, hnN⟩, HS3.out⟩
end Go.Proofs.Ytjkegmjjhdmkiaa
