/- Package border: what gathers the stars of one pair. -/
import Derived.Test.YtjkegmjjhdmkiaaD2
import Derived.Test.YtjkegmjjhdmkiaaPlain2
namespace Go.Proofs.Ytjkegmjjhdmkiaa
open Go.RowKit Go.Shelf
set_option maxHeartbeats 1600000
set_option maxRecDepth 100000
set_option linter.unusedSimpArgs false

theorem bJoins_mem {b : Bo} {f s : Nat} {z : Int × Int} {x : List Int} (h : x ∈ bJoins b f s z) : x.length = b.fs.length ∧ ∀ e ∈ x, e = -1 ∨ (0 ≤ e ∧ e < b.ss.length) := by
  obtain ⟨t, rfl, ht, hm⟩ := joins_mem _ _ _ h
  simpa using ⟨ht, hm⟩

theorem getD_get {l : List Int} {i : Nat} (h : i < l.length) : l.getD i (-1) = l[i] := by
  rw [List.getD_eq_getElem?_getD, List.getElem?_eq_getElem h]; rfl

structure PrAt (w : World) (g i : Nat) (ev so : Nat) (mn : Bool) : Prop where
  c0 : w.cell? ⟨g, 0, none⟩ = some (.int .i64 i)
  c1 : w.cell? ⟨g, 1, none⟩ = some (.int .u64 ev)
  c2 : w.cell? ⟨g, 2, none⟩ = some (.int .u64 so)
  c3 : w.cell? ⟨g, 3, none⟩ = some (.bool mn)
  fz : ∀ i, w.frozen? ⟨g, i, none⟩ = false
theorem PrAt.lt {w : World} {g i ev so : Nat} {mn : Bool} (h : PrAt w g i ev so mn) : g < w.heap.size := World.block_lt_of_cell? w _ h.c0
theorem PrAt.steps {w w' : World} {own : Nat → Prop} {g i ev so : Nat} {mn : Bool} (h : PrAt w g i ev so mn) (hs : Steps own w w') (hn : ¬ own g) : PrAt w' g i ev so mn := by
  have e := hs.block g h.lt hn
  exact ⟨(World.cell?_of_block e).trans h.c0, (World.cell?_of_block e).trans h.c1, (World.cell?_of_block e).trans h.c2, (World.cell?_of_block e).trans h.c3, fun i => (World.frozen?_of_block e).trans (h.fz i)⟩

theorem PrAt.set1 {w : World} {g i ev so : Nat} {mn : Bool} (h : PrAt w g i ev so mn) (v : Nat) : PrAt (w.setCell ⟨g, 1, none⟩ (.int .u64 v)) g i v so mn :=
  ⟨cell_far h.c0 (.inr (by omega)), cell_set _ h.c1, cell_far h.c2 (.inr (by omega)), cell_far h.c3 (.inr (by omega)), fun i => by rw [World.frozen?_setCell]; exact h.fz i⟩
theorem PrAt.set2 {w : World} {g i ev so : Nat} {mn : Bool} (h : PrAt w g i ev so mn) (v : Nat) : PrAt (w.setCell ⟨g, 2, none⟩ (.int .u64 v)) g i ev v mn :=
  ⟨cell_far h.c0 (.inr (by omega)), cell_far h.c1 (.inr (by omega)), cell_set _ h.c2, cell_far h.c3 (.inr (by omega)), fun i => by rw [World.frozen?_setCell]; exact h.fz i⟩
theorem PrAt.set3 {w : World} {g i ev so : Nat} {mn : Bool} (h : PrAt w g i ev so mn) (v : Bool) : PrAt (w.setCell ⟨g, 3, none⟩ (.bool v)) g i ev so v :=
  ⟨cell_far h.c0 (.inr (by omega)), cell_far h.c1 (.inr (by omega)), cell_far h.c2 (.inr (by omega)), cell_set _ h.c3, fun i => by rw [World.frozen?_setCell]; exact h.fz i⟩

/-- What 'pairs' holds. -/
structure PairsA (g i : Nat) (b : Bo) (f s : Nat) (own : Nat → Prop) (pre : List Joined) (W : World) : Prop where
  o : ¬ own g
  p : PrAt W g i (prsOf (pre.map fun z => bitOf (z.2.getD i (-1)))).every (prsOf (pre.map fun z => bitOf (z.2.getD i (-1)))).some (prsOf (pre.map fun z => bitOf (z.2.getD i (-1)))).many
  s : ∀ z ∈ pre, z.2 ∈ bJoins b f s z.1

theorem pairs_adder (N g i r : Nat) (b : Bo) (f s : Nat) (hok : b.ok = true) (hgr : g ≠ r) (hi : i < b.fs.length) : Adder 113 g r b f s N (PairsA g i b f s) where
  bides := by
    rintro own own' pre A C ⟨h1, h2, h3⟩ hs ho
    exact ⟨fun h => by rcases ho g h with h | h; exact h1 h; have := h2.lt; omega, h2.steps hs h1, h3⟩
  known := by
    rintro own pre A C ⟨h1, h2, h3⟩ hs
    exact ⟨h1, h2.steps hs hgr, h3⟩
  add := by
    rintro own pre z x q cap W ⟨h1, h2, h3⟩ hz hx hqN hq hqg hqr hql hqi hown
    obtain ⟨hxl, hxe⟩ := bJoins_mem hx
    obtain ⟨l1, l2⟩ := bo_lens hok
    have hlt := prsOf_lt (N := 6) (pre.map fun z => bitOf (z.2.getD i (-1))) (fun y hy => by
      obtain ⟨z', hz', rfl⟩ := List.mem_map.1 hy
      obtain ⟨k1, k2⟩ := bJoins_mem (h3 z' hz')
      have hg : z'.2.getD i (-1) ∈ z'.2 := by rw [getD_get (by omega)]; exact List.getElem_mem _
      exact Nat.lt_of_lt_of_le (bitOf_lt (k2 _ hg)) (Nat.pow_le_pow_right (by omega) l2))
    have hfin : PrAt W g i (prsOf (pre.map fun z => bitOf (z.2.getD i (-1)))).every (prsOf (pre.map fun z => bitOf (z.2.getD i (-1)))).some (prsOf (pre.map fun z => bitOf (z.2.getD i (-1)))).many := h2
    have hnext : prsOf ((pre ++ [(z, x)]).map fun z => bitOf (z.2.getD i (-1))) = (prsOf (pre.map fun z => bitOf (z.2.getD i (-1)))).put (bitOf (x.getD i (-1))) := by
      rw [List.map_append, List.map_singleton, prsOf_snoc]
    generalize (prsOf (pre.map fun z => bitOf (z.2.getD i (-1)))) = P at hlt hfin hnext
    have hy : x.getD i (-1) = -1 ∨ (0 ≤ x.getD i (-1) ∧ x.getD i (-1) < b.ss.length) := by
      rw [getD_get (by omega)]; exact hxe _ (List.getElem_mem _)
    have hcy : W.cell? ⟨q, i, none⟩ = some (.int .i64 (x.getD i (-1))) := by
      rw [getD_get (by omega)]; exact hqi.cell i (by omega)
    have hs3 : ∀ z' ∈ pre ++ [(z, x)], z'.2 ∈ bJoins b f s z'.1 := fun z' hz' => by
      rcases List.mem_append.1 hz' with h | h
      · exact h3 z' h
      · rw [List.mem_singleton] at h; subst h; exact hx
    have HN := Lib.hid hnext
    have HS3 := Lib.hid hs3
    clear hnext hs3 h3 h2 hx hz hqi hxe
    generalize hyy : x.getD i (-1) = y at hy hcy HN
    clear hyy
    have hbl := bitOf_lt (ns := 6) (y := y) (by omega)
    obtain ⟨P1, P2, P3⟩ := P
    simp only at hfin hlt
    obtain ⟨c0, c1, c2, c3, fz⟩ := hfin
    have hgW : g < W.heap.size := World.block_lt_of_cell? W _ c0
    have hil : (i : Int) < x.length := by omega
    have HXL := Lib.hid hxl
    clear hxl
    have hi6 : i < 6 := by omega
    have f1 := fz 1
    have f2 := fz 2
    have f3 := fz 3
    obtain ⟨ez, er⟩ := z
    unfold shV
    have hst1 : Steps (fun k => k = g) W (W.alloc (.cells #[.int .i64 ez, .int .i64 er] 72)) := Steps.alloc _ W _
    go_enter Try.func113, Try.ntmps113
    go_upto_if 16 with fail
    have hp0 : PrAt (W.alloc (.cells #[.int .i64 ez, .int .i64 er] 72)) g i P1 P2 P3 :=
      ⟨cell_later (below_alloc _ _) c0, cell_later (below_alloc _ _) c1, cell_later (below_alloc _ _) c2, cell_later (below_alloc _ _) c3, fun i => (bcell (below_alloc _ _)).2 _ _ hgW |>.trans (fz i)⟩
    go_cut [6] (fun v wx => v = .int .u64 (bitOf y) ∧ PrAt wx g i P1 P2 P3 ∧ Steps (fun k => k = g) W wx)
    case first =>
      by_cases hm : y = -1
      · subst hm
        go_wp2_with fail
        go_meet
        exact ⟨by simp [bitOf], hp0, hst1⟩
      · obtain ⟨k, rfl⟩ := Int.eq_ofNat_of_zero_le (show 0 ≤ y by omega)
        have hk64 : (k : Int) < 64 := by omega
        go_wp2_with fail
        go_meet
        refine ⟨?_, hp0, hst1⟩
        rw [pow_u64 k (by omega)]
        simp [bitOf, hm]
    case rest =>
      obtain ⟨rfl, hp1, hst1⟩ := hcut
      clear hcy hy hil hp0 c0 c1 c2 c3 fz f1 f2 f3
      have hp1' := hp1
      obtain ⟨c0, c1, c2, c3, fz⟩ := hp1'
      have f1 := fz 1
      have f3 := fz 3
      go_upto_if 23 with fail
      go_cut [6] (fun v wx => v = .int .u64 (bitOf y) ∧ PrAt wx g i (if P3 then P1 else bitOf y) P2 true ∧ Steps (fun k => k = g) W wx)
      case first =>
        cases P3 with
        | true =>
          go_wp2_with fail
          go_meet
          exact ⟨rfl, hp1, hst1⟩
        | false =>
          go_wp2_with fail
          go_meet
          exact ⟨rfl, (hp1.set1 _).set3 _, (hst1.trans (Steps.setCell (own := fun k => k = g) _ rfl _) (fun _ _ h => h)).trans (Steps.setCell (own := fun k => k = g) _ rfl _) (fun _ _ h => h)⟩
      case rest =>
        obtain ⟨rfl, hp, hst⟩ := hcut
        have he : (if P3 then P1 else bitOf y) < 2 ^ 6 := by cases P3 <;> simp <;> omega
        have hfin : ∀ W', PrAt W' g i ((if P3 then P1 else bitOf y) &&& bitOf y) (P2 ||| bitOf y) true → Steps (fun k => k = g) W W' → Steps (fun k => k = g) W W' ∧ PairsA g i b f s own (pre ++ [((ez, er), x)]) W' := fun W' h1' h2' =>
          ⟨h2', h1, by rw [HN.out]; exact h1', HS3.out⟩
        have HF := Lib.hid hfin
        clear hfin c0 c1 c2 c3 fz f1 f3 hst1 hp1
        generalize (if P3 then P1 else bitOf y) = E1 at he hp HF
        have hp' := hp
        obtain ⟨c0, c1, c2, c3, fz⟩ := hp'
        have f1 := fz 1
        have f2 := fz 2
        have a1 := and_u64 E1 (bitOf y) (by omega) (by omega)
        have a2 := or_u64 P2 (bitOf y) (by omega) (by omega)
        go_upto_region 7 with fail
        have k1 : ∀ W', KeepCells (fun k => k = g) wc W' → W'.cell? ⟨g, 1, none⟩ = some (.int .u64 E1) := fun W' h => h ⟨g, 1, none⟩ _ rfl c1
        have k2 : ∀ W', KeepCells (fun k => k = g) wc W' → W'.cell? ⟨g, 2, none⟩ = some (.int .u64 P2) := fun W' h => h ⟨g, 2, none⟩ _ rfl c2
        refine (wpIn_wide (n := 1)).1 ?_
        refine wpIn_region_V (B := [16, 19]) (S := fun W' => KeepCells (fun k => k = g) wc W') 20 (by kernel_rfl) (by kernel_rfl) (fun a v _ h => h) (fun hHeld => ?_)
        refine wpAnyV_takeP 0 31 (v := ?_) (by kernel_rfl) (by kernel_rfl) (by kernel_rfl) (by kernel_rfl) (fun _ _ _ h => h) ?_ (by kernel_rfl) (by first | exact .inr hHeld | exact .inl (by kernel_rfl)) ?_
        rotate_left
        · intro oi hoi w; simp only [List.getElem?_toArray, List.getElem?_cons_zero, List.getElem?_cons_succ, Option.some.injEq] at hoi; subst hoi; go_simp; try with_reducible rfl
        simp only [Act.put, List.setIfInBounds_toArray, List.set_cons_zero, List.set_cons_succ]
        refine wpAnyV_takeP 1 32 (v := ?_) (by kernel_rfl) (by kernel_rfl) (by kernel_rfl) (by kernel_rfl) (fun _ _ _ h => h) ?_ (by kernel_rfl) (by first | exact .inr hHeld | exact .inl (by kernel_rfl)) ?_
        rotate_left
        · intro oi hoi w; simp only [List.getElem?_toArray, List.getElem?_cons_zero, List.getElem?_cons_succ, Option.some.injEq] at hoi; subst hoi; go_simp; try with_reducible rfl
        simp only [Act.put, List.setIfInBounds_toArray, List.set_cons_zero, List.set_cons_succ]
        refine wpAnyV_takeP 2 33 (v := ?_) (by kernel_rfl) (by kernel_rfl) (by kernel_rfl) (by kernel_rfl) (fun _ _ _ h => h) ?_ (by kernel_rfl) (by first | exact .inr hHeld | exact .inl (by kernel_rfl)) ?_
        rotate_left
        · intro oi hoi w; simp only [List.getElem?_toArray, List.getElem?_cons_zero, List.getElem?_cons_succ, Option.some.injEq] at hoi; subst hoi; go_simp; try with_reducible rfl
        simp only [Act.put, List.setIfInBounds_toArray, List.set_cons_zero, List.set_cons_succ]
        refine wpAnyV_takeP 3 34 (v := ?_) (by kernel_rfl) (by kernel_rfl) (by kernel_rfl) (by kernel_rfl) (fun _ _ _ h => h) ?_ (by kernel_rfl) (by first | exact .inr hHeld | exact .inl (by kernel_rfl)) ?_
        rotate_left
        · intro oi hoi w; simp only [List.getElem?_toArray, List.getElem?_cons_zero, List.getElem?_cons_succ, Option.some.injEq] at hoi; subst hoi; go_simp; try with_reducible rfl
        simp only [Act.put, List.setIfInBounds_toArray, List.set_cons_zero, List.set_cons_succ]
        refine wpAnyV_takeP 4 35 (v := ?_) (by kernel_rfl) (by kernel_rfl) (by kernel_rfl) (by kernel_rfl) (fun _ _ _ h => h) ?_ (by kernel_rfl) (by first | exact .inr hHeld | exact .inl (by kernel_rfl)) ?_
        rotate_left
        · intro oi hoi w; simp only [List.getElem?_toArray, List.getElem?_cons_zero, List.getElem?_cons_succ, Option.some.injEq] at hoi; subst hoi; go_simp; try with_reducible rfl
        simp only [Act.put, List.setIfInBounds_toArray, List.set_cons_zero, List.set_cons_succ]
        refine wpAnyV_takeD 5 36 (v := ?_) (by kernel_rfl) (by kernel_rfl) (by kernel_rfl) (by kernel_rfl) (fun _ _ _ h => h) (by kernel_rfl) ?_ (by assumption) ?_
        rotate_left
        · intro oi hoi w hSw; (try dsimp only at hSw); simp only [List.getElem?_toArray, List.getElem?_cons_zero, List.getElem?_cons_succ, Option.some.injEq] at hoi; subst hoi; go_simp; try with_reducible rfl
        simp only [Act.put, List.setIfInBounds_toArray, List.set_cons_zero, List.set_cons_succ]
        refine wpAnyV_takeP 6 37 (v := ?_) (by kernel_rfl) (by kernel_rfl) (by kernel_rfl) (by kernel_rfl) (fun _ _ _ h => h) ?_ (by kernel_rfl) (by first | exact .inr hHeld | exact .inl (by kernel_rfl)) ?_
        rotate_left
        · intro oi hoi w; simp only [List.getElem?_toArray, List.getElem?_cons_zero, List.getElem?_cons_succ, Option.some.injEq] at hoi; subst hoi; go_simp; try with_reducible rfl
        simp only [Act.put, List.setIfInBounds_toArray, List.set_cons_zero, List.set_cons_succ]
        refine wpAnyV_takeP 7 38 (v := ?_) (by kernel_rfl) (by kernel_rfl) (by kernel_rfl) (by kernel_rfl) (fun _ _ _ h => h) ?_ (by kernel_rfl) (by first | exact .inr hHeld | exact .inl (by kernel_rfl)) ?_
        rotate_left
        · intro oi hoi w; simp only [List.getElem?_toArray, List.getElem?_cons_zero, List.getElem?_cons_succ, Option.some.injEq] at hoi; subst hoi; go_simp; try with_reducible rfl
        simp only [Act.put, List.setIfInBounds_toArray, List.set_cons_zero, List.set_cons_succ]
        refine wpAnyV_takeP 8 39 (v := ?_) (by kernel_rfl) (by kernel_rfl) (by kernel_rfl) (by kernel_rfl) (fun _ _ _ h => h) ?_ (by kernel_rfl) (by first | exact .inr hHeld | exact .inl (by kernel_rfl)) ?_
        rotate_left
        · intro oi hoi w; simp only [List.getElem?_toArray, List.getElem?_cons_zero, List.getElem?_cons_succ, Option.some.injEq] at hoi; subst hoi; go_simp; try with_reducible rfl
        simp only [Act.put, List.setIfInBounds_toArray, List.set_cons_zero, List.set_cons_succ]
        refine wpAnyV_takeP 9 40 (v := ?_) (by kernel_rfl) (by kernel_rfl) (by kernel_rfl) (by kernel_rfl) (fun _ _ _ h => h) ?_ (by kernel_rfl) (by first | exact .inr hHeld | exact .inl (by kernel_rfl)) ?_
        rotate_left
        · intro oi hoi w; simp only [List.getElem?_toArray, List.getElem?_cons_zero, List.getElem?_cons_succ, Option.some.injEq] at hoi; subst hoi; go_simp; try with_reducible rfl
        simp only [Act.put, List.setIfInBounds_toArray, List.set_cons_zero, List.set_cons_succ]
        refine wpAnyV_takeP 10 41 (v := ?_) (by kernel_rfl) (by kernel_rfl) (by kernel_rfl) (by kernel_rfl) (fun _ _ _ h => h) ?_ (by kernel_rfl) (by first | exact .inr hHeld | exact .inl (by kernel_rfl)) ?_
        rotate_left
        · intro oi hoi w; simp only [List.getElem?_toArray, List.getElem?_cons_zero, List.getElem?_cons_succ, Option.some.injEq] at hoi; subst hoi; go_simp; try with_reducible rfl
        simp only [Act.put, List.setIfInBounds_toArray, List.set_cons_zero, List.set_cons_succ]
        refine wpAnyV_takeD 11 42 (v := ?_) (by kernel_rfl) (by kernel_rfl) (by kernel_rfl) (by kernel_rfl) (fun _ _ _ h => h) (by kernel_rfl) ?_ (by assumption) ?_
        rotate_left
        · intro oi hoi w hSw; (try dsimp only at hSw); simp only [List.getElem?_toArray, List.getElem?_cons_zero, List.getElem?_cons_succ, Option.some.injEq] at hoi; subst hoi; go_simp; try with_reducible rfl
        simp only [Act.put, List.setIfInBounds_toArray, List.set_cons_zero, List.set_cons_succ]
        refine wpAnyV_takeP 12 43 (v := ?_) (by kernel_rfl) (by kernel_rfl) (by kernel_rfl) (by kernel_rfl) (fun _ _ _ h => h) ?_ (by kernel_rfl) (by first | exact .inr hHeld | exact .inl (by kernel_rfl)) ?_
        rotate_left
        · intro oi hoi w; simp only [List.getElem?_toArray, List.getElem?_cons_zero, List.getElem?_cons_succ, Option.some.injEq] at hoi; subst hoi; go_simp; try with_reducible rfl
        simp only [Act.put, List.setIfInBounds_toArray, List.set_cons_zero, List.set_cons_succ]
        refine wpAnyV_takeP 13 44 (v := ?_) (by kernel_rfl) (by kernel_rfl) (by kernel_rfl) (by kernel_rfl) (fun _ _ _ h => h) ?_ (by kernel_rfl) (by first | exact .inr hHeld | exact .inl (by kernel_rfl)) ?_
        rotate_left
        · intro oi hoi w; simp only [List.getElem?_toArray, List.getElem?_cons_zero, List.getElem?_cons_succ, Option.some.injEq] at hoi; subst hoi; go_simp; try with_reducible rfl
        simp only [Act.put, List.setIfInBounds_toArray, List.set_cons_zero, List.set_cons_succ]
        refine wpAnyV_takeP 14 45 (v := ?_) (by kernel_rfl) (by kernel_rfl) (by kernel_rfl) (by kernel_rfl) (fun _ _ _ h => h) ?_ (by kernel_rfl) (by first | exact .inr hHeld | exact .inl (by kernel_rfl)) ?_
        rotate_left
        · intro oi hoi w; simp only [List.getElem?_toArray, List.getElem?_cons_zero, List.getElem?_cons_succ, Option.some.injEq] at hoi; subst hoi; go_simp; try with_reducible rfl
        simp only [Act.put, List.setIfInBounds_toArray, List.set_cons_zero, List.set_cons_succ]
        refine wpAnyV_takeP 15 46 (v := ?_) (by kernel_rfl) (by kernel_rfl) (by kernel_rfl) (by kernel_rfl) (fun _ _ _ h => h) ?_ (by kernel_rfl) (by first | exact .inr hHeld | exact .inl (by kernel_rfl)) ?_
        rotate_left
        · intro oi hoi w; simp only [List.getElem?_toArray, List.getElem?_cons_zero, List.getElem?_cons_succ, Option.some.injEq] at hoi; subst hoi; go_simp; try with_reducible rfl
        simp only [Act.put, List.setIfInBounds_toArray, List.set_cons_zero, List.set_cons_succ]
        refine wpAnyV_one 16 (by kernel_rfl) (by kernel_rfl) ?_
        intro o ho K hK
        simp only [List.getElem?_toArray, List.getElem?_cons_zero, List.getElem?_cons_succ, Option.some.injEq] at ho
        subst ho
        go_simp
        refine hK _ _ (.inl (by kernel_rfl)) (fun _ => ?_)
        clear hK K
        try simp only [Act.put, List.setIfInBounds_toArray, List.set_cons_zero, List.set_cons_succ]
        refine wpAnyV_takeP 17 47 (v := ?_) (by kernel_rfl) (by kernel_rfl) (by kernel_rfl) (by kernel_rfl) (fun _ _ _ h => h) ?_ (by kernel_rfl) (by first | exact .inr hHeld | exact .inl (by kernel_rfl)) ?_
        rotate_left
        · intro oi hoi w; simp only [List.getElem?_toArray, List.getElem?_cons_zero, List.getElem?_cons_succ, Option.some.injEq] at hoi; subst hoi; go_simp; try with_reducible rfl
        simp only [Act.put, List.setIfInBounds_toArray, List.set_cons_zero, List.set_cons_succ]
        refine wpAnyV_takeP 18 48 (v := ?_) (by kernel_rfl) (by kernel_rfl) (by kernel_rfl) (by kernel_rfl) (fun _ _ _ h => h) ?_ (by kernel_rfl) (by first | exact .inr hHeld | exact .inl (by kernel_rfl)) ?_
        rotate_left
        · intro oi hoi w; simp only [List.getElem?_toArray, List.getElem?_cons_zero, List.getElem?_cons_succ, Option.some.injEq] at hoi; subst hoi; go_simp; try with_reducible rfl
        simp only [Act.put, List.setIfInBounds_toArray, List.set_cons_zero, List.set_cons_succ]
        refine wpAnyV_one 19 (by kernel_rfl) (by kernel_rfl) ?_
        intro o ho K hK
        simp only [List.getElem?_toArray, List.getElem?_cons_zero, List.getElem?_cons_succ, Option.some.injEq] at ho
        subst ho
        go_simp
        refine hK _ _ (.inl (by kernel_rfl)) (fun _ => ?_)
        clear hK K
        try simp only [Act.put, List.setIfInBounds_toArray, List.set_cons_zero, List.set_cons_succ]
        refine wpAnyV_done (by kernel_rfl) ?_ _
        go_wp2_with fail
        go_end0
        exact ⟨rfl, HF.out _ (((hp.set1 _).set2 _).steps (Steps.refl (fun _ => False) _).drew (fun h => h))
          (((hst.trans (Steps.setCell (own := fun k => k = g) _ rfl _) (fun _ _ h => h)).trans (Steps.setCell (own := fun k => k = g) _ rfl _) (fun _ _ h => h)).drew)⟩
end Go.Proofs.Ytjkegmjjhdmkiaa
