/- The document's answer: which shifts there can be, walked. The document's answer: which shifts there can be, walked. The law BorderShifts, walked. -/
import Derived.Test.YtjkegmjjhdmkiaaBA28
import Derived.BigRegion
namespace Go.Proofs.Ytjkegmjjhdmkiaa
open Go.RowKit Go.Shelf
set_option maxHeartbeats 12800000
set_option maxRecDepth 100000
set_option linter.unusedSimpArgs false
set_option linter.unusedVariables false

/-- The least and the greatest of a first number and others. -/
def spanTo (f : Joined → Int) (x : Int) (L : List Joined) : Sp := L.foldl (fun s z => ⟨min s.lo (f z), max s.hi (f z)⟩) ⟨x, x⟩
theorem spanTo_snoc (f : Joined → Int) (x : Int) (L : List Joined) (z : Joined) : spanTo f x (L ++ [z]) = ⟨min (spanTo f x L).lo (f z), max (spanTo f x L).hi (f z)⟩ := by simp [spanTo]
theorem spanTo_succ (f : Joined → Int) (x : Int) (L : List Joined) (k : Nat) (h : k < L.length) : spanTo f x (L.take (k + 1)) = ⟨min (spanTo f x (L.take k)).lo (f L[k]), max (spanTo f x (L.take k)).hi (f L[k])⟩ := by
  rw [List.take_succ_eq_append_getElem h, spanTo_snoc]
theorem spanTo_fold (f : Joined → Int) : ∀ (L : List Joined) (s : Sp), (L.foldl (fun s z => ⟨min s.lo (f z), max s.hi (f z)⟩) s : Sp) = ⟨((L.map f).foldl Ends.put ⟨s.lo, s.hi, true⟩).lo, ((L.map f).foldl Ends.put ⟨s.lo, s.hi, true⟩).hi⟩
  | [], s => rfl
  | z :: L, s => by
    rw [List.foldl_cons, List.map_cons, List.foldl_cons, spanTo_fold f L]
    rfl
theorem spanTo_ends (f : Joined → Int) (L : List Joined) (h : 0 < L.length) : spanTo f (f L[0]) L = ⟨(endsOf (L.map f)).lo, (endsOf (L.map f)).hi⟩ := by
  cases L with
  | nil => cases h
  | cons z L =>
    unfold spanTo endsOf
    rw [spanTo_fold, List.map_cons]
    simp only [List.getElem_cons_zero, List.foldl_cons]
    have e1 : (⟨f z, f z, true⟩ : Ends).put (f z) = ⟨f z, f z, true⟩ := by simp [Ends.put]
    have e2 : (⟨0, 0, false⟩ : Ends).put (f z) = ⟨f z, f z, true⟩ := by simp [Ends.put]
    rw [e1, e2]

theorem two_same {w : World} {p : Nat} {x0 x1 : Value} (v0 v1 : Value) {T : TypeId} (h : w.heap[p]? = some (.cells #[x0, x1] T)) : ((w.setCell ⟨p, 0, none⟩ v0).setCell ⟨p, 1, none⟩ v1).heap[p]? = some (.cells #[v0, v1] T) :=
  heap_setCell_same _ _ 1 _ _ v1 (heap_setCell_same _ _ 0 _ _ v0 h)
theorem two_other {w : World} {o : Option Obj} (p k : Nat) (v0 v1 : Value) (h : k ≠ p) (ho : w.heap[k]? = o) : ((w.setCell ⟨p, 0, none⟩ v0).setCell ⟨p, 1, none⟩ v1).heap[k]? = o := by
  rw [Below.heap_setCell _ _ _ _ (by exact h), Below.heap_setCell _ _ _ _ (by exact h)]
  exact ho
theorem two_below {w w' : World} {p B : Nat} (v0 v1 : Value) (h : Below B w w') (hB : B ≤ p) : Below B w ((w'.setCell ⟨p, 0, none⟩ v0).setCell ⟨p, 1, none⟩ v1) :=
  (h.setCell (by exact hB) _).setCell (by exact hB) _

theorem shift_reg8 (g n c k q : Nat) (lo hi x : Int) (wA : World) {z0 z1 z2 z3 z4 z6 z8 z10 z11 z12 z13 z14 z15 z16 z17 z18 z19 z20 z21 z22 z23 z24 z25 z26 z27 z28 z29 z30 z31 z32 z33 z34 z35 z36 z37 z38 z39 z40 z41 z42 z43 z44 z45 z46 z47 z48 z49 z50 z51 z52 z53 z54 z55 z56 z57 z58 z59 z60 z61 z62 z63 z64 z65 z66 z67 z68 z69 z70 z71 z72 z73 z74 z75 z76 z77 z78 z79 : Value}
    (hq : wA.heap[q]? = some (.cells #[.int .i64 lo, .int .i64 hi] 23)) (hx : wA.cell? ⟨g, k * 3, none⟩ = some (.int .i64 x)) (hk : (k : Int) < n) (K : Act → World → Prop) (Q : Exit → Act → World → Prop)
    (hfin : ∀ (s44 s45 s46 s47 s48 s49 s50 s51 s52 s53 s54 s55 s56 s57 s58 s59 s60 : Value), K ⟨(z0 :: z1 :: z2 :: z3 :: z4 :: (.slice (some ⟨g, 0, none⟩) n c) :: z6 :: (.pointer (some ⟨q, 0, none⟩)) :: z8 :: (.int .i64 k) :: z10 :: z11 :: z12 :: z13 :: z14 :: z15 :: z16 :: z17 :: z18 :: z19 :: z20 :: z21 :: z22 :: z23 :: z24 :: z25 :: z26 :: z27 :: z28 :: z29 :: z30 :: z31 :: z32 :: z33 :: z34 :: z35 :: z36 :: z37 :: z38 :: z39 :: z40 :: z41 :: z42 :: z43 :: s44 :: s45 :: s46 :: s47 :: s48 :: s49 :: s50 :: s51 :: s52 :: s53 :: s54 :: s55 :: s56 :: s57 :: s58 :: s59 :: s60 :: z61 :: z62 :: z63 :: z64 :: z65 :: z66 :: z67 :: z68 :: z69 :: z70 :: z71 :: z72 :: z73 :: z74 :: z75 :: z76 :: z77 :: z78 :: z79 :: []).toArray, []⟩ ((wA.setCell ⟨q, 0, none⟩ (.int .i64 (if x < lo then x else lo))).setCell ⟨q, 1, none⟩ (.int .i64 (if hi < x then x else hi))).drew) :
    Code.wp Try.prog (((Try.f18.body.bind (findReg 8)).getD .skip)) (Exit.then K Q) ⟨(z0 :: z1 :: z2 :: z3 :: z4 :: (.slice (some ⟨g, 0, none⟩) n c) :: z6 :: (.pointer (some ⟨q, 0, none⟩)) :: z8 :: (.int .i64 k) :: z10 :: z11 :: z12 :: z13 :: z14 :: z15 :: z16 :: z17 :: z18 :: z19 :: z20 :: z21 :: z22 :: z23 :: z24 :: z25 :: z26 :: z27 :: z28 :: z29 :: z30 :: z31 :: z32 :: z33 :: z34 :: z35 :: z36 :: z37 :: z38 :: z39 :: z40 :: z41 :: z42 :: z43 :: z44 :: z45 :: z46 :: z47 :: z48 :: z49 :: z50 :: z51 :: z52 :: z53 :: z54 :: z55 :: z56 :: z57 :: z58 :: z59 :: z60 :: z61 :: z62 :: z63 :: z64 :: z65 :: z66 :: z67 :: z68 :: z69 :: z70 :: z71 :: z72 :: z73 :: z74 :: z75 :: z76 :: z77 :: z78 :: z79 :: []).toArray, []⟩ wA := by
  have HFIN := Lib.hid hfin
  have S0 : ∀ W', W' = wA.drew → W'.cell? ⟨q, 0, none⟩ = some (.int .i64 lo) := fun W' h => by subst h; exact cell_block hq 0
  have S1 : ∀ W', W' = wA.drew → W'.cell? ⟨q, 1, none⟩ = some (.int .i64 hi) := fun W' h => by subst h; exact cell_block hq 1
  have S2 : ∀ W', W' = wA.drew → W'.cell? ⟨g, k * 3, none⟩ = some (.int .i64 x) := fun W' h => by subst h; exact hx
  have Z0 := frozen_block hq 0
  have Z1 := frozen_block hq 1
  have C0 := cell_block hq 0
  have C1 := cell_block hq 1
  simp only [List.getElem?_toArray, List.getElem?_cons_zero, List.getElem?_cons_succ] at C0 C1
  clear hfin hx hq
  conv => arg 2; whnf
  refine (wpIn_wide (n := 1)).1 ?_
  refine wpIn_region_Vn (B := [17]) (S := fun W' => W' = wA.drew) 18 (by kernel_rfl) (by kernel_rfl) rfl (fun hHeld => ?_)
  refine wpAnyV_takeP 0 44 (v := ?_) (by kernel_rfl) (by kernel_rfl) (by kernel_rfl) (by kernel_rfl) (fun _ _ _ h => h) ?_ (by kernel_rfl) (by first | exact .inr hHeld | exact .inl (by kernel_rfl)) ?_
  rotate_left
  · intro oi hoi w; simp only [List.getElem?_toArray, List.getElem?_cons_zero, List.getElem?_cons_succ, Option.some.injEq] at hoi; subst hoi; go_simp; try with_reducible rfl
  simp only [Act.put, List.setIfInBounds_toArray, List.set_cons_zero, List.set_cons_succ]
  refine wpAnyV_takeD 1 45 (v := ?_) (by kernel_rfl) (by kernel_rfl) (by kernel_rfl) (by kernel_rfl) (fun _ _ _ h => h) (by kernel_rfl) ?_ (by assumption) ?_
  rotate_left
  · intro oi hoi w hSw; (try dsimp only at hSw); simp only [List.getElem?_toArray, List.getElem?_cons_zero, List.getElem?_cons_succ, Option.some.injEq] at hoi; subst hoi; go_simp; try with_reducible rfl
  simp only [Act.put, List.setIfInBounds_toArray, List.set_cons_zero, List.set_cons_succ]
  refine wpAnyV_takeP 2 46 (v := ?_) (by kernel_rfl) (by kernel_rfl) (by kernel_rfl) (by kernel_rfl) (fun _ _ _ h => h) ?_ (by kernel_rfl) (by first | exact .inr hHeld | exact .inl (by kernel_rfl)) ?_
  rotate_left
  · intro oi hoi w; simp only [List.getElem?_toArray, List.getElem?_cons_zero, List.getElem?_cons_succ, Option.some.injEq] at hoi; subst hoi; go_simp; try with_reducible rfl
  simp only [Act.put, List.setIfInBounds_toArray, List.set_cons_zero, List.set_cons_succ]
  refine wpAnyV_takeP 3 47 (v := ?_) (by kernel_rfl) (by kernel_rfl) (by kernel_rfl) (by kernel_rfl) (fun _ _ _ h => h) ?_ (by kernel_rfl) (by first | exact .inr hHeld | exact .inl (by kernel_rfl)) ?_
  rotate_left
  · intro oi hoi w; simp only [List.getElem?_toArray, List.getElem?_cons_zero, List.getElem?_cons_succ, Option.some.injEq] at hoi; subst hoi; go_simp; try with_reducible rfl
  simp only [Act.put, List.setIfInBounds_toArray, List.set_cons_zero, List.set_cons_succ]
  refine wpAnyV_takeP 4 48 (v := ?_) (by kernel_rfl) (by kernel_rfl) (by kernel_rfl) (by kernel_rfl) (fun _ _ _ h => h) ?_ (by kernel_rfl) (by first | exact .inr hHeld | exact .inl (by kernel_rfl)) ?_
  rotate_left
  · intro oi hoi w; simp only [List.getElem?_toArray, List.getElem?_cons_zero, List.getElem?_cons_succ, Option.some.injEq] at hoi; subst hoi; go_simp; try with_reducible rfl
  simp only [Act.put, List.setIfInBounds_toArray, List.set_cons_zero, List.set_cons_succ]
  refine wpAnyV_takeP 5 49 (v := ?_) (by kernel_rfl) (by kernel_rfl) (by kernel_rfl) (by kernel_rfl) (fun _ _ _ h => h) ?_ (by kernel_rfl) (by first | exact .inr hHeld | exact .inl (by kernel_rfl)) ?_
  rotate_left
  · intro oi hoi w; simp only [List.getElem?_toArray, List.getElem?_cons_zero, List.getElem?_cons_succ, Option.some.injEq] at hoi; subst hoi; go_simp; try with_reducible rfl
  simp only [Act.put, List.setIfInBounds_toArray, List.set_cons_zero, List.set_cons_succ]
  refine wpAnyV_takeD 6 50 (v := ?_) (by kernel_rfl) (by kernel_rfl) (by kernel_rfl) (by kernel_rfl) (fun _ _ _ h => h) (by kernel_rfl) ?_ (by assumption) ?_
  rotate_left
  · intro oi hoi w hSw; (try dsimp only at hSw); simp only [List.getElem?_toArray, List.getElem?_cons_zero, List.getElem?_cons_succ, Option.some.injEq] at hoi; subst hoi; go_simp; try with_reducible rfl
  simp only [Act.put, List.setIfInBounds_toArray, List.set_cons_zero, List.set_cons_succ]
  refine wpAnyV_takeP 7 51 (v := ?_) (by kernel_rfl) (by kernel_rfl) (by kernel_rfl) (by kernel_rfl) (fun _ _ _ h => h) ?_ (by kernel_rfl) (by first | exact .inr hHeld | exact .inl (by kernel_rfl)) ?_
  rotate_left
  · intro oi hoi w; simp only [List.getElem?_toArray, List.getElem?_cons_zero, List.getElem?_cons_succ, Option.some.injEq] at hoi; subst hoi; go_simp; try with_reducible rfl
  simp only [Act.put, List.setIfInBounds_toArray, List.set_cons_zero, List.set_cons_succ]
  refine wpAnyV_takeP 8 52 (v := ?_) (by kernel_rfl) (by kernel_rfl) (by kernel_rfl) (by kernel_rfl) (fun _ _ _ h => h) ?_ (by kernel_rfl) (by first | exact .inr hHeld | exact .inl (by kernel_rfl)) ?_
  rotate_left
  · intro oi hoi w; simp only [List.getElem?_toArray, List.getElem?_cons_zero, List.getElem?_cons_succ, Option.some.injEq] at hoi; subst hoi; go_simp; try with_reducible rfl
  simp only [Act.put, List.setIfInBounds_toArray, List.set_cons_zero, List.set_cons_succ]
  refine wpAnyV_takeD 9 53 (v := ?_) (by kernel_rfl) (by kernel_rfl) (by kernel_rfl) (by kernel_rfl) (fun _ _ _ h => h) (by kernel_rfl) ?_ (by assumption) ?_
  rotate_left
  · intro oi hoi w hSw; (try dsimp only at hSw); simp only [List.getElem?_toArray, List.getElem?_cons_zero, List.getElem?_cons_succ, Option.some.injEq] at hoi; subst hoi; go_simp; try with_reducible rfl
  simp only [Act.put, List.setIfInBounds_toArray, List.set_cons_zero, List.set_cons_succ]
  refine wpAnyV_takeP 10 54 (v := ?_) (by kernel_rfl) (by kernel_rfl) (by kernel_rfl) (by kernel_rfl) (fun _ _ _ h => h) ?_ (by kernel_rfl) (by first | exact .inr hHeld | exact .inl (by kernel_rfl)) ?_
  rotate_left
  · intro oi hoi w; simp only [List.getElem?_toArray, List.getElem?_cons_zero, List.getElem?_cons_succ, Option.some.injEq] at hoi; subst hoi; go_simp; try with_reducible rfl
  simp only [Act.put, List.setIfInBounds_toArray, List.set_cons_zero, List.set_cons_succ]
  refine wpAnyV_takeP 11 55 (v := ?_) (by kernel_rfl) (by kernel_rfl) (by kernel_rfl) (by kernel_rfl) (fun _ _ _ h => h) ?_ (by kernel_rfl) (by first | exact .inr hHeld | exact .inl (by kernel_rfl)) ?_
  rotate_left
  · intro oi hoi w; simp only [List.getElem?_toArray, List.getElem?_cons_zero, List.getElem?_cons_succ, Option.some.injEq] at hoi; subst hoi; go_simp; try with_reducible rfl
  simp only [Act.put, List.setIfInBounds_toArray, List.set_cons_zero, List.set_cons_succ]
  refine wpAnyV_takeP 12 56 (v := ?_) (by kernel_rfl) (by kernel_rfl) (by kernel_rfl) (by kernel_rfl) (fun _ _ _ h => h) ?_ (by kernel_rfl) (by first | exact .inr hHeld | exact .inl (by kernel_rfl)) ?_
  rotate_left
  · intro oi hoi w; simp only [List.getElem?_toArray, List.getElem?_cons_zero, List.getElem?_cons_succ, Option.some.injEq] at hoi; subst hoi; go_simp; try with_reducible rfl
  simp only [Act.put, List.setIfInBounds_toArray, List.set_cons_zero, List.set_cons_succ]
  refine wpAnyV_takeP 13 57 (v := ?_) (by kernel_rfl) (by kernel_rfl) (by kernel_rfl) (by kernel_rfl) (fun _ _ _ h => h) ?_ (by kernel_rfl) (by first | exact .inr hHeld | exact .inl (by kernel_rfl)) ?_
  rotate_left
  · intro oi hoi w; simp only [List.getElem?_toArray, List.getElem?_cons_zero, List.getElem?_cons_succ, Option.some.injEq] at hoi; subst hoi; go_simp; try with_reducible rfl
  simp only [Act.put, List.setIfInBounds_toArray, List.set_cons_zero, List.set_cons_succ]
  refine wpAnyV_takeD 14 58 (v := ?_) (by kernel_rfl) (by kernel_rfl) (by kernel_rfl) (by kernel_rfl) (fun _ _ _ h => h) (by kernel_rfl) ?_ (by assumption) ?_
  rotate_left
  · intro oi hoi w hSw; (try dsimp only at hSw); simp only [List.getElem?_toArray, List.getElem?_cons_zero, List.getElem?_cons_succ, Option.some.injEq] at hoi; subst hoi; go_simp; try with_reducible rfl
  simp only [Act.put, List.setIfInBounds_toArray, List.set_cons_zero, List.set_cons_succ]
  refine wpAnyV_takeP 15 59 (v := ?_) (by kernel_rfl) (by kernel_rfl) (by kernel_rfl) (by kernel_rfl) (fun _ _ _ h => h) ?_ (by kernel_rfl) (by first | exact .inr hHeld | exact .inl (by kernel_rfl)) ?_
  rotate_left
  · intro oi hoi w; simp only [List.getElem?_toArray, List.getElem?_cons_zero, List.getElem?_cons_succ, Option.some.injEq] at hoi; subst hoi; go_simp; try with_reducible rfl
  simp only [Act.put, List.setIfInBounds_toArray, List.set_cons_zero, List.set_cons_succ]
  refine wpAnyV_takeP 16 60 (v := ?_) (by kernel_rfl) (by kernel_rfl) (by kernel_rfl) (by kernel_rfl) (fun _ _ _ h => h) ?_ (by kernel_rfl) (by first | exact .inr hHeld | exact .inl (by kernel_rfl)) ?_
  rotate_left
  · intro oi hoi w; simp only [List.getElem?_toArray, List.getElem?_cons_zero, List.getElem?_cons_succ, Option.some.injEq] at hoi; subst hoi; go_simp; try with_reducible rfl
  simp only [Act.put, List.setIfInBounds_toArray, List.set_cons_zero, List.set_cons_succ]
  clear S0 S1 S2
  refine wpAnyV_one 17 (by kernel_rfl) (by kernel_rfl) ?_
  intro o ho K hK
  simp only [List.getElem?_toArray, List.getElem?_cons_zero, List.getElem?_cons_succ, Option.some.injEq] at ho
  subst ho
  go_simp
  refine hK _ _ (.inl (by kernel_rfl)) (fun _ => ?_)
  clear hK K
  try simp only [Act.put, List.setIfInBounds_toArray, List.set_cons_zero, List.set_cons_succ]
  refine wpAnyV_done (by kernel_rfl) ?_ _
  dsimp only [onNormal]
  exact HFIN.out _ _ _ _ _ _ _ _ _ _ _ _ _ _ _ _ _

theorem shift_reg9 (g n c k q : Nat) (lo hi x : Int) (wA : World) {z0 z1 z2 z3 z4 z6 z7 z10 z11 z12 z13 z14 z15 z16 z17 z18 z19 z20 z21 z22 z23 z24 z25 z26 z27 z28 z29 z30 z31 z32 z33 z34 z35 z36 z37 z38 z39 z40 z41 z42 z43 z44 z45 z46 z47 z48 z49 z50 z51 z52 z53 z54 z55 z56 z57 z58 z59 z60 z61 z62 z63 z64 z65 z66 z67 z68 z69 z70 z71 z72 z73 z74 z75 z76 z77 z78 z79 : Value}
    (hq : wA.heap[q]? = some (.cells #[.int .i64 lo, .int .i64 hi] 23)) (hx : wA.cell? ⟨g, k * 3 + 1, none⟩ = some (.int .i64 x)) (hk : (k : Int) < n) (K : Act → World → Prop) (Q : Exit → Act → World → Prop)
    (hfin : ∀ (s61 s62 s63 s64 s65 s66 s67 s68 s69 s70 s71 s72 s73 s74 s75 s76 s77 : Value), K ⟨(z0 :: z1 :: z2 :: z3 :: z4 :: (.slice (some ⟨g, 0, none⟩) n c) :: z6 :: z7 :: (.pointer (some ⟨q, 0, none⟩)) :: (.int .i64 k) :: z10 :: z11 :: z12 :: z13 :: z14 :: z15 :: z16 :: z17 :: z18 :: z19 :: z20 :: z21 :: z22 :: z23 :: z24 :: z25 :: z26 :: z27 :: z28 :: z29 :: z30 :: z31 :: z32 :: z33 :: z34 :: z35 :: z36 :: z37 :: z38 :: z39 :: z40 :: z41 :: z42 :: z43 :: z44 :: z45 :: z46 :: z47 :: z48 :: z49 :: z50 :: z51 :: z52 :: z53 :: z54 :: z55 :: z56 :: z57 :: z58 :: z59 :: z60 :: s61 :: s62 :: s63 :: s64 :: s65 :: s66 :: s67 :: s68 :: s69 :: s70 :: s71 :: s72 :: s73 :: s74 :: s75 :: s76 :: s77 :: z78 :: z79 :: []).toArray, []⟩ ((wA.setCell ⟨q, 0, none⟩ (.int .i64 (if x < lo then x else lo))).setCell ⟨q, 1, none⟩ (.int .i64 (if hi < x then x else hi))).drew) :
    Code.wp Try.prog (((Try.f18.body.bind (findReg 9)).getD .skip)) (Exit.then K Q) ⟨(z0 :: z1 :: z2 :: z3 :: z4 :: (.slice (some ⟨g, 0, none⟩) n c) :: z6 :: z7 :: (.pointer (some ⟨q, 0, none⟩)) :: (.int .i64 k) :: z10 :: z11 :: z12 :: z13 :: z14 :: z15 :: z16 :: z17 :: z18 :: z19 :: z20 :: z21 :: z22 :: z23 :: z24 :: z25 :: z26 :: z27 :: z28 :: z29 :: z30 :: z31 :: z32 :: z33 :: z34 :: z35 :: z36 :: z37 :: z38 :: z39 :: z40 :: z41 :: z42 :: z43 :: z44 :: z45 :: z46 :: z47 :: z48 :: z49 :: z50 :: z51 :: z52 :: z53 :: z54 :: z55 :: z56 :: z57 :: z58 :: z59 :: z60 :: z61 :: z62 :: z63 :: z64 :: z65 :: z66 :: z67 :: z68 :: z69 :: z70 :: z71 :: z72 :: z73 :: z74 :: z75 :: z76 :: z77 :: z78 :: z79 :: []).toArray, []⟩ wA := by
  have HFIN := Lib.hid hfin
  have S0 : ∀ W', W' = wA.drew → W'.cell? ⟨q, 0, none⟩ = some (.int .i64 lo) := fun W' h => by subst h; exact cell_block hq 0
  have S1 : ∀ W', W' = wA.drew → W'.cell? ⟨q, 1, none⟩ = some (.int .i64 hi) := fun W' h => by subst h; exact cell_block hq 1
  have S2 : ∀ W', W' = wA.drew → W'.cell? ⟨g, k * 3 + 1, none⟩ = some (.int .i64 x) := fun W' h => by subst h; exact hx
  have Z0 := frozen_block hq 0
  have Z1 := frozen_block hq 1
  have C0 := cell_block hq 0
  have C1 := cell_block hq 1
  simp only [List.getElem?_toArray, List.getElem?_cons_zero, List.getElem?_cons_succ] at C0 C1
  clear hfin hx hq
  conv => arg 2; whnf
  refine (wpIn_wide (n := 1)).1 ?_
  refine wpIn_region_Vn (B := [17]) (S := fun W' => W' = wA.drew) 18 (by kernel_rfl) (by kernel_rfl) rfl (fun hHeld => ?_)
  refine wpAnyV_takeP 0 61 (v := ?_) (by kernel_rfl) (by kernel_rfl) (by kernel_rfl) (by kernel_rfl) (fun _ _ _ h => h) ?_ (by kernel_rfl) (by first | exact .inr hHeld | exact .inl (by kernel_rfl)) ?_
  rotate_left
  · intro oi hoi w; simp only [List.getElem?_toArray, List.getElem?_cons_zero, List.getElem?_cons_succ, Option.some.injEq] at hoi; subst hoi; go_simp; try with_reducible rfl
  simp only [Act.put, List.setIfInBounds_toArray, List.set_cons_zero, List.set_cons_succ]
  refine wpAnyV_takeD 1 62 (v := ?_) (by kernel_rfl) (by kernel_rfl) (by kernel_rfl) (by kernel_rfl) (fun _ _ _ h => h) (by kernel_rfl) ?_ (by assumption) ?_
  rotate_left
  · intro oi hoi w hSw; (try dsimp only at hSw); simp only [List.getElem?_toArray, List.getElem?_cons_zero, List.getElem?_cons_succ, Option.some.injEq] at hoi; subst hoi; go_simp; try with_reducible rfl
  simp only [Act.put, List.setIfInBounds_toArray, List.set_cons_zero, List.set_cons_succ]
  refine wpAnyV_takeP 2 63 (v := ?_) (by kernel_rfl) (by kernel_rfl) (by kernel_rfl) (by kernel_rfl) (fun _ _ _ h => h) ?_ (by kernel_rfl) (by first | exact .inr hHeld | exact .inl (by kernel_rfl)) ?_
  rotate_left
  · intro oi hoi w; simp only [List.getElem?_toArray, List.getElem?_cons_zero, List.getElem?_cons_succ, Option.some.injEq] at hoi; subst hoi; go_simp; try with_reducible rfl
  simp only [Act.put, List.setIfInBounds_toArray, List.set_cons_zero, List.set_cons_succ]
  refine wpAnyV_takeP 3 64 (v := ?_) (by kernel_rfl) (by kernel_rfl) (by kernel_rfl) (by kernel_rfl) (fun _ _ _ h => h) ?_ (by kernel_rfl) (by first | exact .inr hHeld | exact .inl (by kernel_rfl)) ?_
  rotate_left
  · intro oi hoi w; simp only [List.getElem?_toArray, List.getElem?_cons_zero, List.getElem?_cons_succ, Option.some.injEq] at hoi; subst hoi; go_simp; try with_reducible rfl
  simp only [Act.put, List.setIfInBounds_toArray, List.set_cons_zero, List.set_cons_succ]
  refine wpAnyV_takeP 4 65 (v := ?_) (by kernel_rfl) (by kernel_rfl) (by kernel_rfl) (by kernel_rfl) (fun _ _ _ h => h) ?_ (by kernel_rfl) (by first | exact .inr hHeld | exact .inl (by kernel_rfl)) ?_
  rotate_left
  · intro oi hoi w; simp only [List.getElem?_toArray, List.getElem?_cons_zero, List.getElem?_cons_succ, Option.some.injEq] at hoi; subst hoi; go_simp; try with_reducible rfl
  simp only [Act.put, List.setIfInBounds_toArray, List.set_cons_zero, List.set_cons_succ]
  refine wpAnyV_takeP 5 66 (v := ?_) (by kernel_rfl) (by kernel_rfl) (by kernel_rfl) (by kernel_rfl) (fun _ _ _ h => h) ?_ (by kernel_rfl) (by first | exact .inr hHeld | exact .inl (by kernel_rfl)) ?_
  rotate_left
  · intro oi hoi w; simp only [List.getElem?_toArray, List.getElem?_cons_zero, List.getElem?_cons_succ, Option.some.injEq] at hoi; subst hoi; go_simp; try with_reducible rfl
  simp only [Act.put, List.setIfInBounds_toArray, List.set_cons_zero, List.set_cons_succ]
  refine wpAnyV_takeD 6 67 (v := ?_) (by kernel_rfl) (by kernel_rfl) (by kernel_rfl) (by kernel_rfl) (fun _ _ _ h => h) (by kernel_rfl) ?_ (by assumption) ?_
  rotate_left
  · intro oi hoi w hSw; (try dsimp only at hSw); simp only [List.getElem?_toArray, List.getElem?_cons_zero, List.getElem?_cons_succ, Option.some.injEq] at hoi; subst hoi; go_simp; try with_reducible rfl
  simp only [Act.put, List.setIfInBounds_toArray, List.set_cons_zero, List.set_cons_succ]
  refine wpAnyV_takeP 7 68 (v := ?_) (by kernel_rfl) (by kernel_rfl) (by kernel_rfl) (by kernel_rfl) (fun _ _ _ h => h) ?_ (by kernel_rfl) (by first | exact .inr hHeld | exact .inl (by kernel_rfl)) ?_
  rotate_left
  · intro oi hoi w; simp only [List.getElem?_toArray, List.getElem?_cons_zero, List.getElem?_cons_succ, Option.some.injEq] at hoi; subst hoi; go_simp; try with_reducible rfl
  simp only [Act.put, List.setIfInBounds_toArray, List.set_cons_zero, List.set_cons_succ]
  refine wpAnyV_takeP 8 69 (v := ?_) (by kernel_rfl) (by kernel_rfl) (by kernel_rfl) (by kernel_rfl) (fun _ _ _ h => h) ?_ (by kernel_rfl) (by first | exact .inr hHeld | exact .inl (by kernel_rfl)) ?_
  rotate_left
  · intro oi hoi w; simp only [List.getElem?_toArray, List.getElem?_cons_zero, List.getElem?_cons_succ, Option.some.injEq] at hoi; subst hoi; go_simp; try with_reducible rfl
  simp only [Act.put, List.setIfInBounds_toArray, List.set_cons_zero, List.set_cons_succ]
  refine wpAnyV_takeD 9 70 (v := ?_) (by kernel_rfl) (by kernel_rfl) (by kernel_rfl) (by kernel_rfl) (fun _ _ _ h => h) (by kernel_rfl) ?_ (by assumption) ?_
  rotate_left
  · intro oi hoi w hSw; (try dsimp only at hSw); simp only [List.getElem?_toArray, List.getElem?_cons_zero, List.getElem?_cons_succ, Option.some.injEq] at hoi; subst hoi; go_simp; try with_reducible rfl
  simp only [Act.put, List.setIfInBounds_toArray, List.set_cons_zero, List.set_cons_succ]
  refine wpAnyV_takeP 10 71 (v := ?_) (by kernel_rfl) (by kernel_rfl) (by kernel_rfl) (by kernel_rfl) (fun _ _ _ h => h) ?_ (by kernel_rfl) (by first | exact .inr hHeld | exact .inl (by kernel_rfl)) ?_
  rotate_left
  · intro oi hoi w; simp only [List.getElem?_toArray, List.getElem?_cons_zero, List.getElem?_cons_succ, Option.some.injEq] at hoi; subst hoi; go_simp; try with_reducible rfl
  simp only [Act.put, List.setIfInBounds_toArray, List.set_cons_zero, List.set_cons_succ]
  refine wpAnyV_takeP 11 72 (v := ?_) (by kernel_rfl) (by kernel_rfl) (by kernel_rfl) (by kernel_rfl) (fun _ _ _ h => h) ?_ (by kernel_rfl) (by first | exact .inr hHeld | exact .inl (by kernel_rfl)) ?_
  rotate_left
  · intro oi hoi w; simp only [List.getElem?_toArray, List.getElem?_cons_zero, List.getElem?_cons_succ, Option.some.injEq] at hoi; subst hoi; go_simp; try with_reducible rfl
  simp only [Act.put, List.setIfInBounds_toArray, List.set_cons_zero, List.set_cons_succ]
  refine wpAnyV_takeP 12 73 (v := ?_) (by kernel_rfl) (by kernel_rfl) (by kernel_rfl) (by kernel_rfl) (fun _ _ _ h => h) ?_ (by kernel_rfl) (by first | exact .inr hHeld | exact .inl (by kernel_rfl)) ?_
  rotate_left
  · intro oi hoi w; simp only [List.getElem?_toArray, List.getElem?_cons_zero, List.getElem?_cons_succ, Option.some.injEq] at hoi; subst hoi; go_simp; try with_reducible rfl
  simp only [Act.put, List.setIfInBounds_toArray, List.set_cons_zero, List.set_cons_succ]
  refine wpAnyV_takeP 13 74 (v := ?_) (by kernel_rfl) (by kernel_rfl) (by kernel_rfl) (by kernel_rfl) (fun _ _ _ h => h) ?_ (by kernel_rfl) (by first | exact .inr hHeld | exact .inl (by kernel_rfl)) ?_
  rotate_left
  · intro oi hoi w; simp only [List.getElem?_toArray, List.getElem?_cons_zero, List.getElem?_cons_succ, Option.some.injEq] at hoi; subst hoi; go_simp; try with_reducible rfl
  simp only [Act.put, List.setIfInBounds_toArray, List.set_cons_zero, List.set_cons_succ]
  refine wpAnyV_takeD 14 75 (v := ?_) (by kernel_rfl) (by kernel_rfl) (by kernel_rfl) (by kernel_rfl) (fun _ _ _ h => h) (by kernel_rfl) ?_ (by assumption) ?_
  rotate_left
  · intro oi hoi w hSw; (try dsimp only at hSw); simp only [List.getElem?_toArray, List.getElem?_cons_zero, List.getElem?_cons_succ, Option.some.injEq] at hoi; subst hoi; go_simp; try with_reducible rfl
  simp only [Act.put, List.setIfInBounds_toArray, List.set_cons_zero, List.set_cons_succ]
  refine wpAnyV_takeP 15 76 (v := ?_) (by kernel_rfl) (by kernel_rfl) (by kernel_rfl) (by kernel_rfl) (fun _ _ _ h => h) ?_ (by kernel_rfl) (by first | exact .inr hHeld | exact .inl (by kernel_rfl)) ?_
  rotate_left
  · intro oi hoi w; simp only [List.getElem?_toArray, List.getElem?_cons_zero, List.getElem?_cons_succ, Option.some.injEq] at hoi; subst hoi; go_simp; try with_reducible rfl
  simp only [Act.put, List.setIfInBounds_toArray, List.set_cons_zero, List.set_cons_succ]
  refine wpAnyV_takeP 16 77 (v := ?_) (by kernel_rfl) (by kernel_rfl) (by kernel_rfl) (by kernel_rfl) (fun _ _ _ h => h) ?_ (by kernel_rfl) (by first | exact .inr hHeld | exact .inl (by kernel_rfl)) ?_
  rotate_left
  · intro oi hoi w; simp only [List.getElem?_toArray, List.getElem?_cons_zero, List.getElem?_cons_succ, Option.some.injEq] at hoi; subst hoi; go_simp; try with_reducible rfl
  simp only [Act.put, List.setIfInBounds_toArray, List.set_cons_zero, List.set_cons_succ]
  clear S0 S1 S2
  refine wpAnyV_one 17 (by kernel_rfl) (by kernel_rfl) ?_
  intro o ho K hK
  simp only [List.getElem?_toArray, List.getElem?_cons_zero, List.getElem?_cons_succ, Option.some.injEq] at ho
  subst ho
  go_simp
  refine hK _ _ (.inl (by kernel_rfl)) (fun _ => ?_)
  clear hK K
  try simp only [Act.put, List.setIfInBounds_toArray, List.set_cons_zero, List.set_cons_succ]
  refine wpAnyV_done (by kernel_rfl) ?_ _
  dsimp only [onNormal]
  exact HFIN.out _ _ _ _ _ _ _ _ _ _ _ _ _ _ _ _ _

theorem shift_reg10 (p2 p3 q7 q8 : Nat) (sx sy : Sp) (wA : World) {z0 z1 z4 z5 z6 z9 z10 z11 z12 z13 z14 z15 z16 z17 z18 z19 z20 z21 z22 z23 z24 z25 z26 z27 z28 z29 z30 z31 z32 z33 z34 z35 z36 z37 z38 z39 z40 z41 z42 z43 z44 z45 z46 z47 z48 z49 z50 z51 z52 z53 z54 z55 z56 z57 z58 z59 z60 z61 z62 z63 z64 z65 z66 z67 z68 z69 z70 z71 z72 z73 z74 z75 z76 z77 z78 z79 : Value}
    (h2 : wA.heap[p2]? = some (.cells #[.int .i64 0, .int .i64 0] 23)) (h3 : wA.heap[p3]? = some (.cells #[.int .i64 0, .int .i64 0] 23)) (h7 : wA.heap[q7]? = some (.cells #[.int .i64 sx.lo, .int .i64 sx.hi] 23)) (h8 : wA.heap[q8]? = some (.cells #[.int .i64 sy.lo, .int .i64 sy.hi] 23))
    (n1 : ¬ p2 = q7) (n2 : ¬ p2 = q8) (n3 : ¬ p3 = q7) (n4 : ¬ p3 = q8) (n5 : ¬ p3 = p2) (n6 : ¬ p2 = p3) (K : Act → World → Prop) (Q : Exit → Act → World → Prop)
    (hfin : ∀ (s78 s79 : Value), K ⟨(z0 :: z1 :: (.pointer (some ⟨p2, 0, none⟩)) :: (.pointer (some ⟨p3, 0, none⟩)) :: (.int .i64 0) :: z5 :: z6 :: (.pointer (some ⟨q7, 0, none⟩)) :: (.pointer (some ⟨q8, 0, none⟩)) :: z9 :: z10 :: z11 :: z12 :: z13 :: z14 :: z15 :: z16 :: z17 :: z18 :: z19 :: z20 :: z21 :: z22 :: z23 :: z24 :: z25 :: z26 :: z27 :: z28 :: z29 :: z30 :: z31 :: z32 :: z33 :: z34 :: z35 :: z36 :: z37 :: z38 :: z39 :: z40 :: z41 :: z42 :: z43 :: z44 :: z45 :: z46 :: z47 :: z48 :: z49 :: z50 :: z51 :: z52 :: z53 :: z54 :: z55 :: z56 :: z57 :: z58 :: z59 :: z60 :: z61 :: z62 :: z63 :: z64 :: z65 :: z66 :: z67 :: z68 :: z69 :: z70 :: z71 :: z72 :: z73 :: z74 :: z75 :: z76 :: z77 :: s78 :: s79 :: []).toArray, []⟩ ((((wA.setCell ⟨p2, 0, none⟩ (.int .i64 sx.lo)).setCell ⟨p2, 1, none⟩ (.int .i64 sx.hi)).setCell ⟨p3, 0, none⟩ (.int .i64 sy.lo)).setCell ⟨p3, 1, none⟩ (.int .i64 sy.hi)).drew) :
    Code.wp Try.prog (((Try.f18.body.bind (findReg 10)).getD .skip)) (Exit.then K Q) ⟨(z0 :: z1 :: (.pointer (some ⟨p2, 0, none⟩)) :: (.pointer (some ⟨p3, 0, none⟩)) :: z4 :: z5 :: z6 :: (.pointer (some ⟨q7, 0, none⟩)) :: (.pointer (some ⟨q8, 0, none⟩)) :: z9 :: z10 :: z11 :: z12 :: z13 :: z14 :: z15 :: z16 :: z17 :: z18 :: z19 :: z20 :: z21 :: z22 :: z23 :: z24 :: z25 :: z26 :: z27 :: z28 :: z29 :: z30 :: z31 :: z32 :: z33 :: z34 :: z35 :: z36 :: z37 :: z38 :: z39 :: z40 :: z41 :: z42 :: z43 :: z44 :: z45 :: z46 :: z47 :: z48 :: z49 :: z50 :: z51 :: z52 :: z53 :: z54 :: z55 :: z56 :: z57 :: z58 :: z59 :: z60 :: z61 :: z62 :: z63 :: z64 :: z65 :: z66 :: z67 :: z68 :: z69 :: z70 :: z71 :: z72 :: z73 :: z74 :: z75 :: z76 :: z77 :: z78 :: z79 :: []).toArray, []⟩ wA := by
  have HFIN := Lib.hid hfin
  have r70 := cell_block h7 0
  have r71 := cell_block h7 1
  have r80 := cell_block h8 0
  have r81 := cell_block h8 1
  have r10 := cell_block h2 0
  have r11 := cell_block h2 1
  have r20 := cell_block h3 0
  have r21 := cell_block h3 1
  have z1 := frozen_block h2 0
  have z2 := frozen_block h3 0
  have z3 := frozen_block h2 1
  have z4 := frozen_block h3 1
  simp only [List.getElem?_toArray, List.getElem?_cons_zero, List.getElem?_cons_succ] at r70 r71 r80 r81 r10 r11 r20 r21
  clear h2 h3 h7 h8 hfin
  conv => arg 2; whnf
  go_region
  exact HFIN.out _ _

theorem two_new (w : World) (o1 o2 : Obj) : ((w.alloc o1).alloc o2).drew.heap[w.heap.size]? = some o1 ∧ ((w.alloc o1).alloc o2).drew.heap[w.heap.size + 1]? = some o2 := by
  have h1 : ((w.alloc o1).alloc o2).heap[w.heap.size]? = some o1 := by simp only [alloc_get, World.size_alloc]; rw [if_neg (by omega), if_pos (by trivial)]
  have h2 : ((w.alloc o1).alloc o2).heap[w.heap.size + 1]? = some o2 := by simp only [alloc_get, World.size_alloc]; rw [if_pos (by trivial)]
  exact ⟨h1, h2⟩
theorem shift_reg4 (g n c : Nat) (x y : Int) (w2 : World) {z0 z1 z2 z3 z4 z6 z7 z8 z9 z10 z11 z12 z13 z14 z15 z16 z17 z18 z19 z20 z21 z22 z23 z24 z25 z26 z27 z28 z29 z30 z31 z32 z33 z34 z35 z36 z37 z38 z39 z40 z41 z42 z43 z44 z45 z46 z47 z48 z49 z50 z51 z52 z53 z54 z55 z56 z57 z58 z59 z60 z61 z62 z63 z64 z65 z66 z67 z68 z69 z70 z71 z72 z73 z74 z75 z76 z77 z78 z79 : Value}
    (h0 : w2.cell? ⟨g, 0, none⟩ = some (.int .i64 x)) (h1 : w2.cell? ⟨g, 1, none⟩ = some (.int .i64 y)) (hn : 0 < n) (K : Act → World → Prop) (Q : Exit → Act → World → Prop)
    (hfin : ∀ (s20 s21 s22 s23 s24 s25 s26 s27 s28 s29 s30 s31 s32 s33 s34 s35 s36 s37 : Value) (q7 q8 : Nat) (W5 : World), q7 ≠ q8 → w2.heap.size ≤ q7 → w2.heap.size ≤ q8 → W5.heap[q7]? = some (.cells #[.int .i64 x, .int .i64 x] 23) → W5.heap[q8]? = some (.cells #[.int .i64 y, .int .i64 y] 23) → Below w2.heap.size w2 W5 → K ⟨(z0 :: z1 :: z2 :: z3 :: z4 :: (.slice (some ⟨g, 0, none⟩) n c) :: z6 :: (.pointer (some ⟨q7, 0, none⟩)) :: (.pointer (some ⟨q8, 0, none⟩)) :: z9 :: z10 :: z11 :: z12 :: z13 :: z14 :: z15 :: z16 :: z17 :: z18 :: z19 :: s20 :: s21 :: s22 :: s23 :: s24 :: s25 :: s26 :: s27 :: s28 :: s29 :: s30 :: s31 :: s32 :: s33 :: s34 :: s35 :: s36 :: s37 :: z38 :: z39 :: z40 :: z41 :: z42 :: z43 :: z44 :: z45 :: z46 :: z47 :: z48 :: z49 :: z50 :: z51 :: z52 :: z53 :: z54 :: z55 :: z56 :: z57 :: z58 :: z59 :: z60 :: z61 :: z62 :: z63 :: z64 :: z65 :: z66 :: z67 :: z68 :: z69 :: z70 :: z71 :: z72 :: z73 :: z74 :: z75 :: z76 :: z77 :: z78 :: z79 :: []).toArray, []⟩ W5) :
    Code.wp Try.prog (((Try.f18.body.bind (findReg 4)).getD .skip)) (Exit.then K Q) ⟨(z0 :: z1 :: z2 :: z3 :: z4 :: (.slice (some ⟨g, 0, none⟩) n c) :: z6 :: z7 :: z8 :: z9 :: z10 :: z11 :: z12 :: z13 :: z14 :: z15 :: z16 :: z17 :: z18 :: z19 :: z20 :: z21 :: z22 :: z23 :: z24 :: z25 :: z26 :: z27 :: z28 :: z29 :: z30 :: z31 :: z32 :: z33 :: z34 :: z35 :: z36 :: z37 :: z38 :: z39 :: z40 :: z41 :: z42 :: z43 :: z44 :: z45 :: z46 :: z47 :: z48 :: z49 :: z50 :: z51 :: z52 :: z53 :: z54 :: z55 :: z56 :: z57 :: z58 :: z59 :: z60 :: z61 :: z62 :: z63 :: z64 :: z65 :: z66 :: z67 :: z68 :: z69 :: z70 :: z71 :: z72 :: z73 :: z74 :: z75 :: z76 :: z77 :: z78 :: z79 :: []).toArray, []⟩ w2 := by
  have HFIN := Lib.hid hfin
  have S0 : ∀ W', Below w2.heap.size w2 W' → W'.cell? ⟨g, 0, none⟩ = some (.int .i64 x) := fun W' h => cell_later h h0
  have S1 : ∀ W', Below w2.heap.size w2 W' → W'.cell? ⟨g, 1, none⟩ = some (.int .i64 y) := fun W' h => cell_later h h1
  have HB1 : Hid (∀ (W : World) (o : Obj), Below w2.heap.size w2 W → Below w2.heap.size w2 (W.alloc o)) := Lib.hid (fun W o h => h.trans ((below_alloc W o).mono h.size))
  have HB2 : Hid (∀ (o1 o2 : Obj), Below w2.heap.size w2 ((w2.alloc o1).alloc o2).drew) := Lib.hid (fun o1 o2 => (HB1.out _ _ (HB1.out _ _ (Below.refl _ _))).trans ((below_drew _).mono (by simp; omega)))
  clear hfin h0 h1
  conv => arg 2; whnf
  refine (wpIn_wide (n := 1)).1 ?_
  refine wpIn_region_Wn (S := Below w2.heap.size w2) 22 (by kernel_rfl) (by kernel_rfl) (below_drew w2) (fun hHeld => ?_)
  refine wpAnyW_takeD 0 20 (v := ?_) (by kernel_rfl) (by kernel_rfl) (by kernel_rfl) (by kernel_rfl) (fun _ _ _ h => h) ?_ (by assumption) ?_
  rotate_left
  · intro oi hoi w hSw; (try dsimp only at hSw); simp only [List.getElem?_toArray, List.getElem?_cons_zero, List.getElem?_cons_succ, Option.some.injEq] at hoi; subst hoi; go_simp; try with_reducible rfl
  simp only [Act.put, List.setIfInBounds_toArray, List.set_cons_zero, List.set_cons_succ]
  refine wpAnyW_takeD 1 21 (v := ?_) (by kernel_rfl) (by kernel_rfl) (by kernel_rfl) (by kernel_rfl) (fun _ _ _ h => h) ?_ (by assumption) ?_
  rotate_left
  · intro oi hoi w hSw; (try dsimp only at hSw); simp only [List.getElem?_toArray, List.getElem?_cons_zero, List.getElem?_cons_succ, Option.some.injEq] at hoi; subst hoi; go_simp; try with_reducible rfl
  simp only [Act.put, List.setIfInBounds_toArray, List.set_cons_zero, List.set_cons_succ]
  refine wpAnyW_takeD 2 22 (v := ?_) (by kernel_rfl) (by kernel_rfl) (by kernel_rfl) (by kernel_rfl) (fun _ _ _ h => h) ?_ (by assumption) ?_
  rotate_left
  · intro oi hoi w hSw; (try dsimp only at hSw); simp only [List.getElem?_toArray, List.getElem?_cons_zero, List.getElem?_cons_succ, Option.some.injEq] at hoi; subst hoi; go_simp; try with_reducible rfl
  simp only [Act.put, List.setIfInBounds_toArray, List.set_cons_zero, List.set_cons_succ]
  refine wpAnyW_takeD 3 23 (v := ?_) (by kernel_rfl) (by kernel_rfl) (by kernel_rfl) (by kernel_rfl) (fun _ _ _ h => h) ?_ (by assumption) ?_
  rotate_left
  · intro oi hoi w hSw; (try dsimp only at hSw); simp only [List.getElem?_toArray, List.getElem?_cons_zero, List.getElem?_cons_succ, Option.some.injEq] at hoi; subst hoi; go_simp; try with_reducible rfl
  simp only [Act.put, List.setIfInBounds_toArray, List.set_cons_zero, List.set_cons_succ]
  refine wpAnyW_takeD 4 24 (v := ?_) (by kernel_rfl) (by kernel_rfl) (by kernel_rfl) (by kernel_rfl) (fun _ _ _ h => h) ?_ (by assumption) ?_
  rotate_left
  · intro oi hoi w hSw; (try dsimp only at hSw); simp only [List.getElem?_toArray, List.getElem?_cons_zero, List.getElem?_cons_succ, Option.some.injEq] at hoi; subst hoi; go_simp; try with_reducible rfl
  simp only [Act.put, List.setIfInBounds_toArray, List.set_cons_zero, List.set_cons_succ]
  refine wpAnyW_takeD 5 25 (v := ?_) (by kernel_rfl) (by kernel_rfl) (by kernel_rfl) (by kernel_rfl) (fun _ _ _ h => h) ?_ (by assumption) ?_
  rotate_left
  · intro oi hoi w hSw; (try dsimp only at hSw); simp only [List.getElem?_toArray, List.getElem?_cons_zero, List.getElem?_cons_succ, Option.some.injEq] at hoi; subst hoi; go_simp; try with_reducible rfl
  simp only [Act.put, List.setIfInBounds_toArray, List.set_cons_zero, List.set_cons_succ]
  refine wpAnyW_takeD 6 26 (v := ?_) (by kernel_rfl) (by kernel_rfl) (by kernel_rfl) (by kernel_rfl) (fun _ _ _ h => h) ?_ (by assumption) ?_
  rotate_left
  · intro oi hoi w hSw; (try dsimp only at hSw); simp only [List.getElem?_toArray, List.getElem?_cons_zero, List.getElem?_cons_succ, Option.some.injEq] at hoi; subst hoi; go_simp; try with_reducible rfl
  simp only [Act.put, List.setIfInBounds_toArray, List.set_cons_zero, List.set_cons_succ]
  refine wpAnyW_takeD 7 27 (v := ?_) (by kernel_rfl) (by kernel_rfl) (by kernel_rfl) (by kernel_rfl) (fun _ _ _ h => h) ?_ (by assumption) ?_
  rotate_left
  · intro oi hoi w hSw; (try dsimp only at hSw); simp only [List.getElem?_toArray, List.getElem?_cons_zero, List.getElem?_cons_succ, Option.some.injEq] at hoi; subst hoi; go_simp; try with_reducible rfl
  simp only [Act.put, List.setIfInBounds_toArray, List.set_cons_zero, List.set_cons_succ]
  refine wpAnyW_takeD 8 28 (v := ?_) (by kernel_rfl) (by kernel_rfl) (by kernel_rfl) (by kernel_rfl) (fun _ _ _ h => h) ?_ (by assumption) ?_
  rotate_left
  · intro oi hoi w hSw; (try dsimp only at hSw); simp only [List.getElem?_toArray, List.getElem?_cons_zero, List.getElem?_cons_succ, Option.some.injEq] at hoi; subst hoi; go_simp; try with_reducible rfl
  simp only [Act.put, List.setIfInBounds_toArray, List.set_cons_zero, List.set_cons_succ]
  refine wpAnyW_takeD 9 29 (v := ?_) (by kernel_rfl) (by kernel_rfl) (by kernel_rfl) (by kernel_rfl) (fun _ _ _ h => h) ?_ (by assumption) ?_
  rotate_left
  · intro oi hoi w hSw; (try dsimp only at hSw); simp only [List.getElem?_toArray, List.getElem?_cons_zero, List.getElem?_cons_succ, Option.some.injEq] at hoi; subst hoi; go_simp; try with_reducible rfl
  simp only [Act.put, List.setIfInBounds_toArray, List.set_cons_zero, List.set_cons_succ]
  refine wpAnyW_takeD 10 30 (v := ?_) (by kernel_rfl) (by kernel_rfl) (by kernel_rfl) (by kernel_rfl) (fun _ _ _ h => h) ?_ (by assumption) ?_
  rotate_left
  · intro oi hoi w hSw; (try dsimp only at hSw); simp only [List.getElem?_toArray, List.getElem?_cons_zero, List.getElem?_cons_succ, Option.some.injEq] at hoi; subst hoi; go_simp; try with_reducible rfl
  simp only [Act.put, List.setIfInBounds_toArray, List.set_cons_zero, List.set_cons_succ]
  refine wpAnyW_takeD 11 31 (v := ?_) (by kernel_rfl) (by kernel_rfl) (by kernel_rfl) (by kernel_rfl) (fun _ _ _ h => h) ?_ (by assumption) ?_
  rotate_left
  · intro oi hoi w hSw; (try dsimp only at hSw); simp only [List.getElem?_toArray, List.getElem?_cons_zero, List.getElem?_cons_succ, Option.some.injEq] at hoi; subst hoi; go_simp; try with_reducible rfl
  simp only [Act.put, List.setIfInBounds_toArray, List.set_cons_zero, List.set_cons_succ]
  refine wpAnyW_takeD 12 32 (v := ?_) (by kernel_rfl) (by kernel_rfl) (by kernel_rfl) (by kernel_rfl) (fun _ _ _ h => h) ?_ (by assumption) ?_
  rotate_left
  · intro oi hoi w hSw; (try dsimp only at hSw); simp only [List.getElem?_toArray, List.getElem?_cons_zero, List.getElem?_cons_succ, Option.some.injEq] at hoi; subst hoi; go_simp; try with_reducible rfl
  simp only [Act.put, List.setIfInBounds_toArray, List.set_cons_zero, List.set_cons_succ]
  refine wpAnyW_takeD 13 33 (v := ?_) (by kernel_rfl) (by kernel_rfl) (by kernel_rfl) (by kernel_rfl) (fun _ _ _ h => h) ?_ (by assumption) ?_
  rotate_left
  · intro oi hoi w hSw; (try dsimp only at hSw); simp only [List.getElem?_toArray, List.getElem?_cons_zero, List.getElem?_cons_succ, Option.some.injEq] at hoi; subst hoi; go_simp; try with_reducible rfl
  simp only [Act.put, List.setIfInBounds_toArray, List.set_cons_zero, List.set_cons_succ]
  refine wpAnyW_takeD 14 34 (v := ?_) (by kernel_rfl) (by kernel_rfl) (by kernel_rfl) (by kernel_rfl) (fun _ _ _ h => h) ?_ (by assumption) ?_
  rotate_left
  · intro oi hoi w hSw; (try dsimp only at hSw); simp only [List.getElem?_toArray, List.getElem?_cons_zero, List.getElem?_cons_succ, Option.some.injEq] at hoi; subst hoi; go_simp; try with_reducible rfl
  simp only [Act.put, List.setIfInBounds_toArray, List.set_cons_zero, List.set_cons_succ]
  refine wpAnyW_takeD 15 35 (v := ?_) (by kernel_rfl) (by kernel_rfl) (by kernel_rfl) (by kernel_rfl) (fun _ _ _ h => h) ?_ (by assumption) ?_
  rotate_left
  · intro oi hoi w hSw; (try dsimp only at hSw); simp only [List.getElem?_toArray, List.getElem?_cons_zero, List.getElem?_cons_succ, Option.some.injEq] at hoi; subst hoi; go_simp; try with_reducible rfl
  simp only [Act.put, List.setIfInBounds_toArray, List.set_cons_zero, List.set_cons_succ]
  refine wpAnyW_takeD 16 36 (v := ?_) (by kernel_rfl) (by kernel_rfl) (by kernel_rfl) (by kernel_rfl) (fun _ _ _ h => h) ?_ (by assumption) ?_
  rotate_left
  · intro oi hoi w hSw; (try dsimp only at hSw); simp only [List.getElem?_toArray, List.getElem?_cons_zero, List.getElem?_cons_succ, Option.some.injEq] at hoi; subst hoi; go_simp; try with_reducible rfl
  simp only [Act.put, List.setIfInBounds_toArray, List.set_cons_zero, List.set_cons_succ]
  refine wpAnyW_takeD 17 37 (v := ?_) (by kernel_rfl) (by kernel_rfl) (by kernel_rfl) (by kernel_rfl) (fun _ _ _ h => h) ?_ (by assumption) ?_
  rotate_left
  · intro oi hoi w hSw; (try dsimp only at hSw); simp only [List.getElem?_toArray, List.getElem?_cons_zero, List.getElem?_cons_succ, Option.some.injEq] at hoi; subst hoi; go_simp; try with_reducible rfl
  simp only [Act.put, List.setIfInBounds_toArray, List.set_cons_zero, List.set_cons_succ]
  clear S0 S1
  refine wpAnyW_two 18 19 (by kernel_rfl) ⟨by kernel_rfl, by kernel_rfl⟩ ?_ ?_
  · intro o ho K hK
    simp only [List.getElem?_toArray, List.getElem?_cons_zero, List.getElem?_cons_succ, Option.some.injEq] at ho
    subst ho
    go_simp
    refine hK _ _ (HB1.out _ _ hHeld) (fun _ => ?_)
    clear hK K
    try simp only [Act.put, List.setIfInBounds_toArray, List.set_cons_zero, List.set_cons_succ]
    refine wpAnyW_one 19 (by kernel_rfl) (by kernel_rfl) ?_
    intro o ho K hK
    simp only [List.getElem?_toArray, List.getElem?_cons_zero, List.getElem?_cons_succ, Option.some.injEq] at ho
    subst ho
    go_simp
    refine hK _ _ (HB1.out _ _ (HB1.out _ _ hHeld)) (fun _ => ?_)
    clear hK K
    try simp only [Act.put, List.setIfInBounds_toArray, List.set_cons_zero, List.set_cons_succ]
    refine wpAnyW_one 20 (by kernel_rfl) (by kernel_rfl) ?_
    intro o ho K hK
    simp only [List.getElem?_toArray, List.getElem?_cons_zero, List.getElem?_cons_succ, Option.some.injEq] at ho
    subst ho
    go_simp
    refine hK _ _ ?_ (fun _ => ?_)
    · exact HB2.out _ _
    clear hK K
    try simp only [Act.put, List.setIfInBounds_toArray, List.set_cons_zero, List.set_cons_succ]
    refine wpAnyW_one 21 (by kernel_rfl) (by kernel_rfl) ?_
    intro o ho K hK
    simp only [List.getElem?_toArray, List.getElem?_cons_zero, List.getElem?_cons_succ, Option.some.injEq] at ho
    subst ho
    go_simp
    refine hK _ _ ?_ (fun _ => ?_)
    · exact HB2.out _ _
    clear hK K
    try simp only [Act.put, List.setIfInBounds_toArray, List.set_cons_zero, List.set_cons_succ]
    refine wpAnyW_done (by kernel_rfl) ?_ _
    dsimp only [onNormal]
    exact HFIN.out _ _ _ _ _ _ _ _ _ _ _ _ _ _ _ _ _ _ w2.heap.size (w2.heap.size + 1) _ (by omega) (Nat.le_refl _) (by omega) (two_new _ _ _).1 (two_new _ _ _).2 (HB2.out _ _)
  · intro o ho K hK
    simp only [List.getElem?_toArray, List.getElem?_cons_zero, List.getElem?_cons_succ, Option.some.injEq] at ho
    subst ho
    go_simp
    refine hK _ _ (HB1.out _ _ hHeld) (fun _ => ?_)
    clear hK K
    try simp only [Act.put, List.setIfInBounds_toArray, List.set_cons_zero, List.set_cons_succ]
    refine wpAnyW_one 18 (by kernel_rfl) (by kernel_rfl) ?_
    intro o ho K hK
    simp only [List.getElem?_toArray, List.getElem?_cons_zero, List.getElem?_cons_succ, Option.some.injEq] at ho
    subst ho
    go_simp
    refine hK _ _ (HB1.out _ _ (HB1.out _ _ hHeld)) (fun _ => ?_)
    clear hK K
    try simp only [Act.put, List.setIfInBounds_toArray, List.set_cons_zero, List.set_cons_succ]
    refine wpAnyW_one 20 (by kernel_rfl) (by kernel_rfl) ?_
    intro o ho K hK
    simp only [List.getElem?_toArray, List.getElem?_cons_zero, List.getElem?_cons_succ, Option.some.injEq] at ho
    subst ho
    go_simp
    refine hK _ _ ?_ (fun _ => ?_)
    · exact HB2.out _ _
    clear hK K
    try simp only [Act.put, List.setIfInBounds_toArray, List.set_cons_zero, List.set_cons_succ]
    refine wpAnyW_one 21 (by kernel_rfl) (by kernel_rfl) ?_
    intro o ho K hK
    simp only [List.getElem?_toArray, List.getElem?_cons_zero, List.getElem?_cons_succ, Option.some.injEq] at ho
    subst ho
    go_simp
    refine hK _ _ ?_ (fun _ => ?_)
    · exact HB2.out _ _
    clear hK K
    try simp only [Act.put, List.setIfInBounds_toArray, List.set_cons_zero, List.set_cons_succ]
    refine wpAnyW_done (by kernel_rfl) ?_ _
    dsimp only [onNormal]
    exact HFIN.out _ _ _ _ _ _ _ _ _ _ _ _ _ _ _ _ _ _ (w2.heap.size + 1) w2.heap.size _ (by omega) (by omega) (Nat.le_refl _) (two_new _ _ _).2 (two_new _ _ _).1 (HB2.out _ _)

end Go.Proofs.Ytjkegmjjhdmkiaa
namespace Go.Proofs.Ytjkegmjjhdmkiaa
open Go.RowKit Go.Shelf
set_option maxHeartbeats 12800000
set_option maxRecDepth 100000
set_option linter.unusedSimpArgs false
set_option linter.unusedVariables false

theorem rshift_any (b : Bo) (fa sa : Option Addr) (fc sc : Nat) (w : World) (hb : BoArg w b fa sa) :
    Calls Try.prog 18 #[.agg #[.int .i64 b.e.lo, .int .i64 b.e.hi, .int .i64 b.n.lo, .int .i64 b.n.hi, .slice fa b.fs.length fc, .slice sa b.ss.length sc]] w (ShiftPost b w) := by
  have hdef : bShift b = if b.ok then if allOf b (sures b.fs) (sures b.ss) = [] then (⟨0, 0⟩, ⟨0, 0⟩, 4) else (⟨(endsOf ((allOf b (sures b.fs) (sures b.ss)).map (·.1.1))).lo, (endsOf ((allOf b (sures b.fs) (sures b.ss)).map (·.1.1))).hi⟩, ⟨(endsOf ((allOf b (sures b.fs) (sures b.ss)).map (·.1.2))).lo, (endsOf ((allOf b (sures b.fs) (sures b.ss)).map (·.1.2))).hi⟩, 0) else (⟨0, 0⟩, ⟨0, 0⟩, 1) := rfl
  have HD := Lib.hid hdef
  have HB := Lib.hid hb
  clear hb hdef
  go_enter Try.func18, Try.ntmps18
  go_wp2_with fail
  obtain ⟨W0, hW0⟩ : ∃ W, (((w.alloc (.cells #[.int .i64 b.e.lo, .int .i64 b.e.hi, .int .i64 b.n.lo, .int .i64 b.n.hi, .slice fa b.fs.length fc, .slice sa b.ss.length sc] 26)).alloc (.cells #[.int .i64 0, .int .i64 0] 23)).alloc (.cells #[.int .i64 0, .int .i64 0] 23)) = W := ⟨_, rfl⟩
  rw [hW0]
  try simp only [Nat.add_assoc, Nat.reduceAdd]
  have hst_W0 : Steps (fun _ => False) w W0 := by rw [← hW0]; exact ((Steps.alloc _ w _).trans (Steps.alloc (fun _ => False) _ _) (fun _ _ h => h)).trans (Steps.alloc (fun _ => False) _ _) (fun _ _ h => h)
  have hz_W0 : W0.heap.size = w.heap.size + 3 := by rw [← hW0]; simp
  have g0_W0 : W0.heap[w.heap.size]? = some (.cells #[.int .i64 b.e.lo, .int .i64 b.e.hi, .int .i64 b.n.lo, .int .i64 b.n.hi, .slice fa b.fs.length fc, .slice sa b.ss.length sc] 26) := by rw [← hW0]; simp only [alloc_get, World.size_alloc]; repeat (first | exact if_pos trivial | exact if_pos (by omega) | rw [if_neg (by omega)])
  have g1_W0 : W0.heap[w.heap.size + 1]? = some (.cells #[.int .i64 0, .int .i64 0] 23) := by rw [← hW0]; simp only [alloc_get, World.size_alloc]; repeat (first | exact if_pos trivial | exact if_pos (by omega) | rw [if_neg (by omega)])
  have g2_W0 : W0.heap[w.heap.size + 2]? = some (.cells #[.int .i64 0, .int .i64 0] 23) := by rw [← hW0]; simp only [alloc_get, World.size_alloc]; repeat (first | exact if_pos trivial | exact if_pos (by omega) | rw [if_neg (by omega)])
  clear hW0
  have hb0 : Below w.heap.size w W0 := hst_W0.below (Nat.le_refl _) (fun _ _ h => h)
  refine (ropen_any b fa sa fc sc true _ (HB.out.below hb0)).mono ?_
  rintro e w2 ⟨a, c, rfl, hR, hb1⟩
  have HJ := Lib.hid hR
  have hbw := hb0.trans (hb1.mono hb0.size)
  have hw3 : w.heap.size + 2 < w2.heap.size := by have := hb1.size; omega
  have g1 := obj_later hb1 g1_W0
  have g2 := obj_later hb1 g2_W0
  clear hR hb1 g0_W0 g1_W0 g2_W0 hb0 hst_W0 hz_W0
  rcases rOpen_cases b true with ⟨x, hro, hx0, hx1, hx2, hx4⟩ | ⟨hok, _, hro, hne⟩
  · rw [hro]
    have hxx : (x != 0) = true := by simpa using hx0
    have hres : bShift b = (⟨0, 0⟩, ⟨0, 0⟩, x) := by
      rw [HD.out]
      cases hok : b.ok
      · rw [hx1 hok]; rfl
      · obtain ⟨h1, h2⟩ := hx4 hok rfl
        rw [h1, h2]; rfl
    have HR := Lib.hid hres
    have c10 := cell_block g1 0
    have c11 := cell_block g1 1
    have c20 := cell_block g2 0
    have c21 := cell_block g2 1
    have f1 := frozen_block g1 0
    have f2 := frozen_block g2 0
    have f3 := frozen_block g1 1
    have f4 := frozen_block g2 1
    simp only [List.getElem?_toArray, List.getElem?_cons_zero, List.getElem?_cons_succ] at c10 c11 c20 c21
    clear hres hx1 hx2 hx4 hro hx0
    go_wp2
    have i1 := two_other (w.heap.size + 2) (w.heap.size + 1) (.int .i64 0) (.int .i64 0) (by omega) (two_same (.int .i64 0) (.int .i64 0) g1)
    have i2 := two_same (.int .i64 0) (.int .i64 0) (two_other (w.heap.size + 1) (w.heap.size + 2) (.int .i64 0) (.int .i64 0) (by omega) g2)
    have hbf := two_below (p := w.heap.size + 2) (.int .i64 0) (.int .i64 0) (two_below (p := w.heap.size + 1) (.int .i64 0) (.int .i64 0) hbw (by omega)) (by omega)
    refine bodyPost_ret (v := .tuple #[spV 0 0, spV 0 0, .int .i64 x]) ?_ rfl ⟨?_, hbf⟩
    · have d10 := cell_block i1 0
      have d11 := cell_block i1 1
      have d20 := cell_block i2 0
      have d21 := cell_block i2 1
      simp only [List.getElem?_toArray, List.getElem?_cons_zero, List.getElem?_cons_succ] at d10 d11 d20 d21
      generalize ((((w2.setCell ⟨w.heap.size + 1, 0, none⟩ (.int .i64 0)).setCell ⟨w.heap.size + 1, 1, none⟩ (.int .i64 0)).setCell ⟨w.heap.size + 2, 0, none⟩ (.int .i64 0)).setCell ⟨w.heap.size + 2, 1, none⟩ (.int .i64 0)) = X at d10 d11 d20 d21 ⊢
      simp [results, Try.results18, go_sem, d10, d11, d20, d21, spV]
    · rw [HR.out]
  · rw [hro] at HJ ⊢
    have hlen := allOf_len hok (sures b.fs) (sures b.ss)
    obtain ⟨L, hL⟩ : ∃ L, allOf b (sures b.fs) (sures b.ss) = L := ⟨_, rfl⟩
    rw [hL] at hne hlen HJ HD ⊢
    have hpos : 0 < L.length := List.length_pos_iff.2 hne
    have hres : bShift b = (⟨(endsOf (L.map (·.1.1))).lo, (endsOf (L.map (·.1.1))).hi⟩, ⟨(endsOf (L.map (·.1.2))).lo, (endsOf (L.map (·.1.2))).hi⟩, 0) := by
      rw [HD.out, hok, if_pos rfl, if_neg hne]
    rw [← spanTo_ends (·.1.1) _ hpos, ← spanTo_ends (·.1.2) _ hpos] at hres
    have HR := Lib.hid hres
    clear hres hro hne hok hL
    have hli : (L.length : Int) ≤ 202591578 := by omega
    have hl0 : (0 : Int) < (L.length : Int) := by omega
    obtain ⟨g, rfl, hg, h0, h1, _⟩ := HJ.out 0 hpos
    simp only [Nat.zero_mul, Nat.zero_add] at h0 h1
    go_upto_region 4 with fail
    obtain ⟨x, hx⟩ : ∃ x, L[0].1.1 = x := ⟨_, rfl⟩
    obtain ⟨y, hy⟩ : ∃ y, L[0].1.2 = y := ⟨_, rfl⟩
    rw [hx] at h0 HR
    rw [hy] at h1 HR
    clear hx hy
    refine shift_reg4 g L.length c x y w2 h0 h1 hpos _ _ ?_
    intro s20 s21 s22 s23 s24 s25 s26 s27 s28 s29 s30 s31 s32 s33 s34 s35 s36 s37 q7 q8 W5 hq1 hq2 hq3 G7 G8 hb1
    have HQ : Hid (q7 ≠ q8 ∧ w2.heap.size ≤ q7 ∧ w2.heap.size ≤ q8) := Lib.hid ⟨hq1, hq2, hq3⟩
    clear hq1 hq2 hq3
    go_wp2_with fail
    go_loopw [9] (fun i wr => ∃ k : Nat, k ≤ L.length ∧ i = .int .i64 k ∧ wr.heap[q7]? = some (.cells #[.int .i64 (spanTo (·.1.1) x (L.take k)).lo, .int .i64 (spanTo (·.1.1) x (L.take k)).hi] 23) ∧ wr.heap[q8]? = some (.cells #[.int .i64 (spanTo (·.1.2) y (L.take k)).lo, .int .i64 (spanTo (·.1.2) y (L.take k)).hi] 23) ∧ Below w2.heap.size w2 wr) (fun i _ => L.length - (intOf i).toNat)
    case atStart => exact ⟨0, Nat.zero_le _, rfl, G7, G8, hb1⟩
    case round =>
      obtain ⟨k, hk, rfl, K7, K8, hbr⟩ := hrel
      clear G7 G8 hb1 h0 h1
      by_cases hlt : k < L.length
      · have hki : (k : Int) < L.length := by omega
        obtain ⟨g', hg', hgl, h0, h1, _⟩ := (HJ.out.below hbr) k hlt
        have hgg : g = g' := by simpa using hg'
        subst hgg
        have hgq : g < w2.heap.size := hg
        have e7 : ¬ g = q7 := by have := HQ.out; omega
        have e8 : ¬ g = q8 := by have := HQ.out; omega
        have HS1 := Lib.hid (spanTo_succ (·.1.1) x L k hlt)
        have HS2 := Lib.hid (spanTo_succ (·.1.2) y L k hlt)
        obtain ⟨x1, hx1⟩ : ∃ x1, L[k].1.1 = x1 := ⟨_, rfl⟩
        obtain ⟨y1, hy1⟩ : ∃ y1, L[k].1.2 = y1 := ⟨_, rfl⟩
        simp only [hx1] at h0 HS1
        simp only [hy1] at h1 HS2
        clear hx1 hy1 hg' hgl
        generalize (spanTo (·.1.1) x (L.take k)) = sx at K7 HS1
        generalize (spanTo (·.1.2) y (L.take k)) = sy at K8 HS2
        go_upto_region 8 with fail
        refine shift_reg8 g L.length c k q7 sx.lo sx.hi x1 wr K7 h0 hki _ _ ?_
        intro s44 s45 s46 s47 s48 s49 s50 s51 s52 s53 s54 s55 s56 s57 s58 s59 s60
        have m7 := two_same (.int .i64 (if x1 < sx.lo then x1 else sx.lo)) (.int .i64 (if sx.hi < x1 then x1 else sx.hi)) K7
        have m8 := two_other q7 q8 (.int .i64 (if x1 < sx.lo then x1 else sx.lo)) (.int .i64 (if sx.hi < x1 then x1 else sx.hi)) (fun e => HQ.out.1 e.symm) K8
        have mg := two_other (w := wr) q7 g (.int .i64 (if x1 < sx.lo then x1 else sx.lo)) (.int .i64 (if sx.hi < x1 then x1 else sx.hi)) e7 rfl
        have mh1 : ((wr.setCell ⟨q7, 0, none⟩ (.int .i64 (if x1 < sx.lo then x1 else sx.lo))).setCell ⟨q7, 1, none⟩ (.int .i64 (if sx.hi < x1 then x1 else sx.hi))).drew.cell? ⟨g, k * 3 + 1, none⟩ = some (.int .i64 y1) := (World.cell?_of_block mg).trans h1
        have hb7 : Below w2.heap.size w2 ((wr.setCell ⟨q7, 0, none⟩ (.int .i64 (if x1 < sx.lo then x1 else sx.lo))).setCell ⟨q7, 1, none⟩ (.int .i64 (if sx.hi < x1 then x1 else sx.hi))).drew := (two_below _ _ hbr HQ.out.2.1).trans ((below_drew _).mono (two_below _ _ hbr HQ.out.2.1).size)
        have hlo : (if x1 < sx.lo then x1 else sx.lo) = min sx.lo x1 := by split <;> omega
        have hhi : (if sx.hi < x1 then x1 else sx.hi) = max sx.hi x1 := by split <;> omega
        have M7 : ((wr.setCell ⟨q7, 0, none⟩ (.int .i64 (if x1 < sx.lo then x1 else sx.lo))).setCell ⟨q7, 1, none⟩ (.int .i64 (if sx.hi < x1 then x1 else sx.hi))).drew.heap[q7]? = _ := m7
        have M8 : ((wr.setCell ⟨q7, 0, none⟩ (.int .i64 (if x1 < sx.lo then x1 else sx.lo))).setCell ⟨q7, 1, none⟩ (.int .i64 (if sx.hi < x1 then x1 else sx.hi))).drew.heap[q8]? = _ := m8
        clear m7 m8 mg K7 K8 h0 h1 hbr
        generalize ((wr.setCell ⟨q7, 0, none⟩ (.int .i64 (if x1 < sx.lo then x1 else sx.lo))).setCell ⟨q7, 1, none⟩ (.int .i64 (if sx.hi < x1 then x1 else sx.hi))).drew = W6 at M7 M8 mh1 hb7 ⊢
        rw [hlo, hhi] at M7
        have HM7 := Lib.hid M7
        clear M7 hlo hhi
        go_upto_region 9 with fail
        refine wp_last (shift_reg9 g L.length c k q8 sy.lo sy.hi y1 W6 M8 mh1 hki _ _ ?_)
        intro s61 s62 s63 s64 s65 s66 s67 s68 s69 s70 s71 s72 s73 s74 s75 s76 s77
        have n8 := two_same (.int .i64 (if y1 < sy.lo then y1 else sy.lo)) (.int .i64 (if sy.hi < y1 then y1 else sy.hi)) M8
        have n7 := two_other q8 q7 (.int .i64 (if y1 < sy.lo then y1 else sy.lo)) (.int .i64 (if sy.hi < y1 then y1 else sy.hi)) HQ.out.1 HM7.out
        have hlo : (if y1 < sy.lo then y1 else sy.lo) = min sy.lo y1 := by split <;> omega
        have hhi : (if sy.hi < y1 then y1 else sy.hi) = max sy.hi y1 := by split <;> omega
        have hb8 : Below w2.heap.size w2 ((W6.setCell ⟨q8, 0, none⟩ (.int .i64 (if y1 < sy.lo then y1 else sy.lo))).setCell ⟨q8, 1, none⟩ (.int .i64 (if sy.hi < y1 then y1 else sy.hi))).drew := (two_below _ _ hb7 HQ.out.2.2).trans ((below_drew _).mono (two_below _ _ hb7 HQ.out.2.2).size)
        have N7 : ((W6.setCell ⟨q8, 0, none⟩ (.int .i64 (if y1 < sy.lo then y1 else sy.lo))).setCell ⟨q8, 1, none⟩ (.int .i64 (if sy.hi < y1 then y1 else sy.hi))).drew.heap[q7]? = _ := n7
        have N8 : ((W6.setCell ⟨q8, 0, none⟩ (.int .i64 (if y1 < sy.lo then y1 else sy.lo))).setCell ⟨q8, 1, none⟩ (.int .i64 (if sy.hi < y1 then y1 else sy.hi))).drew.heap[q8]? = _ := n8
        generalize ((W6.setCell ⟨q8, 0, none⟩ (.int .i64 (if y1 < sy.lo then y1 else sy.lo))).setCell ⟨q8, 1, none⟩ (.int .i64 (if sy.hi < y1 then y1 else sy.hi))).drew = W7 at N7 N8 hb8 ⊢
        rw [hlo, hhi] at N8
        have HN7 := Lib.hid N7
        have HN8 := Lib.hid N8
        have HB8 := Lib.hid hb8
        clear n7 n8 N7 N8 hlo hhi hb7 hb8 M8 mh1 HM7
        go_wp2_with fail
        go_roundw
        case rel => exact ⟨k + 1, by omega, by go_num, by rw [HS1.out]; exact HN7.out, by rw [HS2.out]; exact HN8.out, HB8.out⟩
        case measure => simp [intOf]; omega
      · obtain rfl : k = L.length := by omega
        rw [List.take_length] at K7 K8
        go_upto_region 10 with fail
        generalize (spanTo (·.1.1) x L) = sx at K7 HR
        generalize (spanTo (·.1.2) y L) = sy at K8 HR
        have j1 := obj_later hbr g1
        have j2 := obj_later hbr g2
        have n1 : ¬ w.heap.size + 1 = q7 := by have := HQ.out; omega
        have n2 : ¬ w.heap.size + 1 = q8 := by have := HQ.out; omega
        have n3 : ¬ w.heap.size + 2 = q7 := by have := HQ.out; omega
        have n4 : ¬ w.heap.size + 2 = q8 := by have := HQ.out; omega
        have hbw9 := hbw.trans (hbr.mono hbw.size)
        refine wp_last (shift_reg10 (w.heap.size + 1) (w.heap.size + 2) q7 q8 sx sy wr j1 j2 K7 K8 n1 n2 n3 n4 (by omega) (by omega) _ _ ?_)
        intro s78 s79
        have i1 := two_other (w.heap.size + 2) (w.heap.size + 1) (.int .i64 sy.lo) (.int .i64 sy.hi) (by omega) (two_same (.int .i64 sx.lo) (.int .i64 sx.hi) j1)
        have i2 := two_same (.int .i64 sy.lo) (.int .i64 sy.hi) (two_other (w.heap.size + 1) (w.heap.size + 2) (.int .i64 sx.lo) (.int .i64 sx.hi) (by omega) j2)
        have hbf := two_below (p := w.heap.size + 2) (.int .i64 sy.lo) (.int .i64 sy.hi) (two_below (p := w.heap.size + 1) (.int .i64 sx.lo) (.int .i64 sx.hi) hbw9 (by omega)) (by omega)
        have hbf := hbf.trans ((below_drew _).mono hbf.size)
        have d10 := cell_block i1 0
        have d11 := cell_block i1 1
        have d20 := cell_block i2 0
        have d21 := cell_block i2 1
        simp only [List.getElem?_toArray, List.getElem?_cons_zero, List.getElem?_cons_succ] at d10 d11 d20 d21
        clear i1 i2 K7 K8 g1 g2 hbr hbw hbw9 j1 j2
        generalize ((((wr.setCell ⟨w.heap.size + 1, 0, none⟩ (.int .i64 sx.lo)).setCell ⟨w.heap.size + 1, 1, none⟩ (.int .i64 sx.hi)).setCell ⟨w.heap.size + 2, 0, none⟩ (.int .i64 sy.lo)).setCell ⟨w.heap.size + 2, 1, none⟩ (.int .i64 sy.hi)) = X at d10 d11 d20 d21 hbf ⊢
        go_wp2
        refine bodyPost_ret (v := .tuple #[spV sx.lo sx.hi, spV sy.lo sy.hi, .int .i64 0]) ?_ rfl ⟨?_, hbf⟩
        · simp [results, Try.results18, go_sem, d10, d11, d20, d21, spV]
        · rw [HR.out]
end Go.Proofs.Ytjkegmjjhdmkiaa
namespace Go.Proofs.Ytjkegmjjhdmkiaa
open Go.RowKit Go.Shelf
set_option maxHeartbeats 25600000
set_option maxRecDepth 100000
set_option linter.unusedSimpArgs false
set_option linter.unusedVariables false

theorem span_eql (a c : Int) (w : World) : (binOp .eql 23 (.agg #[.int .i64 a, .int .i64 c]) (.agg #[.int .i64 a, .int .i64 c])).run Try.prog w = .ok (.bool true) w := by
  rw [run_eql_struct, span_eq 9998]; rfl

theorem lawShifts_any (b : Bo) (fa sa : Option Addr) (fc sc : Nat) (first second east north : Int) (w : World) (hb : BoArg0 w b fa sa) :
    Calls Try.prog 3 #[.agg #[.int .i64 b.e.lo, .int .i64 b.e.hi, .int .i64 b.n.lo, .int .i64 b.n.hi, .slice fa b.fs.length fc, .slice sa b.ss.length sc], .int .i64 first, .int .i64 second, .int .i64 east, .int .i64 north] w fun e w' => e = .returned (.bool true) ∧ Below w.heap.size w w' := by
  have HB0 := Lib.hid hb
  clear hb
  go_enter Try.func3, Try.ntmps3
  go_wp2_with fail
  obtain ⟨W0, hW0⟩ : ∃ W, (w.alloc (.cells #[.int .i64 b.e.lo, .int .i64 b.e.hi, .int .i64 b.n.lo, .int .i64 b.n.hi, .slice fa b.fs.length fc, .slice sa b.ss.length sc] 26)) = W := ⟨_, rfl⟩
  rw [hW0]
  try simp only [Nat.add_assoc, Nat.reduceAdd]
  have hst_W0 : Steps (fun _ => False) w W0 := by rw [← hW0]; exact Steps.alloc _ w _
  have hz_W0 : W0.heap.size = w.heap.size + 1 := by rw [← hW0]; simp
  have g0_W0 : W0.heap[w.heap.size]? = some (.cells #[.int .i64 b.e.lo, .int .i64 b.e.hi, .int .i64 b.n.lo, .int .i64 b.n.hi, .slice fa b.fs.length fc, .slice sa b.ss.length sc] 26) := by rw [← hW0]; simp only [alloc_get, World.size_alloc]; repeat (first | exact if_pos trivial | exact if_pos (by omega) | rw [if_neg (by omega)])
  clear hW0
  have hb0 : Below w.heap.size w W0 := hst_W0.below (Nat.le_refl _) (fun _ _ h => h)
  refine (heavy_any b fa sa fc sc 4 40 W0 (HB0.out.below hb0)).mono ?_
  rintro e w1 ⟨rfl, hb1⟩
  have g1 := obj_later hb1 g0_W0
  replace hb0 := hb0.trans (hb1.mono hb0.size)
  clear hb1 g0_W0 hst_W0 hz_W0
  cases hh : heavyB b 4 40
  case true =>
    clear hh
    go_wp2_with fail
    refine (awake_any _).mono ?_
    rintro e w2 ⟨rfl, hb1⟩
    go_wp2
    go_ret
    exact ⟨rfl, hb0.trans (hb1.mono hb0.size)⟩
  have HB := Lib.hid (HB0.out.small hh)
  have H30 : Hid (b.fs.length ≤ 30) := Lib.hid (by
    unfold heavyB at hh
    simp only [Bool.or_eq_false_iff, decide_eq_false_iff_not] at hh
    have := hh.1
    unfold Bo.many at this
    omega)
  clear hh
  have c0 := cell_block g1 0
  have c1 := cell_block g1 1
  have c2 := cell_block g1 2
  have c3 := cell_block g1 3
  have c4 := cell_block g1 4
  have c5 := cell_block g1 5
  simp only [List.getElem?_toArray, List.getElem?_cons_zero, List.getElem?_cons_succ] at c0 c1 c2 c3 c4 c5
  go_wp2_with fail
  refine (xsame_any b first second east north fa sa fc sc _ (HB.out.below hb0)).mono ?_
  rintro e w2 ⟨rfl, hb1⟩
  have g2 := obj_later hb1 g1
  replace hb0 := hb0.trans (hb1.mono hb0.size)
  clear hb1 g1 c0 c1 c2 c3 c4 c5
  have c0 := cell_block g2 0
  have c1 := cell_block g2 1
  have c2 := cell_block g2 2
  have c3 := cell_block g2 3
  have c4 := cell_block g2 4
  have c5 := cell_block g2 5
  simp only [List.getElem?_toArray, List.getElem?_cons_zero, List.getElem?_cons_succ] at c0 c1 c2 c3 c4 c5
  go_wp2_with fail
  refine (rsame_any b first second east north fa sa fc sc _ (HB.out.below hb0)).mono ?_
  rintro e w3 ⟨rfl, hb1⟩
  have g3 := obj_later hb1 g2
  replace hb0 := hb0.trans (hb1.mono hb0.size)
  clear hb1 g2 c0 c1 c2 c3 c4 c5
  generalize bSame b first second east north = r1
  have c0 := cell_block g3 0
  have c1 := cell_block g3 1
  have c2 := cell_block g3 2
  have c3 := cell_block g3 3
  have c4 := cell_block g3 4
  have c5 := cell_block g3 5
  simp only [List.getElem?_toArray, List.getElem?_cons_zero, List.getElem?_cons_succ] at c0 c1 c2 c3 c4 c5
  go_wp2_with fail
  refine (possible_any b east north fa sa fc sc _ (HB.out.below hb0)).mono ?_
  rintro e w4 ⟨rfl, hb1⟩
  have g4 := obj_later hb1 g3
  replace hb0 := hb0.trans (hb1.mono hb0.size)
  clear hb1 g3 c0 c1 c2 c3 c4 c5
  have c0 := cell_block g4 0
  have c1 := cell_block g4 1
  have c2 := cell_block g4 2
  have c3 := cell_block g4 3
  have c4 := cell_block g4 4
  have c5 := cell_block g4 5
  simp only [List.getElem?_toArray, List.getElem?_cons_zero, List.getElem?_cons_succ] at c0 c1 c2 c3 c4 c5
  go_wp2_with fail
  refine (rpossible_any b east north fa sa fc sc _ (HB.out.below hb0)).mono ?_
  rintro e w5 ⟨rfl, hb1⟩
  have g5 := obj_later hb1 g4
  replace hb0 := hb0.trans (hb1.mono hb0.size)
  clear hb1 g4 c0 c1 c2 c3 c4 c5
  generalize bPossible b east north = r2
  have c0 := cell_block g5 0
  have c1 := cell_block g5 1
  have c2 := cell_block g5 2
  have c3 := cell_block g5 3
  have c4 := cell_block g5 4
  have c5 := cell_block g5 5
  simp only [List.getElem?_toArray, List.getElem?_cons_zero, List.getElem?_cons_succ] at c0 c1 c2 c3 c4 c5
  go_wp2_with fail
  refine (shift_any b fa sa fc sc _ (HB.out.below hb0)).mono ?_
  rintro e w6 ⟨rfl, hb1⟩
  have g6 := obj_later hb1 g5
  replace hb0 := hb0.trans (hb1.mono hb0.size)
  clear hb1 g5 c0 c1 c2 c3 c4 c5
  unfold spV
  go_upto_region 8 with fail
  obtain ⟨W7, hW7⟩ : ∃ W, ((w6.alloc (.cells #[.int .i64 (bShift b).1.lo, .int .i64 (bShift b).1.hi] 23)).alloc (.cells #[.int .i64 (bShift b).2.1.lo, .int .i64 (bShift b).2.1.hi] 23)) = W := ⟨_, rfl⟩
  rw [hW7]
  try simp only [Nat.add_assoc, Nat.reduceAdd]
  have hst_W7 : Steps (fun _ => False) w6 W7 := by rw [← hW7]; exact (Steps.alloc _ w6 _).trans (Steps.alloc (fun _ => False) _ _) (fun _ _ h => h)
  have hz_W7 : W7.heap.size = w6.heap.size + 2 := by rw [← hW7]; simp
  have g0_W7 : W7.heap[w6.heap.size]? = some (.cells #[.int .i64 (bShift b).1.lo, .int .i64 (bShift b).1.hi] 23) := by rw [← hW7]; simp only [alloc_get, World.size_alloc]; repeat (first | exact if_pos trivial | exact if_pos (by omega) | rw [if_neg (by omega)])
  have g1_W7 : W7.heap[w6.heap.size + 1]? = some (.cells #[.int .i64 (bShift b).2.1.lo, .int .i64 (bShift b).2.1.hi] 23) := by rw [← hW7]; simp only [alloc_get, World.size_alloc]; repeat (first | exact if_pos trivial | exact if_pos (by omega) | rw [if_neg (by omega)])
  clear hW7
  have hb1 : Below w6.heap.size w6 W7 := hst_W7.below (Nat.le_refl _) (fun _ _ h => h)
  have g7 := obj_later hb1 g6
  replace hb0 := hb0.trans (hb1.mono hb0.size)
  obtain ⟨p1, hp1⟩ : ∃ p, w6.heap.size = p := ⟨_, rfl⟩
  rw [hp1] at g0_W7 g1_W7 ⊢
  clear hb1 g6 hst_W7 hz_W7 hp1
  have c0 := cell_block g7 0
  have c1 := cell_block g7 1
  have c2 := cell_block g7 2
  have c3 := cell_block g7 3
  have c4 := cell_block g7 4
  have c5 := cell_block g7 5
  simp only [List.getElem?_toArray, List.getElem?_cons_zero, List.getElem?_cons_succ] at c0 c1 c2 c3 c4 c5
  go_wp2_with fail
  refine (rshift_any b fa sa fc sc _ (HB.out.below hb0)).mono ?_
  rintro e w8 ⟨rfl, hb1⟩
  have g8 := obj_later hb1 g7
  have m0 := obj_later hb1 g0_W7
  have m1 := obj_later hb1 g1_W7
  replace hb0 := hb0.trans (hb1.mono hb0.size)
  clear hb1 g7 g0_W7 g1_W7 c0 c1 c2 c3 c4 c5
  unfold spV
  generalize bShift b = r3 at m0 m1 ⊢
  go_upto_region 9 with fail
  obtain ⟨W9, hW9⟩ : ∃ W, ((w8.alloc (.cells #[.int .i64 r3.1.lo, .int .i64 r3.1.hi] 23)).alloc (.cells #[.int .i64 r3.2.1.lo, .int .i64 r3.2.1.hi] 23)) = W := ⟨_, rfl⟩
  rw [hW9]
  try simp only [Nat.add_assoc, Nat.reduceAdd]
  have hst_W9 : Steps (fun _ => False) w8 W9 := by rw [← hW9]; exact (Steps.alloc _ w8 _).trans (Steps.alloc (fun _ => False) _ _) (fun _ _ h => h)
  have hz_W9 : W9.heap.size = w8.heap.size + 2 := by rw [← hW9]; simp
  have g0_W9 : W9.heap[w8.heap.size]? = some (.cells #[.int .i64 r3.1.lo, .int .i64 r3.1.hi] 23) := by rw [← hW9]; simp only [alloc_get, World.size_alloc]; repeat (first | exact if_pos trivial | exact if_pos (by omega) | rw [if_neg (by omega)])
  have g1_W9 : W9.heap[w8.heap.size + 1]? = some (.cells #[.int .i64 r3.2.1.lo, .int .i64 r3.2.1.hi] 23) := by rw [← hW9]; simp only [alloc_get, World.size_alloc]; repeat (first | exact if_pos trivial | exact if_pos (by omega) | rw [if_neg (by omega)])
  clear hW9
  have hb1 : Below w8.heap.size w8 W9 := hst_W9.below (Nat.le_refl _) (fun _ _ h => h)
  have g9 := obj_later hb1 g8
  have m2 := obj_later hb1 m0
  have m3 := obj_later hb1 m1
  replace hb0 := hb0.trans (hb1.mono hb0.size)
  obtain ⟨p3, hp3⟩ : ∃ p, w8.heap.size = p := ⟨_, rfl⟩
  rw [hp3] at g0_W9 g1_W9 ⊢
  clear hb1 g8 m0 m1 hst_W9 hz_W9 hp3
  have c0 := cell_block g9 0
  have c1 := cell_block g9 1
  have c2 := cell_block g9 2
  have c3 := cell_block g9 3
  have c4 := cell_block g9 4
  have c5 := cell_block g9 5
  simp only [List.getElem?_toArray, List.getElem?_cons_zero, List.getElem?_cons_succ] at c0 c1 c2 c3 c4 c5
  go_wp2_with fail
  refine (pairs_any b first fa sa fc sc _ (HB.out.below hb0)).mono ?_
  rintro e w10 ⟨rfl, hb1⟩
  have g10 := obj_later hb1 g9
  have m4 := obj_later hb1 m2
  have m5 := obj_later hb1 m3
  have m6 := obj_later hb1 g0_W9
  have m7 := obj_later hb1 g1_W9
  replace hb0 := hb0.trans (hb1.mono hb0.size)
  clear hb1 g9 m2 m3 g0_W9 g1_W9 c0 c1 c2 c3 c4 c5
  have c0 := cell_block g10 0
  have c1 := cell_block g10 1
  have c2 := cell_block g10 2
  have c3 := cell_block g10 3
  have c4 := cell_block g10 4
  have c5 := cell_block g10 5
  simp only [List.getElem?_toArray, List.getElem?_cons_zero, List.getElem?_cons_succ] at c0 c1 c2 c3 c4 c5
  go_wp2_with fail
  refine (rpairs_any b first fa sa fc sc _ (HB.out.below hb0) H30.out).mono ?_
  rintro e w11 ⟨rfl, hb1⟩
  have n4 := obj_later hb1 m4
  have n5 := obj_later hb1 m5
  have n6 := obj_later hb1 m6
  have n7 := obj_later hb1 m7
  replace hb0 := hb0.trans (hb1.mono hb0.size)
  clear hb1 g10 m4 m5 m6 m7 c0 c1 c2 c3 c4 c5
  generalize bPairs b first = r4
  have k0 := cell_block n4 0
  have k1 := cell_block n4 1
  have k2 := cell_block n5 0
  have k3 := cell_block n5 1
  have k4 := cell_block n6 0
  have k5 := cell_block n6 1
  have k6 := cell_block n7 0
  have k7 := cell_block n7 1
  simp only [List.getElem?_toArray, List.getElem?_cons_zero, List.getElem?_cons_succ] at k0 k1 k2 k3 k4 k5 k6 k7
  have hq1 := span_eql r3.1.lo r3.1.hi
  have hq2 := span_eql r3.2.1.lo r3.2.1.hi
  go_wp2_with fail
  refine (awake_any _).mono ?_
  rintro e w12 ⟨rfl, hb1⟩
  go_wp2
  go_ret
  exact ⟨rfl, hb0.trans (hb1.mono hb0.size)⟩
end Go.Proofs.Ytjkegmjjhdmkiaa
