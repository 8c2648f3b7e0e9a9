/- The document's joinings, walked: one entry more. The document's joinings, walked: can they be the same, and is the star free. -/
import Derived.Test.YtjkegmjjhdmkiaaBU24
import Derived.Test.YtjkegmjjhdmkiaaBU25
import Derived.Test.YtjkegmjjhdmkiaaBU21
namespace Go.Proofs.Ytjkegmjjhdmkiaa
open Go.RowKit Go.Shelf
set_option maxHeartbeats 12800000
set_option maxRecDepth 100000
set_option linter.unusedSimpArgs false

/-- A region of a function's text. -/
def findReg (n : Nat) : Code → Option Code
  | .region m ops d => if m == n then some (.region m ops d) else none
  | .seq a b => match findReg n a with
    | some c => some c
    | none => findReg n b
  | .cond _ a b => match findReg n a with
    | some c => some c
    | none => findReg n b
  | .block _ c => findReg n c
  | .loop c => findReg n c
  | .scope c => findReg n c
  | _ => none

theorem wpIn_append' {P : Program} {n : Nat} {o : Oper} {a : Act} {w w' : World} {K : Act → World → Prop} {Q : Exit → Act → World → Prop} (s x : Operand) (t : TypeId) (v1 v2 v : Value)
    (ho : o.op = .call { callee := .builtin .append, args := #[s, x], argTypes := #[t, t] }) (hs : a.eval s = v1) (hx : a.eval x = v2)
    (hr : (Builtin.append_ #[t, t] o.type #[v1, v2]).run P w = .ok v w') (h : K (a.put o.dst v) w') : Oper.wpIn Fence.wide n P o a w K Q := by
  refine ⟨wideAll, ?_⟩
  have e : (o.semAt Fence.wide.round a.eval).run P w = .ok (.value v) w' := by
    show (execOp a.eval o).run P w = _
    unfold execOp
    simp only [ho, resolve, invoke, builtin, Sem.run_bind, Sem.run_pure, Result.andThen_ok, List.map_toArray, List.map_cons, List.map_nil, hs, hx, hr]
  rw [e]
  exact h
theorem OutIs.not_box {w : World} {base p : Nat} {v : Value} {L : List (List Int)} {cs : Array Value} {fz : Nat × Nat} (h : OutIs w base v L) (hp : w.heap[p]? = some (.cells cs 26 fz)) : v.ownBlock ≠ some p := by
  obtain ⟨xs, hown, _⟩ := h
  intro e
  rcases hown.2 with ⟨rfl, _⟩ | ⟨g, cap, cur, rfl, _, hg, _⟩
  · cases e
  · have : g = p := by simpa [Value.ownBlock] using e
    subst this
    rw [hp] at hg
    cases hg
theorem OutIs.blk_lt {w : World} {base g : Nat} {v : Value} {L : List (List Int)} (h : OutIs w base v L) (e : v.ownBlock = some g) : g < w.heap.size := by
  obtain ⟨xs, hown, _⟩ := h
  exact (hown.lt g e).2
theorem ElAt.src {w w' : World} {base n : Nat} {rb : Option Nat} {x : List Int} {a : Option Addr} {c : Nat} (h : ElAt w base rb x (.slice a n c)) (hb : Below w.heap.size w w') : (a = none ∧ x = []) ∨ ∃ p, a = some ⟨p, 0, none⟩ ∧ IntsAt w' p x := by
  obtain ⟨a', cap, e, h⟩ := h
  cases e
  refine h.imp id ?_
  rintro ⟨q, rfl, hI, _⟩
  exact ⟨q, rfl, hI.later (hb.block q hI.lt)⟩
theorem Below.grownB {w w' : World} (h : Below w.heap.size w w') (rb : Option Nat) : w.grownBy w' rb := ⟨h.os, h.tape, h.output, h.size, fun k hk _ => h.block k hk⟩

theorem join_reg10 (b : Bo) (fa sa : Option Addr) (fc sc p cap base : Nat) (z : Int × Int) (a : Option Addr) (l : List Int) (v1 : Value) (L1 L3 : List (List Int)) (wA : World) {z0 z6 z7 z8 z9 z10 z11 z12 z13 z14 z15 z16 z17 z18 z19 z20 z21 z22 z23 z24 z25 z26 z27 z28 z29 z30 z31 z32 z33 z34 z35 z36 z37 z38 z39 z40 z41 z42 z43 z44 z45 z46 z47 z48 z49 z50 z51 z52 z53 z54 z55 z56 z57 z58 z59 z60 z61 z62 z63 z64 z65 z66 z67 z68 z69 z70 z71 z72 z73 z74 z75 z76 z77 z78 z79 z80 z81 z82 z83 z84 z85 z86 z87 z88 z89 z90 z91 z92 z93 z94 z95 z96 z97 z98 z99 : Value}
    (PA : wA.heap[p]? = some (.cells #[.int .i64 b.e.lo, .int .i64 b.e.hi, .int .i64 b.n.lo, .int .i64 b.n.hi, .slice fa b.fs.length fc, .slice sa b.ss.length sc] 26)) (OA : OutIs wA base v1 L1) (HE : Hid (ElAt wA base v1.ownBlock l (.slice a l.length cap))) (hl : l.length ≤ 6) (hbase : base ≤ wA.heap.size) (K : Act → World → Prop) (Q : Exit → Act → World → Prop)
    (IH : ∀ a' cap' w', Below wA.heap.size wA w' → ElAt w' base v1.ownBlock (l ++ [-1]) (.slice a' (l.length + 1) cap') → Calls Try.prog 76 #[.agg #[.int .i64 b.e.lo, .int .i64 b.e.hi, .int .i64 b.n.lo, .int .i64 b.n.hi, .slice fa b.fs.length fc, .slice sa b.ss.length sc], .int .i64 z.1, .int .i64 z.2, .slice a' (l.length + 1) cap', v1] w' (JPost base v1 L3 w'))
    (hfin : ∀ (s52 s53 s54 s55 s56 s57 s58 s59 s60 s61 v3 : Value) (w3 : World), OutIs w3 base v3 L3 → wA.grownBy w3 v1.ownBlock → RowNext wA v1 v3 → K ⟨(z0 :: (.int .i64 z.1) :: (.int .i64 z.2) :: (.slice a l.length cap) :: v3 :: (.pointer (some ⟨p, 0, none⟩)) :: z6 :: z7 :: z8 :: z9 :: z10 :: z11 :: z12 :: z13 :: z14 :: z15 :: z16 :: z17 :: z18 :: z19 :: z20 :: z21 :: z22 :: z23 :: z24 :: z25 :: z26 :: z27 :: z28 :: z29 :: z30 :: z31 :: z32 :: z33 :: z34 :: z35 :: z36 :: z37 :: z38 :: z39 :: z40 :: z41 :: z42 :: z43 :: z44 :: z45 :: z46 :: z47 :: z48 :: z49 :: z50 :: z51 :: s52 :: s53 :: s54 :: s55 :: s56 :: s57 :: s58 :: s59 :: s60 :: s61 :: z62 :: z63 :: z64 :: z65 :: z66 :: z67 :: z68 :: z69 :: z70 :: z71 :: z72 :: z73 :: z74 :: z75 :: z76 :: z77 :: z78 :: z79 :: z80 :: z81 :: z82 :: z83 :: z84 :: z85 :: z86 :: z87 :: z88 :: z89 :: z90 :: z91 :: z92 :: z93 :: z94 :: z95 :: z96 :: z97 :: z98 :: z99 :: []).toArray, []⟩ w3) :
    Code.wp Try.prog (((Try.f76.body.bind (findReg 10)).getD .skip)) (Exit.then K Q) ⟨(z0 :: (.int .i64 z.1) :: (.int .i64 z.2) :: (.slice a l.length cap) :: v1 :: (.pointer (some ⟨p, 0, none⟩)) :: z6 :: z7 :: z8 :: z9 :: z10 :: z11 :: z12 :: z13 :: z14 :: z15 :: z16 :: z17 :: z18 :: z19 :: z20 :: z21 :: z22 :: z23 :: z24 :: z25 :: z26 :: z27 :: z28 :: z29 :: z30 :: z31 :: z32 :: z33 :: z34 :: z35 :: z36 :: z37 :: z38 :: z39 :: z40 :: z41 :: z42 :: z43 :: z44 :: z45 :: z46 :: z47 :: z48 :: z49 :: z50 :: z51 :: z52 :: z53 :: z54 :: z55 :: z56 :: z57 :: z58 :: z59 :: z60 :: z61 :: z62 :: z63 :: z64 :: z65 :: z66 :: z67 :: z68 :: z69 :: z70 :: z71 :: z72 :: z73 :: z74 :: z75 :: z76 :: z77 :: z78 :: z79 :: z80 :: z81 :: z82 :: z83 :: z84 :: z85 :: z86 :: z87 :: z88 :: z89 :: z90 :: z91 :: z92 :: z93 :: z94 :: z95 :: z96 :: z97 :: z98 :: z99 :: []).toArray, []⟩ wA := by
  have ltp := (Array.getElem?_eq_some_iff.1 PA).1
  have hpv : v1.ownBlock ≠ some p := OA.not_box PA
  have kk : ∀ W' : World, W'.heap[p]? = some (.cells #[.int .i64 b.e.lo, .int .i64 b.e.hi, .int .i64 b.n.lo, .int .i64 b.n.hi, .slice fa b.fs.length fc, .slice sa b.ss.length sc] 26) → W'.cell? ⟨p, 0, none⟩ = some (.int .i64 b.e.lo) ∧ W'.cell? ⟨p, 1, none⟩ = some (.int .i64 b.e.hi) ∧ W'.cell? ⟨p, 2, none⟩ = some (.int .i64 b.n.lo) ∧ W'.cell? ⟨p, 3, none⟩ = some (.int .i64 b.n.hi) ∧ W'.cell? ⟨p, 4, none⟩ = some (.slice fa b.fs.length fc) ∧ W'.cell? ⟨p, 5, none⟩ = some (.slice sa b.ss.length sc) :=
    fun W' h => ⟨cell_block h 0, cell_block h 1, cell_block h 2, cell_block h 3, cell_block h 4, cell_block h 5⟩
  have k0 := fun W' h => (kk W' h).1
  have k1 := fun W' h => (kk W' h).2.1
  have k2 := fun W' h => (kk W' h).2.2.1
  have k3 := fun W' h => (kk W' h).2.2.2.1
  have k4 := fun W' h => (kk W' h).2.2.2.2.1
  have k5 := fun W' h => (kk W' h).2.2.2.2.2
  have HFIN := Lib.hid hfin
  have HOA := Lib.hid OA
  clear kk hfin OA
  conv => arg 2; whnf
  refine (wpIn_wide (n := 1)).1 ?_
  refine wpIn_region_Wn (S := fun W' => W'.heap[p]? = some (.cells #[.int .i64 b.e.lo, .int .i64 b.e.hi, .int .i64 b.n.lo, .int .i64 b.n.hi, .slice fa b.fs.length fc, .slice sa b.ss.length sc] 26)) 11 (by kernel_rfl) (by kernel_rfl) PA (fun hHeld => ?_)
  refine wpAnyW_takeD 0 52 (v := ?_) (by kernel_rfl) (by kernel_rfl) (by kernel_rfl) (by kernel_rfl) (fun _ _ _ h => h) ?_ (by assumption) ?_
  rotate_left
  · intro oi hoi w hSw; (try dsimp only at hSw); simp only [List.getElem?_toArray, List.getElem?_cons_zero, List.getElem?_cons_succ, Option.some.injEq] at hoi; subst hoi; go_simp; try with_reducible rfl
  simp only [Act.put, List.setIfInBounds_toArray, List.set_cons_zero, List.set_cons_succ]
  refine wpAnyW_takeD 1 53 (v := ?_) (by kernel_rfl) (by kernel_rfl) (by kernel_rfl) (by kernel_rfl) (fun _ _ _ h => h) ?_ (by assumption) ?_
  rotate_left
  · intro oi hoi w hSw; (try dsimp only at hSw); simp only [List.getElem?_toArray, List.getElem?_cons_zero, List.getElem?_cons_succ, Option.some.injEq] at hoi; subst hoi; go_simp; try with_reducible rfl
  simp only [Act.put, List.setIfInBounds_toArray, List.set_cons_zero, List.set_cons_succ]
  refine wpAnyW_takeD 2 54 (v := ?_) (by kernel_rfl) (by kernel_rfl) (by kernel_rfl) (by kernel_rfl) (fun _ _ _ h => h) ?_ (by assumption) ?_
  rotate_left
  · intro oi hoi w hSw; (try dsimp only at hSw); simp only [List.getElem?_toArray, List.getElem?_cons_zero, List.getElem?_cons_succ, Option.some.injEq] at hoi; subst hoi; go_simp; try with_reducible rfl
  simp only [Act.put, List.setIfInBounds_toArray, List.set_cons_zero, List.set_cons_succ]
  refine wpAnyW_takeD 4 56 (v := ?_) (by kernel_rfl) (by kernel_rfl) (by kernel_rfl) (by kernel_rfl) (fun _ _ _ h => h) ?_ (by assumption) ?_
  rotate_left
  · intro oi hoi w hSw; (try dsimp only at hSw); simp only [List.getElem?_toArray, List.getElem?_cons_zero, List.getElem?_cons_succ, Option.some.injEq] at hoi; subst hoi; go_simp; try with_reducible rfl
  simp only [Act.put, List.setIfInBounds_toArray, List.set_cons_zero, List.set_cons_succ]
  refine wpAnyW_takeD 8 60 (v := ?_) (by kernel_rfl) (by kernel_rfl) (by kernel_rfl) (by kernel_rfl) (fun _ _ _ h => h) ?_ (by assumption) ?_
  rotate_left
  · intro oi hoi w hSw; (try dsimp only at hSw); simp only [List.getElem?_toArray, List.getElem?_cons_zero, List.getElem?_cons_succ, Option.some.injEq] at hoi; subst hoi; go_simp; try with_reducible rfl
  simp only [Act.put, List.setIfInBounds_toArray, List.set_cons_zero, List.set_cons_succ]
  clear k0 k1 k2 k3 k4 k5 hHeld
  have H0 := below_drew wA
  generalize wA.drew = wD at H0 ⊢
  refine wpAnyW_two 3 6 (by kernel_rfl) ⟨by kernel_rfl, by kernel_rfl⟩ ?_ ?_
  · intro o ho K hK
    simp only [List.getElem?_toArray, List.getElem?_cons_zero, List.getElem?_cons_succ, Option.some.injEq] at ho
    subst ho
    go_simp
    have Q1 := obj_new wD (.cells #[] 3)
    have H1 := H0.trans ((below_alloc wD (.cells #[] 3)).mono H0.size)
    have hq0 := H0.size
    refine hK _ _ ((H1.block p ltp).trans PA) (fun _ => ?_)
    clear hK K
    try simp only [Act.put, List.setIfInBounds_toArray, List.set_cons_zero, List.set_cons_succ]
    obtain ⟨q, hq⟩ : ∃ q, wD.heap.size = q := ⟨_, rfl⟩
    rw [hq] at Q1 hq0 ⊢
    clear hq
    generalize (wD.alloc (.cells #[] 3)) = w1 at Q1 H1 ⊢
    refine wpAnyW_two 5 6 (by kernel_rfl) ⟨by kernel_rfl, by kernel_rfl⟩ ?_ ?_
    · obtain ⟨v2, w2, hrun, O2, g2, nn2, _⟩ := copyInts w1 q Q1 a cap l (by omega) (HE.out.src H1)
      have H2 := H1.grown g2 H1.size (fun k hk => by cases hk; exact hq0)
      have hqs2 : q ≤ w2.heap.size := Nat.le_trans (Nat.le_of_lt (Array.getElem?_eq_some_iff.1 Q1).1) g2.size
      intro o ho K hK
      simp only [List.getElem?_toArray, List.getElem?_cons_zero, List.getElem?_cons_succ, Option.some.injEq] at ho
      subst ho
      refine wpIn_append' (.tmp 55) (.tmp 56) 40 _ _ _ rfl rfl rfl hrun ?_
      refine hK _ _ ((H2.block p ltp).trans PA) (fun _ => ?_)
      clear hK K
      try simp only [Act.put, List.setIfInBounds_toArray, List.set_cons_zero, List.set_cons_succ]
      clear hrun
      refine wpAnyW_one 6 (by kernel_rfl) (by kernel_rfl) ?_
      intro o ho K hK
      simp only [List.getElem?_toArray, List.getElem?_cons_zero, List.getElem?_cons_succ, Option.some.injEq] at ho
      subst ho
      go_simp
      have M3 : (w2.alloc (.cells #[.int .i64 (-1)] 3)).cell? ⟨w2.heap.size, 0, none⟩ = some (.int .i64 (-1)) := cell_new _ _ _ 0 _ rfl
      have H3 := H2.trans ((below_alloc w2 (.cells #[.int .i64 (-1)] 3)).mono H2.size)
      have O3 := O2.alloc (.cells #[.int .i64 (-1)] 3)
      have hqs3 : q ≤ (w2.alloc (.cells #[.int .i64 (-1)] 3)).heap.size := by rw [World.size_alloc]; omega
      refine hK _ _ ((H3.block p ltp).trans PA) (fun _ => ?_)
      clear hK K
      try simp only [Act.put, List.setIfInBounds_toArray, List.set_cons_zero, List.set_cons_succ]
      obtain ⟨m, hm⟩ : ∃ m, w2.heap.size = m := ⟨_, rfl⟩
      rw [hm] at M3 ⊢
      clear hm
      generalize (w2.alloc (.cells #[.int .i64 (-1)] 3)) = w3 at M3 H3 O3 hqs3 ⊢
      obtain ⟨g, cap2, w4, hrun, hqg, I4, g4⟩ := appendInt w3 q v2 l (by omega) O3 (-1) m 1 M3 hqs3
      have H4 := H3.grown g4 H3.size (fun k hk => Nat.le_trans hq0 (O3.lt k hk).1)
      refine wpAnyW_one 7 (by kernel_rfl) (by kernel_rfl) ?_
      intro o ho K hK
      simp only [List.getElem?_toArray, List.getElem?_cons_zero, List.getElem?_cons_succ, Option.some.injEq] at ho
      subst ho
      refine wpIn_append' (.tmp 57) (.tmp 58) 40 _ _ _ rfl rfl rfl hrun ?_
      refine hK _ _ ((H4.block p ltp).trans PA) (fun _ => ?_)
      clear hK K
      try simp only [Act.put, List.setIfInBounds_toArray, List.set_cons_zero, List.set_cons_succ]
      clear hrun
      refine wpAnyW_one 9 (by kernel_rfl) (by kernel_rfl) ?_
      intro o ho K hK
      simp only [List.getElem?_toArray, List.getElem?_cons_zero, List.getElem?_cons_succ, Option.some.injEq] at ho
      subst ho
      go_simp
      refine ⟨trivial, CallsIn.mono (callsIn_wide.2 (IH (some ⟨g, 0, none⟩) cap2 w4 H4 ⟨_, _, by rw [List.length_append]; rfl, .inr ⟨g, rfl, I4, by omega, fun e => by have := HOA.out.blk_lt e; omega⟩⟩)) ?_⟩
      rintro e w9 ⟨v3, rfl, O9, g9, N9⟩
      have P9 := (g9.block p (Nat.lt_of_lt_of_le ltp H4.size) (fun e => hpv e.symm)).trans ((H4.block p ltp).trans PA)
      have G9 := grown_trans (Below.grownB H4 v1.ownBlock) g9 (.inl rfl)
      have N9' : RowNext wA v1 v3 := RowNext.trans (.inl rfl) N9 H4.size
      refine hK _ _ P9 (fun hH => ?_)
      clear hK K
      try simp only [Act.put, List.setIfInBounds_toArray, List.set_cons_zero, List.set_cons_succ]
      refine wpAnyW_takeD 10 4 (v := ?_) (by kernel_rfl) (by kernel_rfl) (by kernel_rfl) (by kernel_rfl) (fun _ _ _ h => h) ?_ (by assumption) ?_
      rotate_left
      · intro oi hoi w hSw; (try dsimp only at hSw); simp only [List.getElem?_toArray, List.getElem?_cons_zero, List.getElem?_cons_succ, Option.some.injEq] at hoi; subst hoi; go_simp; try with_reducible rfl
      simp only [Act.put, List.setIfInBounds_toArray, List.set_cons_zero, List.set_cons_succ]
      refine wpAnyW_done (by kernel_rfl) ?_ _
      dsimp only [onNormal]
      exact HFIN.out _ _ _ _ _ _ _ _ _ _ v3 w9 O9 G9 N9'
    · intro o ho K hK
      simp only [List.getElem?_toArray, List.getElem?_cons_zero, List.getElem?_cons_succ, Option.some.injEq] at ho
      subst ho
      go_simp
      have M2 : (w1.alloc (.cells #[.int .i64 (-1)] 3)).cell? ⟨w1.heap.size, 0, none⟩ = some (.int .i64 (-1)) := cell_new _ _ _ 0 _ rfl
      have H2 := H1.trans ((below_alloc w1 (.cells #[.int .i64 (-1)] 3)).mono H1.size)
      have Q2 := obj_later (below_alloc w1 (.cells #[.int .i64 (-1)] 3)) Q1
      have hmq := (Array.getElem?_eq_some_iff.1 Q1).1
      refine hK _ _ ((H2.block p ltp).trans PA) (fun _ => ?_)
      clear hK K
      try simp only [Act.put, List.setIfInBounds_toArray, List.set_cons_zero, List.set_cons_succ]
      obtain ⟨m, hm⟩ : ∃ m, w1.heap.size = m := ⟨_, rfl⟩
      rw [hm] at M2 hmq ⊢
      clear hm
      generalize (w1.alloc (.cells #[.int .i64 (-1)] 3)) = w2 at M2 H2 Q2 ⊢
      obtain ⟨v2, w3, hrun, O3, g3, nn2, _⟩ := copyInts w2 q Q2 a cap l (by omega) (HE.out.src H2)
      have H3 := H2.grown g3 H2.size (fun k hk => by cases hk; exact hq0)
      have hqs3 : q ≤ w3.heap.size := Nat.le_trans (Nat.le_of_lt (Array.getElem?_eq_some_iff.1 Q2).1) g3.size
      have M3 := g3.cell M2 (fun e => by have e2 : m = q := Option.some.inj e; omega)
      refine wpAnyW_one 5 (by kernel_rfl) (by kernel_rfl) ?_
      intro o ho K hK
      simp only [List.getElem?_toArray, List.getElem?_cons_zero, List.getElem?_cons_succ, Option.some.injEq] at ho
      subst ho
      refine wpIn_append' (.tmp 55) (.tmp 56) 40 _ _ _ rfl rfl rfl hrun ?_
      refine hK _ _ ((H3.block p ltp).trans PA) (fun _ => ?_)
      clear hK K
      try simp only [Act.put, List.setIfInBounds_toArray, List.set_cons_zero, List.set_cons_succ]
      clear hrun
      obtain ⟨g, cap2, w4, hrun, hqg, I4, g4⟩ := appendInt w3 q v2 l (by omega) O3 (-1) m 1 M3 hqs3
      have H4 := H3.grown g4 H3.size (fun k hk => Nat.le_trans hq0 (O3.lt k hk).1)
      refine wpAnyW_one 7 (by kernel_rfl) (by kernel_rfl) ?_
      intro o ho K hK
      simp only [List.getElem?_toArray, List.getElem?_cons_zero, List.getElem?_cons_succ, Option.some.injEq] at ho
      subst ho
      refine wpIn_append' (.tmp 57) (.tmp 58) 40 _ _ _ rfl rfl rfl hrun ?_
      refine hK _ _ ((H4.block p ltp).trans PA) (fun _ => ?_)
      clear hK K
      try simp only [Act.put, List.setIfInBounds_toArray, List.set_cons_zero, List.set_cons_succ]
      clear hrun
      refine wpAnyW_one 9 (by kernel_rfl) (by kernel_rfl) ?_
      intro o ho K hK
      simp only [List.getElem?_toArray, List.getElem?_cons_zero, List.getElem?_cons_succ, Option.some.injEq] at ho
      subst ho
      go_simp
      refine ⟨trivial, CallsIn.mono (callsIn_wide.2 (IH (some ⟨g, 0, none⟩) cap2 w4 H4 ⟨_, _, by rw [List.length_append]; rfl, .inr ⟨g, rfl, I4, by omega, fun e => by have := HOA.out.blk_lt e; omega⟩⟩)) ?_⟩
      rintro e w9 ⟨v3, rfl, O9, g9, N9⟩
      have P9 := (g9.block p (Nat.lt_of_lt_of_le ltp H4.size) (fun e => hpv e.symm)).trans ((H4.block p ltp).trans PA)
      have G9 := grown_trans (Below.grownB H4 v1.ownBlock) g9 (.inl rfl)
      have N9' : RowNext wA v1 v3 := RowNext.trans (.inl rfl) N9 H4.size
      refine hK _ _ P9 (fun hH => ?_)
      clear hK K
      try simp only [Act.put, List.setIfInBounds_toArray, List.set_cons_zero, List.set_cons_succ]
      refine wpAnyW_takeD 10 4 (v := ?_) (by kernel_rfl) (by kernel_rfl) (by kernel_rfl) (by kernel_rfl) (fun _ _ _ h => h) ?_ (by assumption) ?_
      rotate_left
      · intro oi hoi w hSw; (try dsimp only at hSw); simp only [List.getElem?_toArray, List.getElem?_cons_zero, List.getElem?_cons_succ, Option.some.injEq] at hoi; subst hoi; go_simp; try with_reducible rfl
      simp only [Act.put, List.setIfInBounds_toArray, List.set_cons_zero, List.set_cons_succ]
      refine wpAnyW_done (by kernel_rfl) ?_ _
      dsimp only [onNormal]
      exact HFIN.out _ _ _ _ _ _ _ _ _ _ v3 w9 O9 G9 N9'
  · intro o ho K hK
    simp only [List.getElem?_toArray, List.getElem?_cons_zero, List.getElem?_cons_succ, Option.some.injEq] at ho
    subst ho
    go_simp
    have M1 : (wD.alloc (.cells #[.int .i64 (-1)] 3)).cell? ⟨wD.heap.size, 0, none⟩ = some (.int .i64 (-1)) := cell_new _ _ _ 0 _ rfl
    have H1 := H0.trans ((below_alloc wD (.cells #[.int .i64 (-1)] 3)).mono H0.size)
    refine hK _ _ ((H1.block p ltp).trans PA) (fun _ => ?_)
    clear hK K
    try simp only [Act.put, List.setIfInBounds_toArray, List.set_cons_zero, List.set_cons_succ]
    obtain ⟨m, hm⟩ : ∃ m, wD.heap.size = m := ⟨_, rfl⟩
    rw [hm] at M1 ⊢
    clear hm
    generalize (wD.alloc (.cells #[.int .i64 (-1)] 3)) = w1 at M1 H1 ⊢
    refine wpAnyW_one 3 (by kernel_rfl) (by kernel_rfl) ?_
    intro o ho K hK
    simp only [List.getElem?_toArray, List.getElem?_cons_zero, List.getElem?_cons_succ, Option.some.injEq] at ho
    subst ho
    go_simp
    have Q2 := obj_new w1 (.cells #[] 3)
    have H2 := H1.trans ((below_alloc w1 (.cells #[] 3)).mono H1.size)
    have hq0 := H1.size
    have M2 := cell_later (below_alloc w1 (.cells #[] 3)) M1
    have hmq : m < w1.heap.size := World.block_lt_of_cell? _ _ M1
    refine hK _ _ ((H2.block p ltp).trans PA) (fun _ => ?_)
    clear hK K
    try simp only [Act.put, List.setIfInBounds_toArray, List.set_cons_zero, List.set_cons_succ]
    obtain ⟨q, hq⟩ : ∃ q, w1.heap.size = q := ⟨_, rfl⟩
    rw [hq] at Q2 hq0 hmq ⊢
    clear hq
    generalize (w1.alloc (.cells #[] 3)) = w2 at Q2 H2 M2 ⊢
    obtain ⟨v2, w3, hrun, O3, g3, nn2, _⟩ := copyInts w2 q Q2 a cap l (by omega) (HE.out.src H2)
    have H3 := H2.grown g3 H2.size (fun k hk => by cases hk; exact hq0)
    have hqs3 : q ≤ w3.heap.size := Nat.le_trans (Nat.le_of_lt (Array.getElem?_eq_some_iff.1 Q2).1) g3.size
    have M3 := g3.cell M2 (fun e => by have e2 : m = q := Option.some.inj e; omega)
    refine wpAnyW_one 5 (by kernel_rfl) (by kernel_rfl) ?_
    intro o ho K hK
    simp only [List.getElem?_toArray, List.getElem?_cons_zero, List.getElem?_cons_succ, Option.some.injEq] at ho
    subst ho
    refine wpIn_append' (.tmp 55) (.tmp 56) 40 _ _ _ rfl rfl rfl hrun ?_
    refine hK _ _ ((H3.block p ltp).trans PA) (fun _ => ?_)
    clear hK K
    try simp only [Act.put, List.setIfInBounds_toArray, List.set_cons_zero, List.set_cons_succ]
    clear hrun
    obtain ⟨g, cap2, w4, hrun, hqg, I4, g4⟩ := appendInt w3 q v2 l (by omega) O3 (-1) m 1 M3 hqs3
    have H4 := H3.grown g4 H3.size (fun k hk => Nat.le_trans hq0 (O3.lt k hk).1)
    refine wpAnyW_one 7 (by kernel_rfl) (by kernel_rfl) ?_
    intro o ho K hK
    simp only [List.getElem?_toArray, List.getElem?_cons_zero, List.getElem?_cons_succ, Option.some.injEq] at ho
    subst ho
    refine wpIn_append' (.tmp 57) (.tmp 58) 40 _ _ _ rfl rfl rfl hrun ?_
    refine hK _ _ ((H4.block p ltp).trans PA) (fun _ => ?_)
    clear hK K
    try simp only [Act.put, List.setIfInBounds_toArray, List.set_cons_zero, List.set_cons_succ]
    clear hrun
    refine wpAnyW_one 9 (by kernel_rfl) (by kernel_rfl) ?_
    intro o ho K hK
    simp only [List.getElem?_toArray, List.getElem?_cons_zero, List.getElem?_cons_succ, Option.some.injEq] at ho
    subst ho
    go_simp
    refine ⟨trivial, CallsIn.mono (callsIn_wide.2 (IH (some ⟨g, 0, none⟩) cap2 w4 H4 ⟨_, _, by rw [List.length_append]; rfl, .inr ⟨g, rfl, I4, by omega, fun e => by have := HOA.out.blk_lt e; omega⟩⟩)) ?_⟩
    rintro e w9 ⟨v3, rfl, O9, g9, N9⟩
    have P9 := (g9.block p (Nat.lt_of_lt_of_le ltp H4.size) (fun e => hpv e.symm)).trans ((H4.block p ltp).trans PA)
    have G9 := grown_trans (Below.grownB H4 v1.ownBlock) g9 (.inl rfl)
    have N9' : RowNext wA v1 v3 := RowNext.trans (.inl rfl) N9 H4.size
    refine hK _ _ P9 (fun hH => ?_)
    clear hK K
    try simp only [Act.put, List.setIfInBounds_toArray, List.set_cons_zero, List.set_cons_succ]
    refine wpAnyW_takeD 10 4 (v := ?_) (by kernel_rfl) (by kernel_rfl) (by kernel_rfl) (by kernel_rfl) (fun _ _ _ h => h) ?_ (by assumption) ?_
    rotate_left
    · intro oi hoi w hSw; (try dsimp only at hSw); simp only [List.getElem?_toArray, List.getElem?_cons_zero, List.getElem?_cons_succ, Option.some.injEq] at hoi; subst hoi; go_simp; try with_reducible rfl
    simp only [Act.put, List.setIfInBounds_toArray, List.set_cons_zero, List.set_cons_succ]
    refine wpAnyW_done (by kernel_rfl) ?_ _
    dsimp only [onNormal]
    exact HFIN.out _ _ _ _ _ _ _ _ _ _ v3 w9 O9 G9 N9'

theorem join_reg15 (b : Bo) (fa sa : Option Addr) (fc sc p cap base : Nat) (z : Int × Int) (a : Option Addr) (l : List Int) (x : Int) (v1 : Value) (L1 L3 : List (List Int)) (wA : World) {z0 z6 z7 z8 z9 z10 z11 z12 z14 z15 z16 z17 z18 z19 z20 z21 z22 z23 z24 z25 z26 z27 z28 z29 z30 z31 z32 z33 z34 z35 z36 z37 z38 z39 z40 z41 z42 z43 z44 z45 z46 z47 z48 z49 z50 z51 z52 z53 z54 z55 z56 z57 z58 z59 z60 z61 z62 z63 z64 z65 z66 z67 z68 z69 z70 z71 z72 z73 z74 z75 z76 z77 z78 z79 z80 z81 z82 z83 z84 z85 z86 z87 z88 z89 z90 z91 z92 z93 z94 z95 z96 z97 z98 z99 : Value}
    (PA : wA.heap[p]? = some (.cells #[.int .i64 b.e.lo, .int .i64 b.e.hi, .int .i64 b.n.lo, .int .i64 b.n.hi, .slice fa b.fs.length fc, .slice sa b.ss.length sc] 26)) (OA : OutIs wA base v1 L1) (HE : Hid (ElAt wA base v1.ownBlock l (.slice a l.length cap))) (hl : l.length ≤ 6) (hbase : base ≤ wA.heap.size) (K : Act → World → Prop) (Q : Exit → Act → World → Prop)
    (IH : ∀ a' cap' w', Below wA.heap.size wA w' → ElAt w' base v1.ownBlock (l ++ [x]) (.slice a' (l.length + 1) cap') → Calls Try.prog 76 #[.agg #[.int .i64 b.e.lo, .int .i64 b.e.hi, .int .i64 b.n.lo, .int .i64 b.n.hi, .slice fa b.fs.length fc, .slice sa b.ss.length sc], .int .i64 z.1, .int .i64 z.2, .slice a' (l.length + 1) cap', v1] w' (JPost base v1 L3 w'))
    (hfin : ∀ (s88 s89 s90 s91 s92 s93 s94 s95 s96 s97 s98 v3 : Value) (w3 : World), OutIs w3 base v3 L3 → wA.grownBy w3 v1.ownBlock → RowNext wA v1 v3 → K ⟨(z0 :: (.int .i64 z.1) :: (.int .i64 z.2) :: (.slice a l.length cap) :: v3 :: (.pointer (some ⟨p, 0, none⟩)) :: z6 :: z7 :: z8 :: z9 :: z10 :: z11 :: z12 :: (.int .i64 x) :: z14 :: z15 :: z16 :: z17 :: z18 :: z19 :: z20 :: z21 :: z22 :: z23 :: z24 :: z25 :: z26 :: z27 :: z28 :: z29 :: z30 :: z31 :: z32 :: z33 :: z34 :: z35 :: z36 :: z37 :: z38 :: z39 :: z40 :: z41 :: z42 :: z43 :: z44 :: z45 :: z46 :: z47 :: z48 :: z49 :: z50 :: z51 :: z52 :: z53 :: z54 :: z55 :: z56 :: z57 :: z58 :: z59 :: z60 :: z61 :: z62 :: z63 :: z64 :: z65 :: z66 :: z67 :: z68 :: z69 :: z70 :: z71 :: z72 :: z73 :: z74 :: z75 :: z76 :: z77 :: z78 :: z79 :: z80 :: z81 :: z82 :: z83 :: z84 :: z85 :: z86 :: z87 :: s88 :: s89 :: s90 :: s91 :: s92 :: s93 :: s94 :: s95 :: s96 :: s97 :: s98 :: z99 :: []).toArray, []⟩ w3) :
    Code.wp Try.prog (((Try.f76.body.bind (findReg 15)).getD .skip)) (Exit.then K Q) ⟨(z0 :: (.int .i64 z.1) :: (.int .i64 z.2) :: (.slice a l.length cap) :: v1 :: (.pointer (some ⟨p, 0, none⟩)) :: z6 :: z7 :: z8 :: z9 :: z10 :: z11 :: z12 :: (.int .i64 x) :: z14 :: z15 :: z16 :: z17 :: z18 :: z19 :: z20 :: z21 :: z22 :: z23 :: z24 :: z25 :: z26 :: z27 :: z28 :: z29 :: z30 :: z31 :: z32 :: z33 :: z34 :: z35 :: z36 :: z37 :: z38 :: z39 :: z40 :: z41 :: z42 :: z43 :: z44 :: z45 :: z46 :: z47 :: z48 :: z49 :: z50 :: z51 :: z52 :: z53 :: z54 :: z55 :: z56 :: z57 :: z58 :: z59 :: z60 :: z61 :: z62 :: z63 :: z64 :: z65 :: z66 :: z67 :: z68 :: z69 :: z70 :: z71 :: z72 :: z73 :: z74 :: z75 :: z76 :: z77 :: z78 :: z79 :: z80 :: z81 :: z82 :: z83 :: z84 :: z85 :: z86 :: z87 :: z88 :: z89 :: z90 :: z91 :: z92 :: z93 :: z94 :: z95 :: z96 :: z97 :: z98 :: z99 :: []).toArray, []⟩ wA := by
  have ltp := (Array.getElem?_eq_some_iff.1 PA).1
  have hpv : v1.ownBlock ≠ some p := OA.not_box PA
  have kk : ∀ W' : World, W'.heap[p]? = some (.cells #[.int .i64 b.e.lo, .int .i64 b.e.hi, .int .i64 b.n.lo, .int .i64 b.n.hi, .slice fa b.fs.length fc, .slice sa b.ss.length sc] 26) → W'.cell? ⟨p, 0, none⟩ = some (.int .i64 b.e.lo) ∧ W'.cell? ⟨p, 1, none⟩ = some (.int .i64 b.e.hi) ∧ W'.cell? ⟨p, 2, none⟩ = some (.int .i64 b.n.lo) ∧ W'.cell? ⟨p, 3, none⟩ = some (.int .i64 b.n.hi) ∧ W'.cell? ⟨p, 4, none⟩ = some (.slice fa b.fs.length fc) ∧ W'.cell? ⟨p, 5, none⟩ = some (.slice sa b.ss.length sc) :=
    fun W' h => ⟨cell_block h 0, cell_block h 1, cell_block h 2, cell_block h 3, cell_block h 4, cell_block h 5⟩
  have k0 := fun W' h => (kk W' h).1
  have k1 := fun W' h => (kk W' h).2.1
  have k2 := fun W' h => (kk W' h).2.2.1
  have k3 := fun W' h => (kk W' h).2.2.2.1
  have k4 := fun W' h => (kk W' h).2.2.2.2.1
  have k5 := fun W' h => (kk W' h).2.2.2.2.2
  have HFIN := Lib.hid hfin
  have HOA := Lib.hid OA
  clear kk hfin OA
  conv => arg 2; whnf
  refine (wpIn_wide (n := 1)).1 ?_
  refine wpIn_region_Wn (S := fun W' => W'.heap[p]? = some (.cells #[.int .i64 b.e.lo, .int .i64 b.e.hi, .int .i64 b.n.lo, .int .i64 b.n.hi, .slice fa b.fs.length fc, .slice sa b.ss.length sc] 26)) 12 (by kernel_rfl) (by kernel_rfl) PA (fun hHeld => ?_)
  refine wpAnyW_takeD 0 88 (v := ?_) (by kernel_rfl) (by kernel_rfl) (by kernel_rfl) (by kernel_rfl) (fun _ _ _ h => h) ?_ (by assumption) ?_
  rotate_left
  · intro oi hoi w hSw; (try dsimp only at hSw); simp only [List.getElem?_toArray, List.getElem?_cons_zero, List.getElem?_cons_succ, Option.some.injEq] at hoi; subst hoi; go_simp; try with_reducible rfl
  simp only [Act.put, List.setIfInBounds_toArray, List.set_cons_zero, List.set_cons_succ]
  refine wpAnyW_takeD 1 89 (v := ?_) (by kernel_rfl) (by kernel_rfl) (by kernel_rfl) (by kernel_rfl) (fun _ _ _ h => h) ?_ (by assumption) ?_
  rotate_left
  · intro oi hoi w hSw; (try dsimp only at hSw); simp only [List.getElem?_toArray, List.getElem?_cons_zero, List.getElem?_cons_succ, Option.some.injEq] at hoi; subst hoi; go_simp; try with_reducible rfl
  simp only [Act.put, List.setIfInBounds_toArray, List.set_cons_zero, List.set_cons_succ]
  refine wpAnyW_takeD 2 90 (v := ?_) (by kernel_rfl) (by kernel_rfl) (by kernel_rfl) (by kernel_rfl) (fun _ _ _ h => h) ?_ (by assumption) ?_
  rotate_left
  · intro oi hoi w hSw; (try dsimp only at hSw); simp only [List.getElem?_toArray, List.getElem?_cons_zero, List.getElem?_cons_succ, Option.some.injEq] at hoi; subst hoi; go_simp; try with_reducible rfl
  simp only [Act.put, List.setIfInBounds_toArray, List.set_cons_zero, List.set_cons_succ]
  refine wpAnyW_takeD 4 92 (v := ?_) (by kernel_rfl) (by kernel_rfl) (by kernel_rfl) (by kernel_rfl) (fun _ _ _ h => h) ?_ (by assumption) ?_
  rotate_left
  · intro oi hoi w hSw; (try dsimp only at hSw); simp only [List.getElem?_toArray, List.getElem?_cons_zero, List.getElem?_cons_succ, Option.some.injEq] at hoi; subst hoi; go_simp; try with_reducible rfl
  simp only [Act.put, List.setIfInBounds_toArray, List.set_cons_zero, List.set_cons_succ]
  refine wpAnyW_takeD 6 94 (v := ?_) (by kernel_rfl) (by kernel_rfl) (by kernel_rfl) (by kernel_rfl) (fun _ _ _ h => h) ?_ (by assumption) ?_
  rotate_left
  · intro oi hoi w hSw; (try dsimp only at hSw); simp only [List.getElem?_toArray, List.getElem?_cons_zero, List.getElem?_cons_succ, Option.some.injEq] at hoi; subst hoi; go_simp; try with_reducible rfl
  simp only [Act.put, List.setIfInBounds_toArray, List.set_cons_zero, List.set_cons_succ]
  refine wpAnyW_takeD 9 97 (v := ?_) (by kernel_rfl) (by kernel_rfl) (by kernel_rfl) (by kernel_rfl) (fun _ _ _ h => h) ?_ (by assumption) ?_
  rotate_left
  · intro oi hoi w hSw; (try dsimp only at hSw); simp only [List.getElem?_toArray, List.getElem?_cons_zero, List.getElem?_cons_succ, Option.some.injEq] at hoi; subst hoi; go_simp; try with_reducible rfl
  simp only [Act.put, List.setIfInBounds_toArray, List.set_cons_zero, List.set_cons_succ]
  clear k0 k1 k2 k3 k4 k5 hHeld
  have H0 := below_drew wA
  generalize wA.drew = wD at H0 ⊢
  refine wpAnyW_two 3 7 (by kernel_rfl) ⟨by kernel_rfl, by kernel_rfl⟩ ?_ ?_
  · intro o ho K hK
    simp only [List.getElem?_toArray, List.getElem?_cons_zero, List.getElem?_cons_succ, Option.some.injEq] at ho
    subst ho
    go_simp
    have Q1 := obj_new wD (.cells #[] 3)
    have H1 := H0.trans ((below_alloc wD (.cells #[] 3)).mono H0.size)
    have hq0 := H0.size
    refine hK _ _ ((H1.block p ltp).trans PA) (fun _ => ?_)
    clear hK K
    try simp only [Act.put, List.setIfInBounds_toArray, List.set_cons_zero, List.set_cons_succ]
    obtain ⟨q, hq⟩ : ∃ q, wD.heap.size = q := ⟨_, rfl⟩
    rw [hq] at Q1 hq0 ⊢
    clear hq
    generalize (wD.alloc (.cells #[] 3)) = w1 at Q1 H1 ⊢
    refine wpAnyW_two 5 7 (by kernel_rfl) ⟨by kernel_rfl, by kernel_rfl⟩ ?_ ?_
    · obtain ⟨v2, w2, hrun, O2, g2, nn2, _⟩ := copyInts w1 q Q1 a cap l (by omega) (HE.out.src H1)
      have H2 := H1.grown g2 H1.size (fun k hk => by cases hk; exact hq0)
      have hqs2 : q ≤ w2.heap.size := Nat.le_trans (Nat.le_of_lt (Array.getElem?_eq_some_iff.1 Q1).1) g2.size
      intro o ho K hK
      simp only [List.getElem?_toArray, List.getElem?_cons_zero, List.getElem?_cons_succ, Option.some.injEq] at ho
      subst ho
      refine wpIn_append' (.tmp 91) (.tmp 92) 40 _ _ _ rfl rfl rfl hrun ?_
      refine hK _ _ ((H2.block p ltp).trans PA) (fun _ => ?_)
      clear hK K
      try simp only [Act.put, List.setIfInBounds_toArray, List.set_cons_zero, List.set_cons_succ]
      clear hrun
      refine wpAnyW_one 7 (by kernel_rfl) (by kernel_rfl) ?_
      intro o ho K hK
      simp only [List.getElem?_toArray, List.getElem?_cons_zero, List.getElem?_cons_succ, Option.some.injEq] at ho
      subst ho
      go_simp
      have M3 : (w2.alloc (.cells #[.int .i64 x] 3)).cell? ⟨w2.heap.size, 0, none⟩ = some (.int .i64 x) := cell_new _ _ _ 0 _ rfl
      have H3 := H2.trans ((below_alloc w2 (.cells #[.int .i64 x] 3)).mono H2.size)
      have O3 := O2.alloc (.cells #[.int .i64 x] 3)
      have hqs3 : q ≤ (w2.alloc (.cells #[.int .i64 x] 3)).heap.size := by rw [World.size_alloc]; omega
      refine hK _ _ ((H3.block p ltp).trans PA) (fun _ => ?_)
      clear hK K
      try simp only [Act.put, List.setIfInBounds_toArray, List.set_cons_zero, List.set_cons_succ]
      obtain ⟨m, hm⟩ : ∃ m, w2.heap.size = m := ⟨_, rfl⟩
      rw [hm] at M3 ⊢
      clear hm
      generalize (w2.alloc (.cells #[.int .i64 x] 3)) = w3 at M3 H3 O3 hqs3 ⊢
      obtain ⟨g, cap2, w4, hrun, hqg, I4, g4⟩ := appendInt w3 q v2 l (by omega) O3 x m 1 M3 hqs3
      have H4 := H3.grown g4 H3.size (fun k hk => Nat.le_trans hq0 (O3.lt k hk).1)
      refine wpAnyW_one 8 (by kernel_rfl) (by kernel_rfl) ?_
      intro o ho K hK
      simp only [List.getElem?_toArray, List.getElem?_cons_zero, List.getElem?_cons_succ, Option.some.injEq] at ho
      subst ho
      refine wpIn_append' (.tmp 93) (.tmp 95) 40 _ _ _ rfl rfl rfl hrun ?_
      refine hK _ _ ((H4.block p ltp).trans PA) (fun _ => ?_)
      clear hK K
      try simp only [Act.put, List.setIfInBounds_toArray, List.set_cons_zero, List.set_cons_succ]
      clear hrun
      refine wpAnyW_one 10 (by kernel_rfl) (by kernel_rfl) ?_
      intro o ho K hK
      simp only [List.getElem?_toArray, List.getElem?_cons_zero, List.getElem?_cons_succ, Option.some.injEq] at ho
      subst ho
      go_simp
      refine ⟨trivial, CallsIn.mono (callsIn_wide.2 (IH (some ⟨g, 0, none⟩) cap2 w4 H4 ⟨_, _, by rw [List.length_append]; rfl, .inr ⟨g, rfl, I4, by omega, fun e => by have := HOA.out.blk_lt e; omega⟩⟩)) ?_⟩
      rintro e w9 ⟨v3, rfl, O9, g9, N9⟩
      have P9 := (g9.block p (Nat.lt_of_lt_of_le ltp H4.size) (fun e => hpv e.symm)).trans ((H4.block p ltp).trans PA)
      have G9 := grown_trans (Below.grownB H4 v1.ownBlock) g9 (.inl rfl)
      have N9' : RowNext wA v1 v3 := RowNext.trans (.inl rfl) N9 H4.size
      refine hK _ _ P9 (fun hH => ?_)
      clear hK K
      try simp only [Act.put, List.setIfInBounds_toArray, List.set_cons_zero, List.set_cons_succ]
      refine wpAnyW_takeD 11 4 (v := ?_) (by kernel_rfl) (by kernel_rfl) (by kernel_rfl) (by kernel_rfl) (fun _ _ _ h => h) ?_ (by assumption) ?_
      rotate_left
      · intro oi hoi w hSw; (try dsimp only at hSw); simp only [List.getElem?_toArray, List.getElem?_cons_zero, List.getElem?_cons_succ, Option.some.injEq] at hoi; subst hoi; go_simp; try with_reducible rfl
      simp only [Act.put, List.setIfInBounds_toArray, List.set_cons_zero, List.set_cons_succ]
      refine wpAnyW_done (by kernel_rfl) ?_ _
      dsimp only [onNormal]
      exact HFIN.out _ _ _ _ _ _ _ _ _ _ _ v3 w9 O9 G9 N9'
    · intro o ho K hK
      simp only [List.getElem?_toArray, List.getElem?_cons_zero, List.getElem?_cons_succ, Option.some.injEq] at ho
      subst ho
      go_simp
      have M2 : (w1.alloc (.cells #[.int .i64 x] 3)).cell? ⟨w1.heap.size, 0, none⟩ = some (.int .i64 x) := cell_new _ _ _ 0 _ rfl
      have H2 := H1.trans ((below_alloc w1 (.cells #[.int .i64 x] 3)).mono H1.size)
      have Q2 := obj_later (below_alloc w1 (.cells #[.int .i64 x] 3)) Q1
      have hmq := (Array.getElem?_eq_some_iff.1 Q1).1
      refine hK _ _ ((H2.block p ltp).trans PA) (fun _ => ?_)
      clear hK K
      try simp only [Act.put, List.setIfInBounds_toArray, List.set_cons_zero, List.set_cons_succ]
      obtain ⟨m, hm⟩ : ∃ m, w1.heap.size = m := ⟨_, rfl⟩
      rw [hm] at M2 hmq ⊢
      clear hm
      generalize (w1.alloc (.cells #[.int .i64 x] 3)) = w2 at M2 H2 Q2 ⊢
      obtain ⟨v2, w3, hrun, O3, g3, nn2, _⟩ := copyInts w2 q Q2 a cap l (by omega) (HE.out.src H2)
      have H3 := H2.grown g3 H2.size (fun k hk => by cases hk; exact hq0)
      have hqs3 : q ≤ w3.heap.size := Nat.le_trans (Nat.le_of_lt (Array.getElem?_eq_some_iff.1 Q2).1) g3.size
      have M3 := g3.cell M2 (fun e => by have e2 : m = q := Option.some.inj e; omega)
      refine wpAnyW_one 5 (by kernel_rfl) (by kernel_rfl) ?_
      intro o ho K hK
      simp only [List.getElem?_toArray, List.getElem?_cons_zero, List.getElem?_cons_succ, Option.some.injEq] at ho
      subst ho
      refine wpIn_append' (.tmp 91) (.tmp 92) 40 _ _ _ rfl rfl rfl hrun ?_
      refine hK _ _ ((H3.block p ltp).trans PA) (fun _ => ?_)
      clear hK K
      try simp only [Act.put, List.setIfInBounds_toArray, List.set_cons_zero, List.set_cons_succ]
      clear hrun
      obtain ⟨g, cap2, w4, hrun, hqg, I4, g4⟩ := appendInt w3 q v2 l (by omega) O3 x m 1 M3 hqs3
      have H4 := H3.grown g4 H3.size (fun k hk => Nat.le_trans hq0 (O3.lt k hk).1)
      refine wpAnyW_one 8 (by kernel_rfl) (by kernel_rfl) ?_
      intro o ho K hK
      simp only [List.getElem?_toArray, List.getElem?_cons_zero, List.getElem?_cons_succ, Option.some.injEq] at ho
      subst ho
      refine wpIn_append' (.tmp 93) (.tmp 95) 40 _ _ _ rfl rfl rfl hrun ?_
      refine hK _ _ ((H4.block p ltp).trans PA) (fun _ => ?_)
      clear hK K
      try simp only [Act.put, List.setIfInBounds_toArray, List.set_cons_zero, List.set_cons_succ]
      clear hrun
      refine wpAnyW_one 10 (by kernel_rfl) (by kernel_rfl) ?_
      intro o ho K hK
      simp only [List.getElem?_toArray, List.getElem?_cons_zero, List.getElem?_cons_succ, Option.some.injEq] at ho
      subst ho
      go_simp
      refine ⟨trivial, CallsIn.mono (callsIn_wide.2 (IH (some ⟨g, 0, none⟩) cap2 w4 H4 ⟨_, _, by rw [List.length_append]; rfl, .inr ⟨g, rfl, I4, by omega, fun e => by have := HOA.out.blk_lt e; omega⟩⟩)) ?_⟩
      rintro e w9 ⟨v3, rfl, O9, g9, N9⟩
      have P9 := (g9.block p (Nat.lt_of_lt_of_le ltp H4.size) (fun e => hpv e.symm)).trans ((H4.block p ltp).trans PA)
      have G9 := grown_trans (Below.grownB H4 v1.ownBlock) g9 (.inl rfl)
      have N9' : RowNext wA v1 v3 := RowNext.trans (.inl rfl) N9 H4.size
      refine hK _ _ P9 (fun hH => ?_)
      clear hK K
      try simp only [Act.put, List.setIfInBounds_toArray, List.set_cons_zero, List.set_cons_succ]
      refine wpAnyW_takeD 11 4 (v := ?_) (by kernel_rfl) (by kernel_rfl) (by kernel_rfl) (by kernel_rfl) (fun _ _ _ h => h) ?_ (by assumption) ?_
      rotate_left
      · intro oi hoi w hSw; (try dsimp only at hSw); simp only [List.getElem?_toArray, List.getElem?_cons_zero, List.getElem?_cons_succ, Option.some.injEq] at hoi; subst hoi; go_simp; try with_reducible rfl
      simp only [Act.put, List.setIfInBounds_toArray, List.set_cons_zero, List.set_cons_succ]
      refine wpAnyW_done (by kernel_rfl) ?_ _
      dsimp only [onNormal]
      exact HFIN.out _ _ _ _ _ _ _ _ _ _ _ v3 w9 O9 G9 N9'
  · intro o ho K hK
    simp only [List.getElem?_toArray, List.getElem?_cons_zero, List.getElem?_cons_succ, Option.some.injEq] at ho
    subst ho
    go_simp
    have M1 : (wD.alloc (.cells #[.int .i64 x] 3)).cell? ⟨wD.heap.size, 0, none⟩ = some (.int .i64 x) := cell_new _ _ _ 0 _ rfl
    have H1 := H0.trans ((below_alloc wD (.cells #[.int .i64 x] 3)).mono H0.size)
    refine hK _ _ ((H1.block p ltp).trans PA) (fun _ => ?_)
    clear hK K
    try simp only [Act.put, List.setIfInBounds_toArray, List.set_cons_zero, List.set_cons_succ]
    obtain ⟨m, hm⟩ : ∃ m, wD.heap.size = m := ⟨_, rfl⟩
    rw [hm] at M1 ⊢
    clear hm
    generalize (wD.alloc (.cells #[.int .i64 x] 3)) = w1 at M1 H1 ⊢
    refine wpAnyW_one 3 (by kernel_rfl) (by kernel_rfl) ?_
    intro o ho K hK
    simp only [List.getElem?_toArray, List.getElem?_cons_zero, List.getElem?_cons_succ, Option.some.injEq] at ho
    subst ho
    go_simp
    have Q2 := obj_new w1 (.cells #[] 3)
    have H2 := H1.trans ((below_alloc w1 (.cells #[] 3)).mono H1.size)
    have hq0 := H1.size
    have M2 := cell_later (below_alloc w1 (.cells #[] 3)) M1
    have hmq : m < w1.heap.size := World.block_lt_of_cell? _ _ M1
    refine hK _ _ ((H2.block p ltp).trans PA) (fun _ => ?_)
    clear hK K
    try simp only [Act.put, List.setIfInBounds_toArray, List.set_cons_zero, List.set_cons_succ]
    obtain ⟨q, hq⟩ : ∃ q, w1.heap.size = q := ⟨_, rfl⟩
    rw [hq] at Q2 hq0 hmq ⊢
    clear hq
    generalize (w1.alloc (.cells #[] 3)) = w2 at Q2 H2 M2 ⊢
    obtain ⟨v2, w3, hrun, O3, g3, nn2, _⟩ := copyInts w2 q Q2 a cap l (by omega) (HE.out.src H2)
    have H3 := H2.grown g3 H2.size (fun k hk => by cases hk; exact hq0)
    have hqs3 : q ≤ w3.heap.size := Nat.le_trans (Nat.le_of_lt (Array.getElem?_eq_some_iff.1 Q2).1) g3.size
    have M3 := g3.cell M2 (fun e => by have e2 : m = q := Option.some.inj e; omega)
    refine wpAnyW_one 5 (by kernel_rfl) (by kernel_rfl) ?_
    intro o ho K hK
    simp only [List.getElem?_toArray, List.getElem?_cons_zero, List.getElem?_cons_succ, Option.some.injEq] at ho
    subst ho
    refine wpIn_append' (.tmp 91) (.tmp 92) 40 _ _ _ rfl rfl rfl hrun ?_
    refine hK _ _ ((H3.block p ltp).trans PA) (fun _ => ?_)
    clear hK K
    try simp only [Act.put, List.setIfInBounds_toArray, List.set_cons_zero, List.set_cons_succ]
    clear hrun
    obtain ⟨g, cap2, w4, hrun, hqg, I4, g4⟩ := appendInt w3 q v2 l (by omega) O3 x m 1 M3 hqs3
    have H4 := H3.grown g4 H3.size (fun k hk => Nat.le_trans hq0 (O3.lt k hk).1)
    refine wpAnyW_one 8 (by kernel_rfl) (by kernel_rfl) ?_
    intro o ho K hK
    simp only [List.getElem?_toArray, List.getElem?_cons_zero, List.getElem?_cons_succ, Option.some.injEq] at ho
    subst ho
    refine wpIn_append' (.tmp 93) (.tmp 95) 40 _ _ _ rfl rfl rfl hrun ?_
    refine hK _ _ ((H4.block p ltp).trans PA) (fun _ => ?_)
    clear hK K
    try simp only [Act.put, List.setIfInBounds_toArray, List.set_cons_zero, List.set_cons_succ]
    clear hrun
    refine wpAnyW_one 10 (by kernel_rfl) (by kernel_rfl) ?_
    intro o ho K hK
    simp only [List.getElem?_toArray, List.getElem?_cons_zero, List.getElem?_cons_succ, Option.some.injEq] at ho
    subst ho
    go_simp
    refine ⟨trivial, CallsIn.mono (callsIn_wide.2 (IH (some ⟨g, 0, none⟩) cap2 w4 H4 ⟨_, _, by rw [List.length_append]; rfl, .inr ⟨g, rfl, I4, by omega, fun e => by have := HOA.out.blk_lt e; omega⟩⟩)) ?_⟩
    rintro e w9 ⟨v3, rfl, O9, g9, N9⟩
    have P9 := (g9.block p (Nat.lt_of_lt_of_le ltp H4.size) (fun e => hpv e.symm)).trans ((H4.block p ltp).trans PA)
    have G9 := grown_trans (Below.grownB H4 v1.ownBlock) g9 (.inl rfl)
    have N9' : RowNext wA v1 v3 := RowNext.trans (.inl rfl) N9 H4.size
    refine hK _ _ P9 (fun hH => ?_)
    clear hK K
    try simp only [Act.put, List.setIfInBounds_toArray, List.set_cons_zero, List.set_cons_succ]
    refine wpAnyW_takeD 11 4 (v := ?_) (by kernel_rfl) (by kernel_rfl) (by kernel_rfl) (by kernel_rfl) (fun _ _ _ h => h) ?_ (by assumption) ?_
    rotate_left
    · intro oi hoi w hSw; (try dsimp only at hSw); simp only [List.getElem?_toArray, List.getElem?_cons_zero, List.getElem?_cons_succ, Option.some.injEq] at hoi; subst hoi; go_simp; try with_reducible rfl
    simp only [Act.put, List.setIfInBounds_toArray, List.set_cons_zero, List.set_cons_succ]
    refine wpAnyW_done (by kernel_rfl) ?_ _
    dsimp only [onNormal]
    exact HFIN.out _ _ _ _ _ _ _ _ _ _ _ v3 w9 O9 G9 N9'
end Go.Proofs.Ytjkegmjjhdmkiaa
namespace Go.Proofs.Ytjkegmjjhdmkiaa
open Go.RowKit Go.Shelf
set_option maxHeartbeats 12800000
set_option maxRecDepth 100000
set_option linter.unusedSimpArgs false

theorem join_reg14 (b : Bo) (fa sa : Option Addr) (fc sc p cap : Nat) (z : Int × Int) (a : Option Addr) (l : List Int) (k : Nat) (v1 : Value) (wA : World) {z0 z6 z7 z8 z9 z10 z12 z14 z15 z16 z17 z18 z19 z20 z21 z22 z23 z24 z25 z26 z27 z28 z29 z30 z31 z32 z33 z34 z35 z36 z37 z38 z39 z40 z41 z42 z43 z44 z45 z46 z47 z48 z49 z50 z51 z52 z53 z54 z55 z56 z57 z58 z59 z60 z61 z62 z63 z64 z65 z66 z67 z68 z69 z70 z71 z72 z73 z74 z75 z76 z77 z78 z79 z80 z81 z82 z83 z84 z85 z86 z87 z88 z89 z90 z91 z92 z93 z94 z95 z96 z97 z98 z99 : Value}
    (PA : wA.heap[p]? = some (.cells #[.int .i64 b.e.lo, .int .i64 b.e.hi, .int .i64 b.n.lo, .int .i64 b.n.hi, .slice fa b.fs.length fc, .slice sa b.ss.length sc] 26)) (HB : Hid (BoArg wA b fa sa)) (hok : b.ok = true) (hz : b.shift z = true) (HI : IntsV wA a l) (hl : l.length < b.fs.length) (hk : k < b.ss.length) (K : Act → World → Prop) (Q : Exit → Act → World → Prop)
    (hfin : ∀ (s69 s70 s71 s72 s73 s74 s75 s76 s77 s78 s79 s80 s81 s82 s83 s84 s85 s86 : Value) (w3 : World), Below wA.heap.size wA w3 → K ⟨(z0 :: (.int .i64 z.1) :: (.int .i64 z.2) :: (.slice a l.length cap) :: v1 :: (.pointer (some ⟨p, 0, none⟩)) :: z6 :: z7 :: z8 :: z9 :: z10 :: (.int .i64 l.length) :: z12 :: (.int .i64 k) :: z14 :: z15 :: z16 :: z17 :: z18 :: z19 :: z20 :: z21 :: z22 :: z23 :: z24 :: z25 :: z26 :: z27 :: z28 :: z29 :: z30 :: z31 :: z32 :: z33 :: z34 :: z35 :: z36 :: z37 :: z38 :: z39 :: z40 :: z41 :: z42 :: z43 :: z44 :: z45 :: z46 :: z47 :: z48 :: z49 :: z50 :: z51 :: z52 :: z53 :: z54 :: z55 :: z56 :: z57 :: z58 :: z59 :: z60 :: z61 :: z62 :: z63 :: z64 :: z65 :: z66 :: z67 :: z68 :: s69 :: s70 :: s71 :: s72 :: s73 :: s74 :: s75 :: s76 :: s77 :: s78 :: s79 :: s80 :: s81 :: s82 :: s83 :: s84 :: s85 :: s86 :: (.bool (b.same z l.length k && !l.contains (k : Int))) :: z88 :: z89 :: z90 :: z91 :: z92 :: z93 :: z94 :: z95 :: z96 :: z97 :: z98 :: z99 :: []).toArray, []⟩ w3) :
    Code.wp Try.prog (((Try.f76.body.bind (findReg 14)).getD .skip)) (Exit.then K Q) ⟨(z0 :: (.int .i64 z.1) :: (.int .i64 z.2) :: (.slice a l.length cap) :: v1 :: (.pointer (some ⟨p, 0, none⟩)) :: z6 :: z7 :: z8 :: z9 :: z10 :: (.int .i64 l.length) :: z12 :: (.int .i64 k) :: z14 :: z15 :: z16 :: z17 :: z18 :: z19 :: z20 :: z21 :: z22 :: z23 :: z24 :: z25 :: z26 :: z27 :: z28 :: z29 :: z30 :: z31 :: z32 :: z33 :: z34 :: z35 :: z36 :: z37 :: z38 :: z39 :: z40 :: z41 :: z42 :: z43 :: z44 :: z45 :: z46 :: z47 :: z48 :: z49 :: z50 :: z51 :: z52 :: z53 :: z54 :: z55 :: z56 :: z57 :: z58 :: z59 :: z60 :: z61 :: z62 :: z63 :: z64 :: z65 :: z66 :: z67 :: z68 :: z69 :: z70 :: z71 :: z72 :: z73 :: z74 :: z75 :: z76 :: z77 :: z78 :: z79 :: z80 :: z81 :: z82 :: z83 :: z84 :: z85 :: z86 :: z87 :: z88 :: z89 :: z90 :: z91 :: z92 :: z93 :: z94 :: z95 :: z96 :: z97 :: z98 :: z99 :: []).toArray, []⟩ wA := by
  have hlens := bo_lens hok
  have ltp := (Array.getElem?_eq_some_iff.1 PA).1
  obtain ⟨bf, of, rfl, hbf, hE⟩ := HB.out.f l.length hl
  obtain ⟨bs, os, rfl, hbs, hF⟩ := HB.out.s k hk
  have hm : b.same z l.length k = b.fs[l.length].same b.ss[k] z := by
    unfold Bo.same
    rw [List.getElem?_eq_getElem hl, List.getElem?_eq_getElem hk]
  have hyo : b.ss[k].ok = true := List.all_eq_true.1 ((ok_iff b).1 hok).2.2.2.2.2 _ (List.getElem_mem hk)
  have hzz : (-20 ≤ z.1 ∧ z.1 ≤ 20) ∧ (-20 ≤ z.2 ∧ z.2 ≤ 20) := by have h1 := (ok_iff b).1 hok; have h2 := (shift_iff b z).1 hz; omega
  generalize b.fs[l.length] = x at hE hm
  generalize b.ss[k] = y at hF hm hyo
  have hare := fun W => rare_any x y z hyo hzz W
  have hhas := rhasl_any a cap l (k : Int) wA.drew (HI.below (below_drew wA) (Nat.le_refl _)) (by omega)
  have HARE := Lib.hid hare
  have HM := Lib.hid hm
  have HFIN := Lib.hid hfin
  have hfl : (l.length : Int) < b.fs.length := by omega
  have hkl : (k : Int) < b.ss.length := by omega
  have S2 : ∀ W', Below wA.heap.size wA W' → W'.cell? ⟨p, 4, none⟩ = some (.slice (some ⟨bf, of, none⟩) b.fs.length fc) := fun W' h => cell_block ((h.block p ltp).trans PA) 4
  have S3 : ∀ W', Below wA.heap.size wA W' → W'.cell? ⟨p, 5, none⟩ = some (.slice (some ⟨bs, os, none⟩) b.ss.length sc) := fun W' h => cell_block ((h.block p ltp).trans PA) 5
  have E0 : ∀ W', Below wA.heap.size wA W' → W'.cell? ⟨bf, of + l.length * 7, none⟩ = some (.int .i64 x.e.lo) := fun W' h => (hE.same (h.block bf hbf)).c0
  have E1 : ∀ W', Below wA.heap.size wA W' → W'.cell? ⟨bf, of + l.length * 7 + 1, none⟩ = some (.int .i64 x.e.hi) := fun W' h => (hE.same (h.block bf hbf)).c1
  have E2 : ∀ W', Below wA.heap.size wA W' → W'.cell? ⟨bf, of + l.length * 7 + 2, none⟩ = some (.int .i64 x.n.lo) := fun W' h => (hE.same (h.block bf hbf)).c2
  have E3 : ∀ W', Below wA.heap.size wA W' → W'.cell? ⟨bf, of + l.length * 7 + 3, none⟩ = some (.int .i64 x.n.hi) := fun W' h => (hE.same (h.block bf hbf)).c3
  have E4 : ∀ W', Below wA.heap.size wA W' → W'.cell? ⟨bf, of + l.length * 7 + 4, none⟩ = some (.int .i64 x.b.lo) := fun W' h => (hE.same (h.block bf hbf)).c4
  have E5 : ∀ W', Below wA.heap.size wA W' → W'.cell? ⟨bf, of + l.length * 7 + 5, none⟩ = some (.int .i64 x.b.hi) := fun W' h => (hE.same (h.block bf hbf)).c5
  have E6 : ∀ W', Below wA.heap.size wA W' → W'.cell? ⟨bf, of + l.length * 7 + 6, none⟩ = some (.bool x.sure) := fun W' h => (hE.same (h.block bf hbf)).c6
  have F0 : ∀ W', Below wA.heap.size wA W' → W'.cell? ⟨bs, os + k * 7, none⟩ = some (.int .i64 y.e.lo) := fun W' h => (hF.same (h.block bs hbs)).c0
  have F1 : ∀ W', Below wA.heap.size wA W' → W'.cell? ⟨bs, os + k * 7 + 1, none⟩ = some (.int .i64 y.e.hi) := fun W' h => (hF.same (h.block bs hbs)).c1
  have F2 : ∀ W', Below wA.heap.size wA W' → W'.cell? ⟨bs, os + k * 7 + 2, none⟩ = some (.int .i64 y.n.lo) := fun W' h => (hF.same (h.block bs hbs)).c2
  have F3 : ∀ W', Below wA.heap.size wA W' → W'.cell? ⟨bs, os + k * 7 + 3, none⟩ = some (.int .i64 y.n.hi) := fun W' h => (hF.same (h.block bs hbs)).c3
  have F4 : ∀ W', Below wA.heap.size wA W' → W'.cell? ⟨bs, os + k * 7 + 4, none⟩ = some (.int .i64 y.b.lo) := fun W' h => (hF.same (h.block bs hbs)).c4
  have F5 : ∀ W', Below wA.heap.size wA W' → W'.cell? ⟨bs, os + k * 7 + 5, none⟩ = some (.int .i64 y.b.hi) := fun W' h => (hF.same (h.block bs hbs)).c5
  have F6 : ∀ W', Below wA.heap.size wA W' → W'.cell? ⟨bs, os + k * 7 + 6, none⟩ = some (.bool y.sure) := fun W' h => (hF.same (h.block bs hbs)).c6
  clear hE hF hare hm hfin hyo hzz HB HI hok hz
  obtain ⟨q, hq⟩ : ∃ q, l.contains (k : Int) = q := ⟨_, rfl⟩
  rw [hq] at HFIN hhas
  clear hq
  conv => arg 2; whnf
  refine (wpIn_wide (n := 1)).1 ?_
  refine wpIn_region_Wn (S := Below wA.heap.size wA) 19 (by kernel_rfl) (by kernel_rfl) (below_drew wA) (fun hHeld => ?_)
  cases q
  ·
    refine wpAnyW_takeD 0 69 (v := ?_) (by kernel_rfl) (by kernel_rfl) (by kernel_rfl) (by kernel_rfl) (fun _ _ _ h => h) ?_ (by assumption) ?_
    rotate_left
    · intro oi hoi w hSw; (try dsimp only at hSw); simp only [List.getElem?_toArray, List.getElem?_cons_zero, List.getElem?_cons_succ, Option.some.injEq] at hoi; subst hoi; go_simp; try with_reducible rfl
    simp only [Act.put, List.setIfInBounds_toArray, List.set_cons_zero, List.set_cons_succ]
    refine wpAnyW_takeD 1 70 (v := ?_) (by kernel_rfl) (by kernel_rfl) (by kernel_rfl) (by kernel_rfl) (fun _ _ _ h => h) ?_ (by assumption) ?_
    rotate_left
    · intro oi hoi w hSw; (try dsimp only at hSw); simp only [List.getElem?_toArray, List.getElem?_cons_zero, List.getElem?_cons_succ, Option.some.injEq] at hoi; subst hoi; go_simp; try with_reducible rfl
    simp only [Act.put, List.setIfInBounds_toArray, List.set_cons_zero, List.set_cons_succ]
    refine wpAnyW_one 2 (by kernel_rfl) (by kernel_rfl) ?_
    intro o ho K hK
    simp only [List.getElem?_toArray, List.getElem?_cons_zero, List.getElem?_cons_succ, Option.some.injEq] at ho
    subst ho
    go_simp
    refine ⟨trivial, CallsIn.mono (callsIn_wide.2 hhas) ?_⟩
    rintro e W1 ⟨rfl, rfl⟩
    refine hK _ _ hHeld (fun _ => ?_)
    clear hK K
    try simp only [Act.put, List.setIfInBounds_toArray, List.set_cons_zero, List.set_cons_succ]
    refine wpAnyW_takeD 3 72 (v := ?_) (by kernel_rfl) (by kernel_rfl) (by kernel_rfl) (by kernel_rfl) (fun _ _ _ h => h) ?_ (by assumption) ?_
    rotate_left
    · intro oi hoi w hSw; (try dsimp only at hSw); simp only [List.getElem?_toArray, List.getElem?_cons_zero, List.getElem?_cons_succ, Option.some.injEq] at hoi; subst hoi; go_simp; try with_reducible rfl
    simp only [Act.put, List.setIfInBounds_toArray, List.set_cons_zero, List.set_cons_succ]
    refine wpAnyW_takeD 4 73 (v := ?_) (by kernel_rfl) (by kernel_rfl) (by kernel_rfl) (by kernel_rfl) (fun _ _ _ h => h) ?_ (by assumption) ?_
    rotate_left
    · intro oi hoi w hSw; (try dsimp only at hSw); simp only [List.getElem?_toArray, List.getElem?_cons_zero, List.getElem?_cons_succ, Option.some.injEq] at hoi; subst hoi; go_simp; try with_reducible rfl
    simp only [Act.put, List.setIfInBounds_toArray, List.set_cons_zero, List.set_cons_succ]
    refine wpAnyW_takeD 5 74 (v := ?_) (by kernel_rfl) (by kernel_rfl) (by kernel_rfl) (by kernel_rfl) (fun _ _ _ h => h) ?_ (by assumption) ?_
    rotate_left
    · intro oi hoi w hSw; (try dsimp only at hSw); simp only [List.getElem?_toArray, List.getElem?_cons_zero, List.getElem?_cons_succ, Option.some.injEq] at hoi; subst hoi; go_simp; try with_reducible rfl
    simp only [Act.put, List.setIfInBounds_toArray, List.set_cons_zero, List.set_cons_succ]
    refine wpAnyW_takeD 6 75 (v := ?_) (by kernel_rfl) (by kernel_rfl) (by kernel_rfl) (by kernel_rfl) (fun _ _ _ h => h) ?_ (by assumption) ?_
    rotate_left
    · intro oi hoi w hSw; (try dsimp only at hSw); simp only [List.getElem?_toArray, List.getElem?_cons_zero, List.getElem?_cons_succ, Option.some.injEq] at hoi; subst hoi; go_simp; try with_reducible rfl
    simp only [Act.put, List.setIfInBounds_toArray, List.set_cons_zero, List.set_cons_succ]
    refine wpAnyW_takeD 7 76 (v := ?_) (by kernel_rfl) (by kernel_rfl) (by kernel_rfl) (by kernel_rfl) (fun _ _ _ h => h) ?_ (by assumption) ?_
    rotate_left
    · intro oi hoi w hSw; (try dsimp only at hSw); simp only [List.getElem?_toArray, List.getElem?_cons_zero, List.getElem?_cons_succ, Option.some.injEq] at hoi; subst hoi; go_simp; try with_reducible rfl
    simp only [Act.put, List.setIfInBounds_toArray, List.set_cons_zero, List.set_cons_succ]
    refine wpAnyW_takeD 8 77 (v := ?_) (by kernel_rfl) (by kernel_rfl) (by kernel_rfl) (by kernel_rfl) (fun _ _ _ h => h) ?_ (by assumption) ?_
    rotate_left
    · intro oi hoi w hSw; (try dsimp only at hSw); simp only [List.getElem?_toArray, List.getElem?_cons_zero, List.getElem?_cons_succ, Option.some.injEq] at hoi; subst hoi; go_simp; try with_reducible rfl
    simp only [Act.put, List.setIfInBounds_toArray, List.set_cons_zero, List.set_cons_succ]
    refine wpAnyW_takeD 9 78 (v := ?_) (by kernel_rfl) (by kernel_rfl) (by kernel_rfl) (by kernel_rfl) (fun _ _ _ h => h) ?_ (by assumption) ?_
    rotate_left
    · intro oi hoi w hSw; (try dsimp only at hSw); simp only [List.getElem?_toArray, List.getElem?_cons_zero, List.getElem?_cons_succ, Option.some.injEq] at hoi; subst hoi; go_simp; try with_reducible rfl
    simp only [Act.put, List.setIfInBounds_toArray, List.set_cons_zero, List.set_cons_succ]
    refine wpAnyW_takeD 10 79 (v := ?_) (by kernel_rfl) (by kernel_rfl) (by kernel_rfl) (by kernel_rfl) (fun _ _ _ h => h) ?_ (by assumption) ?_
    rotate_left
    · intro oi hoi w hSw; (try dsimp only at hSw); simp only [List.getElem?_toArray, List.getElem?_cons_zero, List.getElem?_cons_succ, Option.some.injEq] at hoi; subst hoi; go_simp; try with_reducible rfl
    simp only [Act.put, List.setIfInBounds_toArray, List.set_cons_zero, List.set_cons_succ]
    refine wpAnyW_takeD 11 80 (v := ?_) (by kernel_rfl) (by kernel_rfl) (by kernel_rfl) (by kernel_rfl) (fun _ _ _ h => h) ?_ (by assumption) ?_
    rotate_left
    · intro oi hoi w hSw; (try dsimp only at hSw); simp only [List.getElem?_toArray, List.getElem?_cons_zero, List.getElem?_cons_succ, Option.some.injEq] at hoi; subst hoi; go_simp; try with_reducible rfl
    simp only [Act.put, List.setIfInBounds_toArray, List.set_cons_zero, List.set_cons_succ]
    refine wpAnyW_takeD 12 81 (v := ?_) (by kernel_rfl) (by kernel_rfl) (by kernel_rfl) (by kernel_rfl) (fun _ _ _ h => h) ?_ (by assumption) ?_
    rotate_left
    · intro oi hoi w hSw; (try dsimp only at hSw); simp only [List.getElem?_toArray, List.getElem?_cons_zero, List.getElem?_cons_succ, Option.some.injEq] at hoi; subst hoi; go_simp; try with_reducible rfl
    simp only [Act.put, List.setIfInBounds_toArray, List.set_cons_zero, List.set_cons_succ]
    refine wpAnyW_takeD 13 82 (v := ?_) (by kernel_rfl) (by kernel_rfl) (by kernel_rfl) (by kernel_rfl) (fun _ _ _ h => h) ?_ (by assumption) ?_
    rotate_left
    · intro oi hoi w hSw; (try dsimp only at hSw); simp only [List.getElem?_toArray, List.getElem?_cons_zero, List.getElem?_cons_succ, Option.some.injEq] at hoi; subst hoi; go_simp; try with_reducible rfl
    simp only [Act.put, List.setIfInBounds_toArray, List.set_cons_zero, List.set_cons_succ]
    refine wpAnyW_takeD 14 83 (v := ?_) (by kernel_rfl) (by kernel_rfl) (by kernel_rfl) (by kernel_rfl) (fun _ _ _ h => h) ?_ (by assumption) ?_
    rotate_left
    · intro oi hoi w hSw; (try dsimp only at hSw); simp only [List.getElem?_toArray, List.getElem?_cons_zero, List.getElem?_cons_succ, Option.some.injEq] at hoi; subst hoi; go_simp; try with_reducible rfl
    simp only [Act.put, List.setIfInBounds_toArray, List.set_cons_zero, List.set_cons_succ]
    refine wpAnyW_takeD 15 84 (v := ?_) (by kernel_rfl) (by kernel_rfl) (by kernel_rfl) (by kernel_rfl) (fun _ _ _ h => h) ?_ (by assumption) ?_
    rotate_left
    · intro oi hoi w hSw; (try dsimp only at hSw); simp only [List.getElem?_toArray, List.getElem?_cons_zero, List.getElem?_cons_succ, Option.some.injEq] at hoi; subst hoi; go_simp; try with_reducible rfl
    simp only [Act.put, List.setIfInBounds_toArray, List.set_cons_zero, List.set_cons_succ]
    refine wpAnyW_takeD 16 85 (v := ?_) (by kernel_rfl) (by kernel_rfl) (by kernel_rfl) (by kernel_rfl) (fun _ _ _ h => h) ?_ (by assumption) ?_
    rotate_left
    · intro oi hoi w hSw; (try dsimp only at hSw); simp only [List.getElem?_toArray, List.getElem?_cons_zero, List.getElem?_cons_succ, Option.some.injEq] at hoi; subst hoi; go_simp; try with_reducible rfl
    simp only [Act.put, List.setIfInBounds_toArray, List.set_cons_zero, List.set_cons_succ]
    refine wpAnyW_one 17 (by kernel_rfl) (by kernel_rfl) ?_
    intro o ho K hK
    simp only [List.getElem?_toArray, List.getElem?_cons_zero, List.getElem?_cons_succ, Option.some.injEq] at ho
    subst ho
    go_simp
    refine ⟨trivial, CallsIn.mono (callsIn_wide.2 (HARE.out _)) ?_⟩
    rintro e W1 ⟨rfl, hb1⟩
    have H1 := hHeld.trans (hb1.mono hHeld.size)
    refine hK _ _ H1 (fun _ => ?_)
    clear hK K
    try simp only [Act.put, List.setIfInBounds_toArray, List.set_cons_zero, List.set_cons_succ]
    refine wpAnyW_takeD 18 87 (v := ?_) (by kernel_rfl) (by kernel_rfl) (by kernel_rfl) (by kernel_rfl) (fun _ _ _ h => h) ?_ (by assumption) ?_
    rotate_left
    · intro oi hoi w hSw; (try dsimp only at hSw); simp only [List.getElem?_toArray, List.getElem?_cons_zero, List.getElem?_cons_succ, Option.some.injEq] at hoi; subst hoi; go_simp; try with_reducible rfl
    simp only [Act.put, List.setIfInBounds_toArray, List.set_cons_zero, List.set_cons_succ]
    refine wpAnyW_done (by kernel_rfl) ?_ _
    dsimp only [onNormal]
    have hf := HFIN.out
    rw [HM.out, Bool.not_false, Bool.and_true] at hf
    exact hf _ _ _ _ _ _ _ _ _ _ _ _ _ _ _ _ _ _ _ H1
  ·
    refine wpAnyW_takeD 0 69 (v := ?_) (by kernel_rfl) (by kernel_rfl) (by kernel_rfl) (by kernel_rfl) (fun _ _ _ h => h) ?_ (by assumption) ?_
    rotate_left
    · intro oi hoi w hSw; (try dsimp only at hSw); simp only [List.getElem?_toArray, List.getElem?_cons_zero, List.getElem?_cons_succ, Option.some.injEq] at hoi; subst hoi; go_simp; try with_reducible rfl
    simp only [Act.put, List.setIfInBounds_toArray, List.set_cons_zero, List.set_cons_succ]
    refine wpAnyW_takeD 1 70 (v := ?_) (by kernel_rfl) (by kernel_rfl) (by kernel_rfl) (by kernel_rfl) (fun _ _ _ h => h) ?_ (by assumption) ?_
    rotate_left
    · intro oi hoi w hSw; (try dsimp only at hSw); simp only [List.getElem?_toArray, List.getElem?_cons_zero, List.getElem?_cons_succ, Option.some.injEq] at hoi; subst hoi; go_simp; try with_reducible rfl
    simp only [Act.put, List.setIfInBounds_toArray, List.set_cons_zero, List.set_cons_succ]
    refine wpAnyW_one 2 (by kernel_rfl) (by kernel_rfl) ?_
    intro o ho K hK
    simp only [List.getElem?_toArray, List.getElem?_cons_zero, List.getElem?_cons_succ, Option.some.injEq] at ho
    subst ho
    go_simp
    refine ⟨trivial, CallsIn.mono (callsIn_wide.2 hhas) ?_⟩
    rintro e W1 ⟨rfl, rfl⟩
    refine hK _ _ hHeld (fun _ => ?_)
    clear hK K
    try simp only [Act.put, List.setIfInBounds_toArray, List.set_cons_zero, List.set_cons_succ]
    refine wpAnyW_takeD 3 72 (v := ?_) (by kernel_rfl) (by kernel_rfl) (by kernel_rfl) (by kernel_rfl) (fun _ _ _ h => h) ?_ (by assumption) ?_
    rotate_left
    · intro oi hoi w hSw; (try dsimp only at hSw); simp only [List.getElem?_toArray, List.getElem?_cons_zero, List.getElem?_cons_succ, Option.some.injEq] at hoi; subst hoi; go_simp; try with_reducible rfl
    simp only [Act.put, List.setIfInBounds_toArray, List.set_cons_zero, List.set_cons_succ]
    refine wpAnyW_takeD 4 73 (v := ?_) (by kernel_rfl) (by kernel_rfl) (by kernel_rfl) (by kernel_rfl) (fun _ _ _ h => h) ?_ (by assumption) ?_
    rotate_left
    · intro oi hoi w hSw; (try dsimp only at hSw); simp only [List.getElem?_toArray, List.getElem?_cons_zero, List.getElem?_cons_succ, Option.some.injEq] at hoi; subst hoi; go_simp; try with_reducible rfl
    simp only [Act.put, List.setIfInBounds_toArray, List.set_cons_zero, List.set_cons_succ]
    refine wpAnyW_skipD 5 74 (by kernel_rfl) (by kernel_rfl) (by kernel_rfl) (by kernel_rfl) (fun _ _ _ h => h) (by assumption) ?_
    simp only [Act.put, List.setIfInBounds_toArray, List.set_cons_zero, List.set_cons_succ]
    refine wpAnyW_skipD 6 75 (by kernel_rfl) (by kernel_rfl) (by kernel_rfl) (by kernel_rfl) (fun _ _ _ h => h) (by assumption) ?_
    simp only [Act.put, List.setIfInBounds_toArray, List.set_cons_zero, List.set_cons_succ]
    refine wpAnyW_skipD 7 76 (by kernel_rfl) (by kernel_rfl) (by kernel_rfl) (by kernel_rfl) (fun _ _ _ h => h) (by assumption) ?_
    simp only [Act.put, List.setIfInBounds_toArray, List.set_cons_zero, List.set_cons_succ]
    refine wpAnyW_skipD 8 77 (by kernel_rfl) (by kernel_rfl) (by kernel_rfl) (by kernel_rfl) (fun _ _ _ h => h) (by assumption) ?_
    simp only [Act.put, List.setIfInBounds_toArray, List.set_cons_zero, List.set_cons_succ]
    refine wpAnyW_skipD 9 78 (by kernel_rfl) (by kernel_rfl) (by kernel_rfl) (by kernel_rfl) (fun _ _ _ h => h) (by assumption) ?_
    simp only [Act.put, List.setIfInBounds_toArray, List.set_cons_zero, List.set_cons_succ]
    refine wpAnyW_skipD 10 79 (by kernel_rfl) (by kernel_rfl) (by kernel_rfl) (by kernel_rfl) (fun _ _ _ h => h) (by assumption) ?_
    simp only [Act.put, List.setIfInBounds_toArray, List.set_cons_zero, List.set_cons_succ]
    refine wpAnyW_skipD 11 80 (by kernel_rfl) (by kernel_rfl) (by kernel_rfl) (by kernel_rfl) (fun _ _ _ h => h) (by assumption) ?_
    simp only [Act.put, List.setIfInBounds_toArray, List.set_cons_zero, List.set_cons_succ]
    refine wpAnyW_skipD 12 81 (by kernel_rfl) (by kernel_rfl) (by kernel_rfl) (by kernel_rfl) (fun _ _ _ h => h) (by assumption) ?_
    simp only [Act.put, List.setIfInBounds_toArray, List.set_cons_zero, List.set_cons_succ]
    refine wpAnyW_skipD 13 82 (by kernel_rfl) (by kernel_rfl) (by kernel_rfl) (by kernel_rfl) (fun _ _ _ h => h) (by assumption) ?_
    simp only [Act.put, List.setIfInBounds_toArray, List.set_cons_zero, List.set_cons_succ]
    refine wpAnyW_skipD 14 83 (by kernel_rfl) (by kernel_rfl) (by kernel_rfl) (by kernel_rfl) (fun _ _ _ h => h) (by assumption) ?_
    simp only [Act.put, List.setIfInBounds_toArray, List.set_cons_zero, List.set_cons_succ]
    refine wpAnyW_skipD 15 84 (by kernel_rfl) (by kernel_rfl) (by kernel_rfl) (by kernel_rfl) (fun _ _ _ h => h) (by assumption) ?_
    simp only [Act.put, List.setIfInBounds_toArray, List.set_cons_zero, List.set_cons_succ]
    refine wpAnyW_skipD 16 85 (by kernel_rfl) (by kernel_rfl) (by kernel_rfl) (by kernel_rfl) (fun _ _ _ h => h) (by assumption) ?_
    simp only [Act.put, List.setIfInBounds_toArray, List.set_cons_zero, List.set_cons_succ]
    refine wpAnyW_skipD 17 86 (by kernel_rfl) (by kernel_rfl) (by kernel_rfl) (by kernel_rfl) (fun _ _ _ h => h) (by assumption) ?_
    simp only [Act.put, List.setIfInBounds_toArray, List.set_cons_zero, List.set_cons_succ]
    refine wpAnyW_takeD 18 87 (v := ?_) (by kernel_rfl) (by kernel_rfl) (by kernel_rfl) (by kernel_rfl) (fun _ _ _ h => h) ?_ (by assumption) ?_
    rotate_left
    · intro oi hoi w hSw; (try dsimp only at hSw); simp only [List.getElem?_toArray, List.getElem?_cons_zero, List.getElem?_cons_succ, Option.some.injEq] at hoi; subst hoi; go_simp; try with_reducible rfl
    simp only [Act.put, List.setIfInBounds_toArray, List.set_cons_zero, List.set_cons_succ]
    refine wpAnyW_done (by kernel_rfl) ?_ _
    dsimp only [onNormal]
    have hf := HFIN.out
    rw [Bool.not_true, Bool.and_false] at hf
    exact hf _ _ _ _ _ _ _ _ _ _ _ _ _ _ _ _ _ _ _ hHeld
end Go.Proofs.Ytjkegmjjhdmkiaa
