/- The truth of layer 6: its shifts are made; a star is put. The truth of layer 6: a star is put into the zones. The truth of layer 6, made: walked. -/
import Derived.Test.YtjkegmjjhdmkiaaBU29
import Derived.Test.YtjkegmjjhdmkiaaBU25
namespace Go.Proofs.Ytjkegmjjhdmkiaa
open Go.RowKit Go.Shelf
set_option maxHeartbeats 12800000
set_option maxRecDepth 100000
set_option linter.unusedSimpArgs false
set_option linter.unusedVariables false

theorem pair_same {w : World} {p : Nat} {x0 x1 x2 x3 x4 x5 : Value} (v0 v1 : Value) {T : TypeId} (h : w.heap[p]? = some (.cells #[x0, x1, x2, x3, x4, x5] T)) : ((w.setCell ⟨p, 0, none⟩ v0).setCell ⟨p, 1, none⟩ v1).heap[p]? = some (.cells #[v0, v1, x2, x3, x4, x5] T) :=
  heap_setCell_same _ _ 1 _ _ v1 (heap_setCell_same _ _ 0 _ _ v0 h)
theorem pair_same2 {w : World} {p : Nat} {x0 x1 x2 x3 x4 x5 : Value} (v0 v1 : Value) {T : TypeId} (h : w.heap[p]? = some (.cells #[x0, x1, x2, x3, x4, x5] T)) : ((w.setCell ⟨p, 2, none⟩ v0).setCell ⟨p, 3, none⟩ v1).heap[p]? = some (.cells #[x0, x1, v0, v1, x4, x5] T) :=
  heap_setCell_same _ _ 3 _ _ v1 (heap_setCell_same _ _ 2 _ _ v0 h)

theorem made_reg3 (pc pb p1 : Nat) (a : Option Addr) (c : Nat) (xs : List Nat) (k : Nat) (hx : Hid (NumsOk xs)) (hk : k ≤ 900) (hp : pc < p1) (wA : World) (hd : DrawSt wA pc pb a c xs k) (h1 : wA.heap[p1]? = some (.cells #[drawV pc pb] 48)) (p2 : Nat) (e n x0 x1 x2 x3 : Int) (vF vS : Value) {z0 z5 z6 z7 z8 z9 z10 z11 z12 z13 z14 z15 z16 z17 z18 z19 z20 z21 z22 z23 z24 z25 z26 z27 z28 z29 z30 z31 z32 z33 z34 z35 z36 z37 z38 z39 z40 z41 z42 z43 z44 z45 z46 z47 z48 z49 z50 z51 z52 z53 z54 z55 z56 z57 z58 z59 z60 z61 z62 z63 z64 z65 z66 z67 z68 z69 z70 z71 z72 z73 z74 z75 z76 z77 z78 z79 z80 z81 z82 z83 z84 z85 z86 z87 z88 z89 z90 z91 z92 z93 z94 z95 z96 z97 z98 z99 z100 z101 z102 z103 z104 z105 z106 z107 z108 z109 z110 z111 z112 z113 z114 z115 z116 z117 z118 z119 z120 z121 z122 z123 z124 z125 z126 z127 z128 z129 z130 z131 z132 z133 z134 z135 z136 z137 z138 z139 z140 z141 z142 : Value}
    (h2 : wA.heap[p2]? = some (.cells #[.int .i64 x0, .int .i64 x1, .int .i64 x2, .int .i64 x3, vF, vS] 26)) (n2 : p1 < p2) (he : -4 ≤ e ∧ e ≤ 4) (hn : -4 ≤ n ∧ n ≤ 4) (K : Act → World → Prop) (Q : Exit → Act → World → Prop)
    (hfin : ∀ (s21 s22 s23 s24 s25 s26 s27 s28 s29 s30 s31 s32 s33 s34 s35 s36 s37 s38 s39 s40 s41 : Value) (r1 r2 r3 r4 : Nat) (w3 : World), (r1 : Int) < 4 → (r2 : Int) < 4 → (r3 : Int) < 3 → (r4 : Int) < 3 → DrawSt w3 pc pb a c xs (k + 4) → w3.heap[p2]? = some (.cells #[.int .i64 (e - (r1 : Int)), .int .i64 (e + (r2 : Int)), .int .i64 (n - (r3 : Int)), .int .i64 (n + (r4 : Int)), vF, vS] 26) → (∀ i, i ≠ p2 → i ≠ pc → i < wA.heap.size → w3.heap[i]? = wA.heap[i]?) → (w3.os = wA.os ∧ w3.tape = wA.tape ∧ w3.output = wA.output ∧ wA.heap.size ≤ w3.heap.size) → K ⟨(z0 :: (.pointer (some ⟨p1, 0, none⟩)) :: (.pointer (some ⟨p2, 0, none⟩)) :: (.int .i64 e) :: (.int .i64 n) :: z5 :: z6 :: z7 :: z8 :: z9 :: z10 :: z11 :: z12 :: z13 :: z14 :: z15 :: z16 :: z17 :: z18 :: z19 :: z20 :: s21 :: s22 :: s23 :: s24 :: s25 :: s26 :: s27 :: s28 :: s29 :: s30 :: s31 :: s32 :: s33 :: s34 :: s35 :: s36 :: s37 :: s38 :: s39 :: s40 :: s41 :: z42 :: z43 :: z44 :: z45 :: z46 :: z47 :: z48 :: z49 :: z50 :: z51 :: z52 :: z53 :: z54 :: z55 :: z56 :: z57 :: z58 :: z59 :: z60 :: z61 :: z62 :: z63 :: z64 :: z65 :: z66 :: z67 :: z68 :: z69 :: z70 :: z71 :: z72 :: z73 :: z74 :: z75 :: z76 :: z77 :: z78 :: z79 :: z80 :: z81 :: z82 :: z83 :: z84 :: z85 :: z86 :: z87 :: z88 :: z89 :: z90 :: z91 :: z92 :: z93 :: z94 :: z95 :: z96 :: z97 :: z98 :: z99 :: z100 :: z101 :: z102 :: z103 :: z104 :: z105 :: z106 :: z107 :: z108 :: z109 :: z110 :: z111 :: z112 :: z113 :: z114 :: z115 :: z116 :: z117 :: z118 :: z119 :: z120 :: z121 :: z122 :: z123 :: z124 :: z125 :: z126 :: z127 :: z128 :: z129 :: z130 :: z131 :: z132 :: z133 :: z134 :: z135 :: z136 :: z137 :: z138 :: z139 :: z140 :: z141 :: z142 :: []).toArray, []⟩ w3) :
    Code.wp Try.prog (((Try.f28.body.bind (findReg 3)).getD .skip)) (Exit.then K Q) ⟨(z0 :: (.pointer (some ⟨p1, 0, none⟩)) :: (.pointer (some ⟨p2, 0, none⟩)) :: (.int .i64 e) :: (.int .i64 n) :: z5 :: z6 :: z7 :: z8 :: z9 :: z10 :: z11 :: z12 :: z13 :: z14 :: z15 :: z16 :: z17 :: z18 :: z19 :: z20 :: z21 :: z22 :: z23 :: z24 :: z25 :: z26 :: z27 :: z28 :: z29 :: z30 :: z31 :: z32 :: z33 :: z34 :: z35 :: z36 :: z37 :: z38 :: z39 :: z40 :: z41 :: z42 :: z43 :: z44 :: z45 :: z46 :: z47 :: z48 :: z49 :: z50 :: z51 :: z52 :: z53 :: z54 :: z55 :: z56 :: z57 :: z58 :: z59 :: z60 :: z61 :: z62 :: z63 :: z64 :: z65 :: z66 :: z67 :: z68 :: z69 :: z70 :: z71 :: z72 :: z73 :: z74 :: z75 :: z76 :: z77 :: z78 :: z79 :: z80 :: z81 :: z82 :: z83 :: z84 :: z85 :: z86 :: z87 :: z88 :: z89 :: z90 :: z91 :: z92 :: z93 :: z94 :: z95 :: z96 :: z97 :: z98 :: z99 :: z100 :: z101 :: z102 :: z103 :: z104 :: z105 :: z106 :: z107 :: z108 :: z109 :: z110 :: z111 :: z112 :: z113 :: z114 :: z115 :: z116 :: z117 :: z118 :: z119 :: z120 :: z121 :: z122 :: z123 :: z124 :: z125 :: z126 :: z127 :: z128 :: z129 :: z130 :: z131 :: z132 :: z133 :: z134 :: z135 :: z136 :: z137 :: z138 :: z139 :: z140 :: z141 :: z142 :: []).toArray, []⟩ wA := by
  have HFIN := Lib.hid hfin
  have S1 : ∀ W' : World, W'.heap[p1]? = some (.cells #[drawV pc pb] 48) → W'.cell? ⟨p1, 0, none⟩ = some (.func (.func 62) #[] #[.pointer (some ⟨pc, 0, none⟩), .pointer (some ⟨pb, 0, none⟩)]) := fun W' h => cell_block h 0
  have hd0 := hd.below (below_drew wA)
  have hg0 : wA.grownBy wA.drew (some pc) := Below.grownB (below_drew wA) _
  have h10 : wA.drew.heap[p1]? = some (.cells #[drawV pc pb] 48) := h1
  obtain ⟨he1, he2⟩ := he
  obtain ⟨hn1, hn2⟩ := hn
  have hB0 : wA.drew.heap[p2]? = some (.cells #[.int .i64 x0, .int .i64 x1, .int .i64 x2, .int .i64 x3, vF, vS] 26) := h2
  clear hfin hd h1 h2
  conv => arg 2; whnf
  refine (wpIn_wide (n := 1)).1 ?_
  refine wpIn_region_Wn (S := fun W' => W'.heap[p1]? = some (.cells #[drawV pc pb] 48)) 23 (by kernel_rfl) (by kernel_rfl) (by exact h10) (fun hHeld => ?_)
  clear h10
  refine wpAnyW_takeD 0 21 (v := ?_) (by kernel_rfl) (by kernel_rfl) (by kernel_rfl) (by kernel_rfl) (fun _ _ _ h => h) ?_ (by assumption) ?_
  rotate_left
  · intro oi hoi w hSw; (try dsimp only at hSw); simp only [List.getElem?_toArray, List.getElem?_cons_zero, List.getElem?_cons_succ, Option.some.injEq] at hoi; subst hoi; go_simp; try with_reducible rfl
  simp only [Act.put, List.setIfInBounds_toArray, List.set_cons_zero, List.set_cons_succ]
  refine wpAnyW_takeD 1 22 (v := ?_) (by kernel_rfl) (by kernel_rfl) (by kernel_rfl) (by kernel_rfl) (fun _ _ _ h => h) ?_ (by assumption) ?_
  rotate_left
  · intro oi hoi w hSw; (try dsimp only at hSw); simp only [List.getElem?_toArray, List.getElem?_cons_zero, List.getElem?_cons_succ, Option.some.injEq] at hoi; subst hoi; go_simp; try with_reducible rfl
  simp only [Act.put, List.setIfInBounds_toArray, List.set_cons_zero, List.set_cons_succ]
  refine wpAnyW_takeD 5 26 (v := ?_) (by kernel_rfl) (by kernel_rfl) (by kernel_rfl) (by kernel_rfl) (fun _ _ _ h => h) ?_ (by assumption) ?_
  rotate_left
  · intro oi hoi w hSw; (try dsimp only at hSw); simp only [List.getElem?_toArray, List.getElem?_cons_zero, List.getElem?_cons_succ, Option.some.injEq] at hoi; subst hoi; go_simp; try with_reducible rfl
  simp only [Act.put, List.setIfInBounds_toArray, List.set_cons_zero, List.set_cons_succ]
  refine wpAnyW_takeD 6 27 (v := ?_) (by kernel_rfl) (by kernel_rfl) (by kernel_rfl) (by kernel_rfl) (fun _ _ _ h => h) ?_ (by assumption) ?_
  rotate_left
  · intro oi hoi w hSw; (try dsimp only at hSw); simp only [List.getElem?_toArray, List.getElem?_cons_zero, List.getElem?_cons_succ, Option.some.injEq] at hoi; subst hoi; go_simp; try with_reducible rfl
  simp only [Act.put, List.setIfInBounds_toArray, List.set_cons_zero, List.set_cons_succ]
  refine wpAnyW_takeD 10 31 (v := ?_) (by kernel_rfl) (by kernel_rfl) (by kernel_rfl) (by kernel_rfl) (fun _ _ _ h => h) ?_ (by assumption) ?_
  rotate_left
  · intro oi hoi w hSw; (try dsimp only at hSw); simp only [List.getElem?_toArray, List.getElem?_cons_zero, List.getElem?_cons_succ, Option.some.injEq] at hoi; subst hoi; go_simp; try with_reducible rfl
  simp only [Act.put, List.setIfInBounds_toArray, List.set_cons_zero, List.set_cons_succ]
  refine wpAnyW_takeD 11 32 (v := ?_) (by kernel_rfl) (by kernel_rfl) (by kernel_rfl) (by kernel_rfl) (fun _ _ _ h => h) ?_ (by assumption) ?_
  rotate_left
  · intro oi hoi w hSw; (try dsimp only at hSw); simp only [List.getElem?_toArray, List.getElem?_cons_zero, List.getElem?_cons_succ, Option.some.injEq] at hoi; subst hoi; go_simp; try with_reducible rfl
  simp only [Act.put, List.setIfInBounds_toArray, List.set_cons_zero, List.set_cons_succ]
  refine wpAnyW_takeD 14 35 (v := ?_) (by kernel_rfl) (by kernel_rfl) (by kernel_rfl) (by kernel_rfl) (fun _ _ _ h => h) ?_ (by assumption) ?_
  rotate_left
  · intro oi hoi w hSw; (try dsimp only at hSw); simp only [List.getElem?_toArray, List.getElem?_cons_zero, List.getElem?_cons_succ, Option.some.injEq] at hoi; subst hoi; go_simp; try with_reducible rfl
  simp only [Act.put, List.setIfInBounds_toArray, List.set_cons_zero, List.set_cons_succ]
  refine wpAnyW_takeD 15 36 (v := ?_) (by kernel_rfl) (by kernel_rfl) (by kernel_rfl) (by kernel_rfl) (fun _ _ _ h => h) ?_ (by assumption) ?_
  rotate_left
  · intro oi hoi w hSw; (try dsimp only at hSw); simp only [List.getElem?_toArray, List.getElem?_cons_zero, List.getElem?_cons_succ, Option.some.injEq] at hoi; subst hoi; go_simp; try with_reducible rfl
  simp only [Act.put, List.setIfInBounds_toArray, List.set_cons_zero, List.set_cons_succ]
  refine wpAnyW_one 2 (by kernel_rfl) (by kernel_rfl) ?_
  intro o ho K hK
  simp only [List.getElem?_toArray, List.getElem?_cons_zero, List.getElem?_cons_succ, Option.some.injEq] at ho
  subst ho
  go_simp
  refine ⟨trivial, CallsIn.mono (callsIn_wide.2 (draw_any 4 pc pb a c xs (k + 0) hx.out (by omega) (by omega) _ hd0)) ?_⟩
  rintro e W1 ⟨r1, hr1, rfl, hd1, hgg1⟩
  have hg1 := grown_trans hg0 hgg1 (.inl rfl)
  have hH1 : W1.heap[p1]? = some (.cells #[drawV pc pb] 48) := (hgg1.block p1 (Array.getElem?_eq_some_iff.1 hHeld).1 (fun e => by have := Option.some.inj e; omega)).trans hHeld
  have hB1 := (hgg1.block p2 (Array.getElem?_eq_some_iff.1 hB0).1 (fun e => by have := Option.some.inj e; omega)).trans hB0
  refine hK _ _ hH1 (fun _ => ?_)
  clear hK K hgg1 hd0 hg0 hHeld hB0
  try simp only [Act.put, List.setIfInBounds_toArray, List.set_cons_zero, List.set_cons_succ]
  have e1 : IntKind.i64.wrap (e - (r1 : Int)) = e - (r1 : Int) := by rw [IntKind.wrap_i64]; omega
  have m1 : -20 < e - (r1 : Int) := by omega
  refine wpAnyW_takeD 3 24 (v := ?_) (by kernel_rfl) (by kernel_rfl) (by kernel_rfl) (by kernel_rfl) (fun _ _ _ h => h) ?_ (by assumption) ?_
  rotate_left
  · intro oi hoi w hSw; (try dsimp only at hSw); simp only [List.getElem?_toArray, List.getElem?_cons_zero, List.getElem?_cons_succ, Option.some.injEq] at hoi; subst hoi; go_simp; try with_reducible rfl
  simp only [Act.put, List.setIfInBounds_toArray, List.set_cons_zero, List.set_cons_succ]
  refine wpAnyW_takeD 4 25 (v := ?_) (by kernel_rfl) (by kernel_rfl) (by kernel_rfl) (by kernel_rfl) (fun _ _ _ h => h) ?_ (by assumption) ?_
  rotate_left
  · intro oi hoi w hSw; (try dsimp only at hSw); simp only [List.getElem?_toArray, List.getElem?_cons_zero, List.getElem?_cons_succ, Option.some.injEq] at hoi; subst hoi; go_simp; try with_reducible rfl
  simp only [Act.put, List.setIfInBounds_toArray, List.set_cons_zero, List.set_cons_succ]
  refine wpAnyW_one 7 (by kernel_rfl) (by kernel_rfl) ?_
  intro o ho K hK
  simp only [List.getElem?_toArray, List.getElem?_cons_zero, List.getElem?_cons_succ, Option.some.injEq] at ho
  subst ho
  go_simp
  refine ⟨trivial, CallsIn.mono (callsIn_wide.2 (draw_any 4 pc pb a c xs (k + 1) hx.out (by omega) (by omega) _ hd1)) ?_⟩
  rintro e W2 ⟨r2, hr2, rfl, hd2, hgg2⟩
  have hg2 := grown_trans hg1 hgg2 (.inl rfl)
  have hH2 : W2.heap[p1]? = some (.cells #[drawV pc pb] 48) := (hgg2.block p1 (Array.getElem?_eq_some_iff.1 hH1).1 (fun e => by have := Option.some.inj e; omega)).trans hH1
  have hB2 := (hgg2.block p2 (Array.getElem?_eq_some_iff.1 hB1).1 (fun e => by have := Option.some.inj e; omega)).trans hB1
  refine hK _ _ hH2 (fun _ => ?_)
  clear hK K hgg2 hd1 hg1 hH1 hB1
  try simp only [Act.put, List.setIfInBounds_toArray, List.set_cons_zero, List.set_cons_succ]
  have e2 : IntKind.i64.wrap (e + (r2 : Int)) = e + (r2 : Int) := by rw [IntKind.wrap_i64]; omega
  refine wpAnyW_takeD 8 29 (v := ?_) (by kernel_rfl) (by kernel_rfl) (by kernel_rfl) (by kernel_rfl) (fun _ _ _ h => h) ?_ (by assumption) ?_
  rotate_left
  · intro oi hoi w hSw; (try dsimp only at hSw); simp only [List.getElem?_toArray, List.getElem?_cons_zero, List.getElem?_cons_succ, Option.some.injEq] at hoi; subst hoi; go_simp; try with_reducible rfl
  simp only [Act.put, List.setIfInBounds_toArray, List.set_cons_zero, List.set_cons_succ]
  refine wpAnyW_one 9 (by kernel_rfl) (by kernel_rfl) ?_
  intro o ho K hK
  simp only [List.getElem?_toArray, List.getElem?_cons_zero, List.getElem?_cons_succ, Option.some.injEq] at ho
  subst ho
  go_simp
  refine ⟨trivial, CallsIn.mono (callsIn_wide.2 (lspan_any _ _ _)) ?_⟩
  rintro e' Ws2 ⟨rfl, hbs⟩
  have hds2 := hd2.below hbs
  have hgs2 := hg2.below3 hbs
  have hHs2 := obj_later hbs hH2
  have hBs2 := obj_later hbs hB2
  refine hK _ _ hHs2 (fun _ => ?_)
  clear hK K hbs hd2 hg2 hH2 hB2
  try simp only [Act.put, List.setIfInBounds_toArray, List.set_cons_zero, List.set_cons_succ]
  have hd2 := hds2
  have hg2 := hgs2
  have hH2 := hHs2
  have hB2 := hBs2
  clear hds2 hgs2 hHs2 hBs2
  refine wpAnyW_takeD 19 40 (v := ?_) (by kernel_rfl) (by kernel_rfl) (by kernel_rfl) (by kernel_rfl) (fun _ _ _ h => h) ?_ (by assumption) ?_
  rotate_left
  · intro oi hoi w hSw; (try dsimp only at hSw); simp only [List.getElem?_toArray, List.getElem?_cons_zero, List.getElem?_cons_succ, Option.some.injEq] at hoi; subst hoi; go_simp; try with_reducible rfl
  simp only [Act.put, List.setIfInBounds_toArray, List.set_cons_zero, List.set_cons_succ]
  refine wpAnyW_one 12 (by kernel_rfl) (by kernel_rfl) ?_
  intro o ho K hK
  simp only [List.getElem?_toArray, List.getElem?_cons_zero, List.getElem?_cons_succ, Option.some.injEq] at ho
  subst ho
  go_simp
  refine ⟨trivial, CallsIn.mono (callsIn_wide.2 (draw_any 3 pc pb a c xs (k + 2) hx.out (by omega) (by omega) _ hd2)) ?_⟩
  rintro e W3 ⟨r3, hr3, rfl, hd3, hgg3⟩
  have hg3 := grown_trans hg2 hgg3 (.inl rfl)
  have hH3 : W3.heap[p1]? = some (.cells #[drawV pc pb] 48) := (hgg3.block p1 (Array.getElem?_eq_some_iff.1 hH2).1 (fun e => by have := Option.some.inj e; omega)).trans hH2
  have hB3 := (hgg3.block p2 (Array.getElem?_eq_some_iff.1 hB2).1 (fun e => by have := Option.some.inj e; omega)).trans hB2
  refine hK _ _ hH3 (fun _ => ?_)
  clear hK K hgg3 hd2 hg2 hH2 hB2
  try simp only [Act.put, List.setIfInBounds_toArray, List.set_cons_zero, List.set_cons_succ]
  have e3 : IntKind.i64.wrap (n - (r3 : Int)) = n - (r3 : Int) := by rw [IntKind.wrap_i64]; omega
  refine wpAnyW_takeD 13 34 (v := ?_) (by kernel_rfl) (by kernel_rfl) (by kernel_rfl) (by kernel_rfl) (fun _ _ _ h => h) ?_ (by assumption) ?_
  rotate_left
  · intro oi hoi w hSw; (try dsimp only at hSw); simp only [List.getElem?_toArray, List.getElem?_cons_zero, List.getElem?_cons_succ, Option.some.injEq] at hoi; subst hoi; go_simp; try with_reducible rfl
  simp only [Act.put, List.setIfInBounds_toArray, List.set_cons_zero, List.set_cons_succ]
  refine wpAnyW_one 16 (by kernel_rfl) (by kernel_rfl) ?_
  intro o ho K hK
  simp only [List.getElem?_toArray, List.getElem?_cons_zero, List.getElem?_cons_succ, Option.some.injEq] at ho
  subst ho
  go_simp
  refine ⟨trivial, CallsIn.mono (callsIn_wide.2 (draw_any 3 pc pb a c xs (k + 3) hx.out (by omega) (by omega) _ hd3)) ?_⟩
  rintro e W4 ⟨r4, hr4, rfl, hd4, hgg4⟩
  have hg4 := grown_trans hg3 hgg4 (.inl rfl)
  have hH4 : W4.heap[p1]? = some (.cells #[drawV pc pb] 48) := (hgg4.block p1 (Array.getElem?_eq_some_iff.1 hH3).1 (fun e => by have := Option.some.inj e; omega)).trans hH3
  have hB4 := (hgg4.block p2 (Array.getElem?_eq_some_iff.1 hB3).1 (fun e => by have := Option.some.inj e; omega)).trans hB3
  refine hK _ _ hH4 (fun _ => ?_)
  clear hK K hgg4 hd3 hg3 hH3 hB3
  try simp only [Act.put, List.setIfInBounds_toArray, List.set_cons_zero, List.set_cons_succ]
  have e4 : IntKind.i64.wrap (n + (r4 : Int)) = n + (r4 : Int) := by rw [IntKind.wrap_i64]; omega
  refine wpAnyW_takeD 17 38 (v := ?_) (by kernel_rfl) (by kernel_rfl) (by kernel_rfl) (by kernel_rfl) (fun _ _ _ h => h) ?_ (by assumption) ?_
  rotate_left
  · intro oi hoi w hSw; (try dsimp only at hSw); simp only [List.getElem?_toArray, List.getElem?_cons_zero, List.getElem?_cons_succ, Option.some.injEq] at hoi; subst hoi; go_simp; try with_reducible rfl
  simp only [Act.put, List.setIfInBounds_toArray, List.set_cons_zero, List.set_cons_succ]
  refine wpAnyW_one 18 (by kernel_rfl) (by kernel_rfl) ?_
  intro o ho K hK
  simp only [List.getElem?_toArray, List.getElem?_cons_zero, List.getElem?_cons_succ, Option.some.injEq] at ho
  subst ho
  go_simp
  refine ⟨trivial, CallsIn.mono (callsIn_wide.2 (lspan_any _ _ _)) ?_⟩
  rintro e' Ws4 ⟨rfl, hbs⟩
  have hds4 := hd4.below hbs
  have hgs4 := hg4.below3 hbs
  have hHs4 := obj_later hbs hH4
  have hBs4 := obj_later hbs hB4
  refine hK _ _ hHs4 (fun _ => ?_)
  clear hK K hbs hd4 hg4 hH4 hB4
  try simp only [Act.put, List.setIfInBounds_toArray, List.set_cons_zero, List.set_cons_succ]
  have hd4 := hds4
  have hg4 := hgs4
  have hH4 := hHs4
  have hB4 := hBs4
  clear hds4 hgs4 hHs4 hBs4
  have cA := cell_block hB4 0
  have cB := cell_block hB4 1
  have fA := frozen_block hB4 0
  have fB := frozen_block hB4 1
  simp only [List.getElem?_toArray, List.getElem?_cons_zero, List.getElem?_cons_succ] at cA cB
  refine wpAnyW_one 20 (by kernel_rfl) (by kernel_rfl) ?_
  intro o ho K hK
  simp only [List.getElem?_toArray, List.getElem?_cons_zero, List.getElem?_cons_succ, Option.some.injEq] at ho
  subst ho
  go_simp
  have mB := pair_same (.int .i64 (e - (r1 : Int))) (.int .i64 (e + (r2 : Int))) hB4
  have mo : ∀ i, i ≠ p2 → ((Ws4.setCell ⟨p2, 0, none⟩ (.int .i64 (e - (r1 : Int)))).setCell ⟨p2, 1, none⟩ (.int .i64 (e + (r2 : Int)))).heap[i]? = Ws4.heap[i]? := fun i hi => two_other p2 i _ _ hi rfl
  have hs3 : Ws4.heap.size ≤ ((Ws4.setCell ⟨p2, 0, none⟩ (.int .i64 (e - (r1 : Int)))).setCell ⟨p2, 1, none⟩ (.int .i64 (e + (r2 : Int)))).heap.size := by simp
  have hos : ((Ws4.setCell ⟨p2, 0, none⟩ (.int .i64 (e - (r1 : Int)))).setCell ⟨p2, 1, none⟩ (.int .i64 (e + (r2 : Int)))).os = Ws4.os ∧ ((Ws4.setCell ⟨p2, 0, none⟩ (.int .i64 (e - (r1 : Int)))).setCell ⟨p2, 1, none⟩ (.int .i64 (e + (r2 : Int)))).tape = Ws4.tape ∧ ((Ws4.setCell ⟨p2, 0, none⟩ (.int .i64 (e - (r1 : Int)))).setCell ⟨p2, 1, none⟩ (.int .i64 (e + (r2 : Int)))).output = Ws4.output := ⟨rfl, rfl, rfl⟩
  generalize ((Ws4.setCell ⟨p2, 0, none⟩ (.int .i64 (e - (r1 : Int)))).setCell ⟨p2, 1, none⟩ (.int .i64 (e + (r2 : Int)))) = W6 at mB mo hs3 hos ⊢
  have hH6 := (mo p1 (by omega)).trans hH4
  refine hK _ _ hH6 (fun _ => ?_)
  clear hK K cA cB fA fB
  try simp only [Act.put, List.setIfInBounds_toArray, List.set_cons_zero, List.set_cons_succ]
  have cA := cell_block mB 2
  have cB := cell_block mB 3
  have fA := frozen_block mB 2
  have fB := frozen_block mB 3
  simp only [List.getElem?_toArray, List.getElem?_cons_zero, List.getElem?_cons_succ] at cA cB
  refine wpAnyW_takeD 21 41 (v := ?_) (by kernel_rfl) (by kernel_rfl) (by kernel_rfl) (by kernel_rfl) (fun _ _ _ h => h) ?_ (by assumption) ?_
  rotate_left
  · intro oi hoi w hSw; (try dsimp only at hSw); simp only [List.getElem?_toArray, List.getElem?_cons_zero, List.getElem?_cons_succ, Option.some.injEq] at hoi; subst hoi; go_simp; try with_reducible rfl
  simp only [Act.put, List.setIfInBounds_toArray, List.set_cons_zero, List.set_cons_succ]
  refine wpAnyW_one 22 (by kernel_rfl) (by kernel_rfl) ?_
  intro o ho K hK
  simp only [List.getElem?_toArray, List.getElem?_cons_zero, List.getElem?_cons_succ, Option.some.injEq] at ho
  subst ho
  go_simp
  have mB' := pair_same2 (.int .i64 (n - (r3 : Int))) (.int .i64 (n + (r4 : Int))) mB
  have mo' : ∀ i, i ≠ p2 → ((W6.setCell ⟨p2, 2, none⟩ (.int .i64 (n - (r3 : Int)))).setCell ⟨p2, 3, none⟩ (.int .i64 (n + (r4 : Int)))).heap[i]? = W6.heap[i]? := fun i hi => by
    rw [Below.heap_setCell _ _ _ _ (by exact hi), Below.heap_setCell _ _ _ _ (by exact hi)]
  refine hK _ _ ((mo' p1 (by omega)).trans hH6) (fun _ => ?_)
  clear hK K
  try simp only [Act.put, List.setIfInBounds_toArray, List.set_cons_zero, List.set_cons_succ]
  refine wpAnyW_done (by kernel_rfl) ?_ _
  dsimp only [onNormal]
  exact HFIN.out _ _ _ _ _ _ _ _ _ _ _ _ _ _ _ _ _ _ _ _ _ r1 r2 r3 r4 _ hr1 hr2 hr3 hr4 (hd4.other (fun i hi => (mo' i (by omega)).trans (mo i (by omega)))) mB' (fun i i1 i2 i3 => ((mo' i i1).trans (mo i i1)).trans (hg4.block i i3 (fun e => i2 (Option.some.inj e)))) ⟨hos.1.trans hg4.os, hos.2.1.trans hg4.tape, hos.2.2.trans hg4.output, Nat.le_trans hg4.size (Nat.le_trans hs3 (by simp))⟩

end Go.Proofs.Ytjkegmjjhdmkiaa
namespace Go.Proofs.Ytjkegmjjhdmkiaa
open Go.RowKit Go.Shelf
set_option maxHeartbeats 6400000
set_option maxRecDepth 100000
set_option linter.unusedSimpArgs false
set_option linter.unusedVariables false

theorem ownsRow_form {w : World} {base size n : Nat} {e : TypeId} {v : Value} {cs : List Value} (h : w.ownsRow base e size v n cs) : ∃ a c, v = .slice a n c := by
  rcases h.2 with ⟨rfl, rfl⟩ | ⟨g, cap, cur, rfl, _⟩
  · exact ⟨none, 0, rfl⟩
  · exact ⟨_, _, rfl⟩
theorem setGrown (w : World) (p o : Nat) (v : Value) : w.grownBy (w.setCell ⟨p, o, none⟩ v) (some p) :=
  ⟨rfl, rfl, rfl, by simp, fun i _ hne => Below.heap_setCell _ _ _ _ (fun e => hne (by rw [e]))⟩
theorem ownsRow_set {w : World} {base size n p o : Nat} {e : TypeId} {v u : Value} {cs : List Value} (h : w.ownsRow base e size v n cs) (hp : p < base) : (w.setCell ⟨p, o, none⟩ u).ownsRow base e size v n cs :=
  h.kept (setGrown w p o u) (by
    cases hv : v.ownBlock with
    | none => exact .inl rfl
    | some g => exact .inr (fun e => by have := (h.lt g hv).1; have := Option.some.inj e; omega))

section
variable {w : World} {pc pb p1 p2 base : Nat} {a : Option Addr} {c : Nat} {xs : List Nat} {k : Nat} {se sn : Sp} {fs ss : List Ed} {sm : List Int} {vF vS vI : Value}

/-- A star more in the second zone. -/
theorem MadeI.putS (h : MadeI w pc pb p1 p2 base a c xs k se sn fs ss sm vF vS vI) (x : Ed) (hl : ss.length ≤ 100) :
    ∃ v' w', (Builtin.append_ #[24, 24] 24 #[vS, .slice (some ⟨w.heap.size, 0, none⟩) 1 1]).run Try.prog (w.alloc (.cells (edArr x) 55)) = .ok v' w' ∧ w'.cell? ⟨p2, 5, none⟩ = some vS ∧ w'.frozen? ⟨p2, 5, none⟩ = false ∧
      MadeI (w'.setCell ⟨p2, 5, none⟩ v') pc pb p1 p2 base a c xs k se sn fs (ss ++ [x]) sm vF v' vI ∧ Below p2 w (w'.setCell ⟨p2, 5, none⟩ v') ∧ (∀ i, i < w.heap.size → i ≠ p2 → vS.ownBlock ≠ some i → (w'.setCell ⟨p2, 5, none⟩ v').heap[i]? = w.heap[i]?) := by
  obtain ⟨v', w', hrun, hown, hg, hn⟩ := putEd x h.oS hl h.q3 h.q4
  have q1 := h.q1
  have q2 := h.q2
  have q3 := h.q3
  have q4 := h.q4
  have hlow : ∀ i, i < base → w'.heap[i]? = w.heap[i]? := fun i hi => hg.block i (by omega) (fun e => by have := (h.oS.lt i e.symm).1; omega)
  have b2 := (hlow p2 q3).trans h.b2
  have hW : ∀ i, i ≠ p2 → (w'.setCell ⟨p2, 5, none⟩ v').heap[i]? = w'.heap[i]? := fun i hi => Below.heap_setCell _ _ _ _ (by exact hi)
  have lF := fun g e => (h.oF.lt g e).2
  have lI := fun g e => (h.oI.lt g e).2
  refine ⟨v', w', hrun, cell_block b2 5, frozen_block b2 5, ?_, ⟨hg.os, hg.tape, hg.output, by simpa using hg.size, fun i hi => (hW i (by omega)).trans (hlow i (by omega))⟩, fun i h1 h2 h3 => (hW i h2).trans (hg.block i h1 (fun e => h3 e.symm))⟩
  exact ⟨h.dr.other (fun i hi => (hW i (by omega)).trans (hlow i (by omega))), (hW p1 (by omega)).trans ((hlow p1 (by omega)).trans h.d1), heap_setCell_same _ _ 5 _ _ v' b2,
    ownsRow_set (h.oF.kept hg h.dFS.kept) q3, ownsRow_set hown q3, ownsRow_set (h.oI.kept hg h.dSI.symm.kept) q3, h.dFS.next lF hn, h.dFI, (h.dSI.symm.next lI hn).symm, q1, q2, q3, by simpa using Nat.le_trans q4 hg.size⟩

/-- A star more in the first zone, and who it truly is. -/
theorem MadeI.putF (h : MadeI w pc pb p1 p2 base a c xs k se sn fs ss sm vF vS vI) (x : Ed) (n : Int) (hl : fs.length ≤ 100) (hm : sm.length ≤ 100) :
    ∃ v' w1 u' w2, (Builtin.append_ #[24, 24] 24 #[vF, .slice (some ⟨w.heap.size, 0, none⟩) 1 1]).run Try.prog (w.alloc (.cells (edArr x) 55)) = .ok v' w1 ∧
      (Builtin.append_ #[40, 40] 40 #[vI, .slice (some ⟨w1.heap.size, 0, none⟩) 1 1]).run Try.prog (w1.alloc (.cells #[.int .i64 n] 3)) = .ok u' w2 ∧ w2.cell? ⟨p2, 4, none⟩ = some vF ∧ w2.frozen? ⟨p2, 4, none⟩ = false ∧
      MadeI (w2.setCell ⟨p2, 4, none⟩ v') pc pb p1 p2 base a c xs k se sn (fs ++ [x]) ss (sm ++ [n]) v' vS u' ∧ Below p2 w (w2.setCell ⟨p2, 4, none⟩ v') := by
  obtain ⟨v', w1, hrun, hown, hg, hn⟩ := putEd x h.oF hl h.q3 h.q4
  have q1 := h.q1
  have q2 := h.q2
  have q3 := h.q3
  have q4 := h.q4
  have q41 := Nat.le_trans q4 hg.size
  have oI1 := h.oI.kept hg h.dFI.symm.kept
  obtain ⟨u', w2, hrun2, hown2, hg2, hn2⟩ := putInt n oI1 hm q41
  have hlow1 : ∀ i, i < base → w1.heap[i]? = w.heap[i]? := fun i hi => hg.block i (by omega) (fun e => by have := (h.oF.lt i e.symm).1; omega)
  have hlow : ∀ i, i < base → w2.heap[i]? = w.heap[i]? := fun i hi => (hg2.block i (by omega) (fun e => by have := (oI1.lt i e.symm).1; omega)).trans (hlow1 i hi)
  have b2 := (hlow p2 q3).trans h.b2
  have hW : ∀ i, i ≠ p2 → (w2.setCell ⟨p2, 4, none⟩ v').heap[i]? = w2.heap[i]? := fun i hi => Below.heap_setCell _ _ _ _ (by exact hi)
  have lS := fun g e => (h.oS.lt g e).2
  have lI := fun g e => (h.oI.lt g e).2
  have oS1 := h.oS.kept hg h.dFS.symm.kept
  have dF' : Dj v' vI := (h.dFI.symm.next lI hn).symm
  have dFu : Dj v' u' := dF'.next (fun g e => (hown.lt g e).2) hn2
  have dSu : Dj vS u' := h.dSI.next (fun g e => (oS1.lt g e).2) hn2
  refine ⟨v', w1, u', w2, hrun, hrun2, cell_block b2 4, frozen_block b2 4, ?_, ⟨hg2.os.trans hg.os, hg2.tape.trans hg.tape, hg2.output.trans hg.output, by simpa using Nat.le_trans hg.size hg2.size, fun i hi => (hW i (by omega)).trans (hlow i (by omega))⟩⟩
  exact ⟨h.dr.other (fun i hi => (hW i (by omega)).trans (hlow i (by omega))), (hW p1 (by omega)).trans ((hlow p1 (by omega)).trans h.d1), heap_setCell_same _ _ 4 _ _ v' b2,
    ownsRow_set (hown.kept hg2 dF'.kept) q3, ownsRow_set (oS1.kept hg2 h.dSI.kept) q3, ownsRow_set hown2 q3, (h.dFS.symm.next lS hn).symm, dFu, dSu, q1, q2, q3, by simpa using Nat.le_trans q41 hg2.size⟩
end

/-- A row that the call owns, to be read. -/
theorem EdSl.owned {w : World} {base : Nat} {a : Option Addr} {c : Nat} {l : List Ed} (h : w.ownsRow base 55 7 (.slice a l.length c) l.length (edsCells l)) : EdSl w a l := by
  rcases h.2 with ⟨he, hn⟩ | ⟨g, cap, cur, he, hb, hg, hnc, hcm, hcs, htake⟩
  · intro k hk
    rw [hn] at hk
    cases hk
  · cases he
    refine EdSl.of_block (c := 0) hg (fun i hi => ?_) rfl
    rw [← htake, List.getElem?_take, if_pos hi, Array.getElem?_toList]
theorem IntsV.owned {w : World} {base : Nat} {a : Option Addr} {c : Nat} {l : List Int} (h : w.ownsRow base 3 1 (.slice a l.length c) l.length (l.map (Value.int .i64))) : IntsV w a l := by
  rcases h.2 with ⟨he, hn⟩ | ⟨g, cap, cur, he, hb, hg, hnc, hcm, hcs, htake⟩
  · intro k hk
    rw [hn] at hk
    cases hk
  · cases he
    intro k hk
    refine ⟨g, 0, rfl, (Array.getElem?_eq_some_iff.1 hg).1, ?_⟩
    rw [cell_block hg, Nat.zero_add, ← Array.getElem?_toList]
    have h1 : (l.map (Value.int .i64))[k]? = some (.int .i64 l[k]) := by rw [List.getElem?_map, List.getElem?_eq_getElem hk]; rfl
    rw [← htake, List.getElem?_take] at h1
    split at h1
    · exact h1
    · cases h1

def MadePost (pc : Nat) (w : World) (e : Ending) (w' : World) : Prop :=
  ∃ (b : Bo) (fa sa : Option Addr) (fc sc : Nat) (z : Int × Int) (sm : List Int) (ia : Option Addr) (ic : Nat),
    e = .returned (.tuple #[.agg #[.int .i64 b.e.lo, .int .i64 b.e.hi, .int .i64 b.n.lo, .int .i64 b.n.hi, .slice fa b.fs.length fc, .slice sa b.ss.length sc], .int .i64 z.1, .int .i64 z.2, .slice ia sm.length ic]) ∧
      BoArg w' b fa sa ∧ IntsV w' ia sm ∧ b.ok = true ∧ b.shift z = true ∧ IsJoin b (sures b.fs) (sures b.ss) z sm ∧ w.grownBy w' (some pc)
end Go.Proofs.Ytjkegmjjhdmkiaa
namespace Go.Proofs.Ytjkegmjjhdmkiaa
open Go.RowKit Go.Shelf
set_option maxHeartbeats 25600000
set_option maxRecDepth 100000
set_option linter.unusedSimpArgs false
set_option linter.unusedVariables false

theorem ownsRow_same {w w' : World} {base size n : Nat} {e : TypeId} {v : Value} {cs : List Value} (h : w.ownsRow base e size v n cs) (hb : ∀ g, v.ownBlock = some g → w'.heap[g]? = w.heap[g]?) : w'.ownsRow base e size v n cs := by
  refine ⟨h.1, ?_⟩
  rcases h.2 with hn | ⟨g, cap, cur, rfl, hbg, hgg, rest⟩
  · exact .inl hn
  · exact .inr ⟨g, cap, cur, rfl, hbg, (hb g rfl).trans hgg, rest⟩
theorem ownsRow_any {w : World} {base size n : Nat} {e : TypeId} {v : Value} {cs : List Value} (h : w.ownsRow base e size v n cs) : ∃ a N c, v = .slice a N c := by
  obtain ⟨a, c, h⟩ := ownsRow_form h
  exact ⟨a, n, c, h⟩
theorem MadeI.two {w w' : World} {pc pb p1 p2 base : Nat} {a : Option Addr} {c : Nat} {xs : List Nat} {k k' : Nat} {se sn : Sp} {fs ss : List Ed} {sm : List Int} {vF vS vI : Value} (pA pC : Nat)
    (h : MadeI w pc pb p1 p2 base a c xs k se sn fs ss sm vF vS vI) (hd : DrawSt w' pc pb a c xs k') (ho : ∀ i, i ≠ pA → i ≠ pC → i ≠ pc → i < w.heap.size → w'.heap[i]? = w.heap[i]?) (hs : w.heap.size ≤ w'.heap.size) (nA : base ≤ pA) (nC : base ≤ pC)
    (nF : vF.ownBlock ≠ some pA ∧ vF.ownBlock ≠ some pC) (nS : vS.ownBlock ≠ some pA ∧ vS.ownBlock ≠ some pC) (nI : vI.ownBlock ≠ some pA ∧ vI.ownBlock ≠ some pC) : MadeI w' pc pb p1 p2 base a c xs k' se sn fs ss sm vF vS vI := by
  have q1 := h.q1
  have q2 := h.q2
  have q3 := h.q3
  have q4 := h.q4
  refine ⟨hd, (ho p1 (by omega) (by omega) (by omega) (by omega)).trans h.d1, (ho p2 (by omega) (by omega) (by omega) (by omega)).trans h.b2, ?_, ?_, ?_, h.dFS, h.dFI, h.dSI, q1, q2, q3, Nat.le_trans q4 hs⟩
  · exact ownsRow_same h.oF (fun g e => ho g (fun e' => nF.1 (e' ▸ e)) (fun e' => nF.2 (e' ▸ e)) (by have := (h.oF.lt g e).1; omega) (h.oF.lt g e).2)
  · exact ownsRow_same h.oS (fun g e => ho g (fun e' => nS.1 (e' ▸ e)) (fun e' => nS.2 (e' ▸ e)) (by have := (h.oS.lt g e).1; omega) (h.oS.lt g e).2)
  · exact ownsRow_same h.oI (fun g e => ho g (fun e' => nI.1 (e' ▸ e)) (fun e' => nI.2 (e' ▸ e)) (by have := (h.oI.lt g e).1; omega) (h.oI.lt g e).2)
theorem dj_nil (v : Value) : Dj (.slice none 0 0) v := fun g h => by cases h
theorem grown_low {w w1 w2 : World} {pc B : Nat} (h : w.grownBy w1 (some pc)) (k : Below B w1 w2) (hB : w.heap.size ≤ B) : w.grownBy w2 (some pc) :=
  ⟨k.os.trans h.os, k.tape.trans h.tape, k.output.trans h.output, Nat.le_trans h.size k.size, fun i hi hne => (k.block i (by omega)).trans (h.block i hi hne)⟩

theorem made_any (pc pb : Nat) (a : Option Addr) (c : Nat) (xs : List Nat) (hx : NumsOk xs) (w : World) (hd : DrawSt w pc pb a c xs 0) :
    Calls Try.prog 28 #[drawV pc pb] w (MadePost pc w) := by
  have HX := Lib.hid hx
  have hsz := hd.size
  have HD := Lib.hid hd
  clear hd hx
  unfold drawV
  go_enter Try.func28, Try.ntmps28
  go_upto_region 2 with fail
  obtain ⟨W0, hW0⟩ : ∃ W, ((w.alloc (.cells #[.func (.func 62) #[] #[.pointer (some ⟨pc, 0, none⟩), .pointer (some ⟨pb, 0, none⟩)]] 48)).alloc (.cells #[.int .i64 0, .int .i64 0, .int .i64 0, .int .i64 0, .slice none 0 0, .slice none 0 0] 26)) = W := ⟨_, rfl⟩
  rw [hW0]
  try simp only [Nat.add_assoc, Nat.reduceAdd]
  have hst_W0 : Steps (fun _ => False) w W0 := by rw [← hW0]; exact (Steps.alloc _ w _).trans (Steps.alloc (fun _ => False) _ _) (fun _ _ h => h)
  have hz_W0 : W0.heap.size = w.heap.size + 2 := by rw [← hW0]; simp
  have g0_W0 : W0.heap[w.heap.size]? = some (.cells #[.func (.func 62) #[] #[.pointer (some ⟨pc, 0, none⟩), .pointer (some ⟨pb, 0, none⟩)]] 48) := by rw [← hW0]; simp only [alloc_get, World.size_alloc]; repeat (first | exact if_pos trivial | exact if_pos (by omega) | rw [if_neg (by omega)])
  have g1_W0 : W0.heap[w.heap.size + 1]? = some (.cells #[.int .i64 0, .int .i64 0, .int .i64 0, .int .i64 0, .slice none 0 0, .slice none 0 0] 26) := by rw [← hW0]; simp only [alloc_get, World.size_alloc]; repeat (first | exact if_pos trivial | exact if_pos (by omega) | rw [if_neg (by omega)])
  clear hW0
  have hb0 : Below w.heap.size w W0 := hst_W0.below (Nat.le_refl _) (fun _ _ h => h)
  have hd0 := HD.out.below hb0
  have HG0 := Lib.hid (Below.grownB hb0 (some pc))
  obtain ⟨p1, hp1⟩ : ∃ p, w.heap.size = p := ⟨_, rfl⟩
  rw [hp1] at g0_W0 g1_W0 hz_W0 hsz ⊢
  have HP1 := Lib.hid hp1
  clear hst_W0 hb0 HD hp1
  refine made_reg2 pc pb p1 a c xs 0 HX (by omega) hsz W0 hd0 g0_W0 _ _ ?_
  intro s15 s16 s17 s18 s19 s20 r1 r2 W2 hr1 hr2 hd2 hg2
  have d12 := (hg2.block p1 (Array.getElem?_eq_some_iff.1 g0_W0).1 (fun e => by have := Option.some.inj e; omega)).trans g0_W0
  have b12 := (hg2.block (p1 + 1) (Array.getElem?_eq_some_iff.1 g1_W0).1 (fun e => by have := Option.some.inj e; omega)).trans g1_W0
  have HG2 := Lib.hid (grown_trans HG0.out hg2 (.inl rfl))
  have hz2 : p1 + 2 ≤ W2.heap.size := by have := hg2.size; omega
  obtain ⟨e, he⟩ : ∃ e : Int, (r1 : Int) - 4 = e := ⟨_, rfl⟩
  obtain ⟨n, hn⟩ : ∃ n : Int, (r2 : Int) - 4 = n := ⟨_, rfl⟩
  have heb : -4 ≤ e ∧ e ≤ 4 := by omega
  have hnb : -4 ≤ n ∧ n ≤ 4 := by omega
  rw [he, hn]
  clear he hn hr1 hr2 hg2 HG0 hd0 g0_W0 g1_W0 hz_W0
  go_upto_region 3 with fail
  refine made_reg3 pc pb p1 a c xs 2 HX (by omega) hsz W2 hd2 d12 (p1 + 1) e n 0 0 0 0 (.slice none 0 0) (.slice none 0 0) b12 (by omega) heb hnb _ _ ?_
  intro s21 s22 s23 s24 s25 s26 s27 s28 s29 s30 s31 s32 s33 s34 s35 s36 s37 s38 s39 s40 s41 q1 q2 q3 q4 W3 hq1 hq2 hq3 hq4 hd3 b13 hoth hos
  have hM3 : MadeI W3 pc pb p1 (p1 + 1) W3.heap.size a c xs 6 ⟨e - (q1 : Int), e + (q2 : Int)⟩ ⟨n - (q3 : Int), n + (q4 : Int)⟩ [] [] [] (.slice none 0 0) (.slice none 0 0) (.slice none 0 0) :=
    ⟨hd3, (hoth p1 (by omega) (by omega) (by omega)).trans d12, b13, World.ownsRow_nil _ _ _ _, World.ownsRow_nil _ _ _ _, World.ownsRow_nil _ _ _ _, dj_nil _, dj_nil _, dj_nil _, hsz, by omega, by have := hos.2.2.2; omega, Nat.le_refl _⟩
  have HG3 : Hid (w.grownBy W3 (some pc)) := Lib.hid ⟨hos.1.trans HG2.out.os, hos.2.1.trans HG2.out.tape, hos.2.2.1.trans HG2.out.output, Nat.le_trans HG2.out.size hos.2.2.2, fun i hi hne => (hoth i (by have := HP1.out; omega) (fun e => hne (by rw [e])) (by have := HG2.out.size; omega)).trans (HG2.out.block i hi hne)⟩
  have hBB : w.heap.size ≤ p1 + 1 := by have := HP1.out; omega
  have HBB := Lib.hid hBB
  have HSP : Hid (-20 ≤ e - (q1 : Int) ∧ e - (q1 : Int) ≤ e ∧ e ≤ e + (q2 : Int) ∧ e + (q2 : Int) ≤ 20 ∧ -20 ≤ n - (q3 : Int) ∧ n - (q3 : Int) ≤ n ∧ n ≤ n + (q4 : Int) ∧ n + (q4 : Int) ≤ 20) := Lib.hid (by omega)
  have HM3 := Lib.hid hM3
  generalize e - (q1 : Int) = s1 at HM3 HSP
  generalize e + (q2 : Int) = s2 at HM3 HSP
  generalize n - (q3 : Int) = s3 at HM3 HSP
  generalize n + (q4 : Int) = s4 at HM3 HSP
  obtain ⟨he1, he2⟩ := heb
  obtain ⟨hn1, hn2⟩ := hnb
  clear hq1 hq2 hq3 hq4 hM3 hd3 b13 hoth hos d12 b12 hz2 hd2 HG2 hBB
  obtain ⟨B, hB⟩ : ∃ B, W3.heap.size = B := ⟨_, rfl⟩
  rw [hB] at HM3
  clear hB
  have cp : W3.cell? ⟨p1, 0, none⟩ = some (.func (.func 62) #[] #[.pointer (some ⟨pc, 0, none⟩), .pointer (some ⟨pb, 0, none⟩)]) := cell_block HM3.out.d1 0
  go_wp2_with fail
  refine (draw_any 6 pc pb a c xs 6 HX.out (by omega) (by omega) _ HM3.out.dr).mono ?_
  rintro e' W4 ⟨r, hr, rfl, hd4, hg4⟩
  have HM4 := Lib.hid (HM3.out.draw hd4 hg4)
  have HG4 := Lib.hid (grown_trans HG3.out hg4 (.inl rfl))
  clear cp HM3 HG3 hd4 hg4
  go_wp2_with fail
  go_loopw [5, 44] (fun vI i wr => ∃ (m : Nat) (fs ss : List Ed) (sm : List Int) (vF vS : Value), m ≤ r ∧ i = .int .i64 m ∧ MadeI wr pc pb p1 (p1 + 1) B a c xs (7 + 30 * m) ⟨s1, s2⟩ ⟨s3, s4⟩ fs ss sm vF vS vI ∧ InvJ (e, n) fs ss sm ∧ fs.length ≤ m ∧ ss.length ≤ m ∧ w.grownBy wr (some pc)) (fun _ i _ => r - (intOf i).toNat)
  case atStart => exact ⟨0, [], [], [], _, _, Nat.zero_le _, rfl, HM4.out, InvJ.nil _, Nat.le_refl _, Nat.le_refl _, HG4.out⟩
  case round =>
    obtain ⟨m, fs, ss, sm, vF, vS, hm, rfl, hM, hJ, hf, hs, hG⟩ := hrel
    have HM := Lib.hid hM
    have HJ := Lib.hid hJ
    have HG := Lib.hid hG
    have hm5 : m ≤ 5 := by omega
    clear hM hJ hG HM4 HG4
    by_cases hlt : m < r
    · have hmi : (m : Int) < (r : Int) := by omega
      go_upto_region 6 with fail
      refine made_reg6 pc pb p1 a c xs (7 + 30 * m) HX (by omega) HM.out.q1 wr HM.out.dr HM.out.d1 _ _ ?_
      intro s46 s47 s48 s49 s50 s51 s52 s53 s54 t1 t2 t3 W6 h1 h2 h3 hd6 hg6
      have HM6 := Lib.hid (HM.out.draw hd6 hg6)
      have HG6 := Lib.hid (grown_trans HG.out hg6 (.inl rfl))
      obtain ⟨x, hx⟩ : ∃ x : Int, 100 + (t1 : Int) = x := ⟨_, rfl⟩
      obtain ⟨y, hy⟩ : ∃ y : Int, 100 + (t2 : Int) = y := ⟨_, rfl⟩
      obtain ⟨z, hz⟩ : ∃ z : Int, 500 + (t3 : Int) = z := ⟨_, rfl⟩
      have hx1 : 100 ≤ x := by omega
      have hx2 : x ≤ 159 := by omega
      have hy1 : 100 ≤ y := by omega
      have hy2 : y ≤ 159 := by omega
      have hz1 : 500 ≤ z := by omega
      have hz2 : z ≤ 559 := by omega
      rw [hx, hy, hz]
      clear hx hy hz h1 h2 h3 hd6 hg6 HM HG
      go_wp2_with fail
      refine (around_any x 4 p1 pc pb a c xs _ HX.out (by omega) (by omega) (by omega) _ HM6.out.dr HM6.out.q1 HM6.out.d1).mono ?_
      rintro e' W7 ⟨l1, v1, hb7, rfl, hd7, hg7⟩
      have HM7 := Lib.hid (HM6.out.draw hd7 hg7)
      have HG7 := Lib.hid (grown_trans HG6.out hg7 (.inl rfl))
      have HB7 := Lib.hid hb7
      clear hd7 hg7 hb7 HM6 HG6
      go_wp2_with fail
      refine (around_any y 4 p1 pc pb a c xs _ HX.out (by omega) (by omega) (by omega) _ HM7.out.dr HM7.out.q1 HM7.out.d1).mono ?_
      rintro e' W8 ⟨l2, v2, hb8, rfl, hd8, hg8⟩
      have HM8 := Lib.hid (HM7.out.draw hd8 hg8)
      have HG8 := Lib.hid (grown_trans HG7.out hg8 (.inl rfl))
      have HB8 := Lib.hid hb8
      clear hd8 hg8 hb8 HM7 HG7
      go_wp2_with fail
      refine (around_any z 9 p1 pc pb a c xs _ HX.out (by omega) (by omega) (by omega) _ HM8.out.dr HM8.out.q1 HM8.out.d1).mono ?_
      rintro e' W9 ⟨l3, v3, hb9, rfl, hd9, hg9⟩
      have HM9 := Lib.hid (HM8.out.draw hd9 hg9)
      have HG9 := Lib.hid (grown_trans HG8.out hg9 (.inl rfl))
      have HB9 := Lib.hid hb9
      clear hd9 hg9 hb9 HM8 HG8
      go_upto_region 8 with fail
      obtain ⟨WA, hWA⟩ : ∃ W, (W9.alloc (.cells #[.int .i64 l1, .int .i64 v1, .int .i64 l2, .int .i64 v2, .int .i64 l3, .int .i64 v3, .bool false] 55)) = W := ⟨_, rfl⟩
      rw [hWA]
      try simp only [Nat.add_assoc, Nat.reduceAdd]
      have hst_WA : Steps (fun _ => False) W9 WA := by rw [← hWA]; exact Steps.alloc _ W9 _
      have hz_WA : WA.heap.size = W9.heap.size + 1 := by rw [← hWA]; simp
      have g0_WA : WA.heap[W9.heap.size]? = some (.cells #[.int .i64 l1, .int .i64 v1, .int .i64 l2, .int .i64 v2, .int .i64 l3, .int .i64 v3, .bool false] 55) := by rw [← hWA]; simp only [alloc_get, World.size_alloc]; repeat (first | exact if_pos trivial | exact if_pos (by omega) | rw [if_neg (by omega)])
      clear hWA
      have hbA : Below W9.heap.size W9 WA := hst_WA.below (Nat.le_refl _) (fun _ _ h => h)
      have HM10 := Lib.hid (HM9.out.below hbA)
      have HG10 := Lib.hid (HG9.out.below3 hbA)
      have HRA : Hid ((∀ g, vF.ownBlock = some g → g < W9.heap.size) ∧ (∀ g, vS.ownBlock = some g → g < W9.heap.size) ∧ (∀ g, u5.ownBlock = some g → g < W9.heap.size)) := Lib.hid ⟨fun g e => (HM9.out.oF.lt g e).2, fun g e => (HM9.out.oS.lt g e).2, fun g e => (HM9.out.oI.lt g e).2⟩
      have hqA : pc < p1 ∧ p1 + 1 < B ∧ B ≤ W9.heap.size := ⟨HM9.out.q1, HM9.out.q3, HM9.out.q4⟩
      have gA10 : Hid (WA.heap[W9.heap.size]? = some (.cells (edArr ⟨⟨l1, v1⟩, ⟨l2, v2⟩, ⟨l3, v3⟩, false⟩) 55)) := Lib.hid g0_WA
      obtain ⟨pA, hpA⟩ : ∃ p, W9.heap.size = p := ⟨_, rfl⟩
      have hzA : WA.heap.size = pA + 1 := by omega
      rw [hpA] at gA10 hqA HRA ⊢
      have HZA := Lib.hid (show pA < WA.heap.size by omega)
      clear hst_WA hz_WA hbA HM9 HG9 g0_WA hpA hzA
      go_wp2_with fail
      refine (around_any (x - e) 4 p1 pc pb a c xs _ HX.out (by omega) (by omega) (by omega) _ HM10.out.dr HM10.out.q1 HM10.out.d1).mono ?_
      rintro e' W11 ⟨l4, v4, hb11, rfl, hd11, hg11⟩
      have HM11 := Lib.hid (HM10.out.draw hd11 hg11)
      have HG11 := Lib.hid (grown_trans HG10.out hg11 (.inl rfl))
      have gA11 := Lib.hid ((hg11.block pA (Array.getElem?_eq_some_iff.1 gA10.out).1 (fun e => by have := Option.some.inj e; omega)).trans gA10.out)
      have HB11 := Lib.hid hb11
      clear hd11 hg11 hb11 HM10 HG10 gA10
      go_wp2_with fail
      refine (around_any (y - n) 4 p1 pc pb a c xs _ HX.out (by omega) (by omega) (by omega) _ HM11.out.dr HM11.out.q1 HM11.out.d1).mono ?_
      rintro e' W12 ⟨l5, v5, hb12, rfl, hd12, hg12⟩
      have HM12 := Lib.hid (HM11.out.draw hd12 hg12)
      have HG12 := Lib.hid (grown_trans HG11.out hg12 (.inl rfl))
      have gA12 := Lib.hid ((hg12.block pA (Array.getElem?_eq_some_iff.1 gA11.out).1 (fun e => by have := Option.some.inj e; omega)).trans gA11.out)
      have HB12 := Lib.hid hb12
      clear hd12 hg12 hb12 HM11 HG11 gA11
      go_wp2_with fail
      refine (around_any z 9 p1 pc pb a c xs _ HX.out (by omega) (by omega) (by omega) _ HM12.out.dr HM12.out.q1 HM12.out.d1).mono ?_
      rintro e' W13 ⟨l6, v6, hb13, rfl, hd13, hg13⟩
      have HM13 := Lib.hid (HM12.out.draw hd13 hg13)
      have HG13 := Lib.hid (grown_trans HG12.out hg13 (.inl rfl))
      have gA13 := Lib.hid ((hg13.block pA (Array.getElem?_eq_some_iff.1 gA12.out).1 (fun e => by have := Option.some.inj e; omega)).trans gA12.out)
      have HB13 := Lib.hid hb13
      clear hd13 hg13 hb13 HM12 HG12 gA12
      go_upto_region 9 with fail
      obtain ⟨WC, hWC⟩ : ∃ W, (W13.alloc (.cells #[.int .i64 l4, .int .i64 v4, .int .i64 l5, .int .i64 v5, .int .i64 l6, .int .i64 v6, .bool false] 55)) = W := ⟨_, rfl⟩
      rw [hWC]
      try simp only [Nat.add_assoc, Nat.reduceAdd]
      have hst_WC : Steps (fun _ => False) W13 WC := by rw [← hWC]; exact Steps.alloc _ W13 _
      have hz_WC : WC.heap.size = W13.heap.size + 1 := by rw [← hWC]; simp
      have g0_WC : WC.heap[W13.heap.size]? = some (.cells #[.int .i64 l4, .int .i64 v4, .int .i64 l5, .int .i64 v5, .int .i64 l6, .int .i64 v6, .bool false] 55) := by rw [← hWC]; simp only [alloc_get, World.size_alloc]; repeat (first | exact if_pos trivial | exact if_pos (by omega) | rw [if_neg (by omega)])
      clear hWC
      have hbC : Below W13.heap.size W13 WC := hst_WC.below (Nat.le_refl _) (fun _ _ h => h)
      have HM14 := Lib.hid (HM13.out.below hbC)
      have HG14 := Lib.hid (HG13.out.below3 hbC)
      have gA14 := Lib.hid (obj_later hbC gA13.out)
      have hAC : pA < W13.heap.size := (Array.getElem?_eq_some_iff.1 gA13.out).1
      have gC14 : Hid (WC.heap[W13.heap.size]? = some (.cells (edArr ⟨⟨l4, v4⟩, ⟨l5, v5⟩, ⟨l6, v6⟩, false⟩) 55)) := Lib.hid g0_WC
      obtain ⟨pC, hpC⟩ : ∃ p, W13.heap.size = p := ⟨_, rfl⟩
      rw [hpC] at gC14 hAC ⊢
      clear hst_WC hz_WC hbC HM13 HG13 g0_WC hpC gA13
      have cp : WC.cell? ⟨p1, 0, none⟩ = some (.func (.func 62) #[] #[.pointer (some ⟨pc, 0, none⟩), .pointer (some ⟨pb, 0, none⟩)]) := cell_block HM14.out.d1 0
      go_wp2_with fail
      refine (draw_any 5 pc pb a c xs _ HX.out (by omega) (by omega) _ HM14.out.dr).mono ?_
      rintro e' W15 ⟨r4, hr4, rfl, hd15, hg15⟩
      have HM15 := Lib.hid ((HM14.out.draw hd15 hg15).more (show _ ≤ 7 + 30 * m + 26 by omega))
      have HG15 := Lib.hid (grown_trans HG14.out hg15 (.inl rfl))
      have gA15 := (hg15.block pA (Array.getElem?_eq_some_iff.1 gA14.out).1 (fun e => by have := Option.some.inj e; omega)).trans gA14.out
      have gC15 := (hg15.block pC (Array.getElem?_eq_some_iff.1 gC14.out).1 (fun e => by have := Option.some.inj e; omega)).trans gC14.out
      obtain ⟨κ, hκ⟩ : ∃ κ : Int, (r4 : Int) = κ := ⟨_, rfl⟩
      have hκ0 : 0 ≤ κ := by omega
      have hκ5 : κ < 5 := by omega
      rw [hκ]
      clear cp HM14 HG14 gA14 gC14 hd15 hg15 hκ hr4
      have HOA : Hid (((⟨⟨l1, v1⟩, ⟨l2, v2⟩, ⟨l3, v3⟩, false⟩ : Ed)).ok = true) := Lib.hid ((edok_iff _).2 (by have a1 := HB7.out; have a2 := HB8.out; have a3 := HB9.out; simp only; omega))
      have HOC : Hid (((⟨⟨l4, v4⟩, ⟨l5, v5⟩, ⟨l6, v6⟩, false⟩ : Ed)).ok = true) := Lib.hid ((edok_iff _).2 (by have a1 := HB11.out; have a2 := HB12.out; have a3 := HB13.out; simp only; omega))
      have HSA : Hid (((⟨⟨l1, v1⟩, ⟨l2, v2⟩, ⟨l3, v3⟩, false⟩ : Ed)).same ⟨⟨l4, v4⟩, ⟨l5, v5⟩, ⟨l6, v6⟩, false⟩ (e, n) = true) := Lib.hid (by
        rw [edsame_iff, meets_iff, meets_iff, meets_iff]
        have a1 := HB7.out; have a2 := HB8.out; have a3 := HB9.out; have a4 := HB11.out; have a5 := HB12.out; have a6 := HB13.out
        simp only
        omega)
      clear HB7 HB8 HB9 HB11 HB12 HB13
      obtain ⟨fa, fc, rfl⟩ := ownsRow_form HM15.out.oF
      obtain ⟨sa, sc, rfl⟩ := ownsRow_form HM15.out.oS
      have hfi : (fs.length : Int) < 6 := by omega
      have hsi : (ss.length : Int) < 6 := by omega
      have c4 := cell_block HM15.out.b2 4
      have c5 := cell_block HM15.out.b2 5
      simp only [List.getElem?_toArray, List.getElem?_cons_zero, List.getElem?_cons_succ] at c4 c5
      by_cases k0 : κ = 0
      · have he1 : (κ != 0) = false := by simp [k0]
        have he2 : (κ == 0) = true := by simp [k0]
        obtain ⟨v', w', hrun, hc, hfz, hM', hB', _⟩ := HM15.out.putS ⟨⟨l4, v4⟩, ⟨l5, v5⟩, ⟨l6, v6⟩, false⟩ (by omega)
        obtain ⟨va, vN, vc, rfl⟩ := ownsRow_any hM'.oS
        have HM' := Lib.hid hM'
        have HG' := Lib.hid (grown_low HG15.out hB' HBB.out)
        have b0 := cell_block gC15 0
        have b1 := cell_block gC15 1
        have b2 := cell_block gC15 2
        have b3 := cell_block gC15 3
        have b4 := cell_block gC15 4
        have b5 := cell_block gC15 5
        have b6 := cell_block gC15 6
        unfold edArr at hrun
        simp only [edArr, List.getElem?_toArray, List.getElem?_cons_zero, List.getElem?_cons_succ] at b0 b1 b2 b3 b4 b5 b6
        clear hM' hB' gA15 gC15 k0 HM15 HG15
        go_wp2_with (at_builtin; refine wpList_plain rfl fun K hK => ?_; unfold Oper.wp; simp [execOp, resolve, invoke, builtin, hrun, Result.andThen, Act.eval]; refine hK _ _ ?_; clear hK)
        go_roundw
        case rel => exact ⟨m + 1, fs, ss ++ [⟨⟨l4, v4⟩, ⟨l5, v5⟩, ⟨l6, v6⟩, false⟩], sm, _, _, by omega, by go_num, HM'.out.more (by omega), HJ.out.second _ HOC.out rfl, by omega, by simp; omega, HG'.out⟩
        case measure => simp [intOf]; omega
      · have he1 : (κ != 0) = true := by simp [k0]
        by_cases k1 : 1 < κ
        · clear k0
          go_upto_region 14 with fail
          refine made_reg14 pc pb p1 a c xs _ HX (by omega) HM15.out.q1 W15 HM15.out.dr HM15.out.d1 pA pC ⟨⟨l1, v1⟩, ⟨l2, v2⟩, ⟨l3, v3⟩, false⟩ ⟨⟨l4, v4⟩, ⟨l5, v5⟩, ⟨l6, v6⟩, false⟩ gA15 gC15 (by omega) (by omega) (by omega) _ _ ?_
          intro s100 s101 s102 s103 s104 s105 s106 s107 b1 b2 W16 hd16 gA16 gC16 hoth hos
          have hRA := HRA.out
          have hM16 := HM15.out.two pA pC hd16 hoth hos.2.2.2 (by omega) (by omega) ⟨fun e => by have := hRA.1 _ e; omega, fun e => by have := hRA.1 _ e; omega⟩ ⟨fun e => by have := hRA.2.1 _ e; omega, fun e => by have := hRA.2.1 _ e; omega⟩ ⟨fun e => by have := hRA.2.2 _ e; omega, fun e => by have := hRA.2.2 _ e; omega⟩
          have HG16 : Hid (w.grownBy W16 (some pc)) := Lib.hid ⟨hos.1.trans HG15.out.os, hos.2.1.trans HG15.out.tape, hos.2.2.1.trans HG15.out.output, Nat.le_trans HG15.out.size hos.2.2.2, fun i hi hne => (hoth i (by have := HBB.out; omega) (by have := HBB.out; omega) (fun e => hne (by rw [e])) (by have := HG15.out.size; omega)).trans (HG15.out.block i hi hne)⟩
          obtain ⟨v', w', hrun, hc, hfz, hM', hB', hkeep⟩ := hM16.putS { (⟨⟨l4, v4⟩, ⟨l5, v5⟩, ⟨l6, v6⟩, false⟩ : Ed) with sure := b2 } (by omega)
          obtain ⟨va, vN, vc, rfl⟩ := ownsRow_any hM'.oS
          have HM' := Lib.hid hM'
          have HG' := Lib.hid (grown_low HG16.out hB' HBB.out)
          have HA' := Lib.hid ((hkeep pA (Array.getElem?_eq_some_iff.1 gA16).1 (by omega) (fun e => by have := hRA.2.1 _ e; omega)).trans gA16)
          have c5' := cell_block hM16.b2 5
          have d0 := cell_block gC16 0
          have d1 := cell_block gC16 1
          have d2 := cell_block gC16 2
          have d3 := cell_block gC16 3
          have d4 := cell_block gC16 4
          have d5 := cell_block gC16 5
          have d6 := cell_block gC16 6
          unfold edArr at hrun
          simp only [edArr, List.getElem?_toArray, List.getElem?_cons_zero, List.getElem?_cons_succ] at d0 d1 d2 d3 d4 d5 d6 c5'
          clear hM' hB' gA15 gC15 HM15 HG15 hkeep gA16 gC16 hM16 hoth hos hd16 c4 c5 hRA
          go_upto_region 16 with (at_builtin; refine wpList_plain rfl fun K hK => ?_; unfold Oper.wp; simp [execOp, resolve, invoke, builtin, hrun, Result.andThen, Act.eval]; refine hK _ _ ?_; clear hK)
          generalize w'.setCell ⟨p1 + 1, 5, none⟩ (.slice va vN vc) = W17 at HM' HG' HA' ⊢
          clear hrun hc hfz d0 d1 d2 d3 d4 d5 d6 c5'
          obtain ⟨v2, w2, u2, w3, hrun1, hrun2, hc, hfz, hM', hB'⟩ := HM'.out.putF { (⟨⟨l1, v1⟩, ⟨l2, v2⟩, ⟨l3, v3⟩, false⟩ : Ed) with sure := b1 } (ss.length : Int) (by omega) (by have := HJ.out.len; omega)
          obtain ⟨va2, vN2, vc2, rfl⟩ := ownsRow_any hM'.oF
          have HM2 := Lib.hid hM'
          have HG2 := Lib.hid (grown_low HG'.out hB' HBB.out)
          have c4 := cell_block HM'.out.b2 4
          have d0 := cell_block HA'.out 0
          have d1 := cell_block HA'.out 1
          have d2 := cell_block HA'.out 2
          have d3 := cell_block HA'.out 3
          have d4 := cell_block HA'.out 4
          have d5 := cell_block HA'.out 5
          have d6 := cell_block HA'.out 6
          unfold edArr at hrun1
          simp only [edArr, List.getElem?_toArray, List.getElem?_cons_zero, List.getElem?_cons_succ] at d0 d1 d2 d3 d4 d5 d6 c4
          clear hM' hB' HM' HG' HA'
          go_wp2_with (at_builtin; refine wpList_plain rfl fun K hK => ?_; unfold Oper.wp; simp [execOp, resolve, invoke, builtin, hrun1, hrun2, Result.andThen, Act.eval]; refine hK _ _ ?_; clear hK)
          go_roundw
          case rel => exact ⟨m + 1, fs ++ [{ (⟨⟨l1, v1⟩, ⟨l2, v2⟩, ⟨l3, v3⟩, false⟩ : Ed) with sure := b1 }], ss ++ [{ (⟨⟨l4, v4⟩, ⟨l5, v5⟩, ⟨l6, v6⟩, false⟩ : Ed) with sure := b2 }], sm ++ [(ss.length : Int)], _, _, by omega, by go_num, HM2.out.more (by omega), HJ.out.both _ _ HOA.out HOC.out HSA.out, by simp; omega, by simp; omega, HG2.out⟩
          case measure => simp [intOf]; omega
        · obtain ⟨v2, w2, u2, w3, hrun1, hrun2, hc, hfz, hM', hB'⟩ := HM15.out.putF ⟨⟨l1, v1⟩, ⟨l2, v2⟩, ⟨l3, v3⟩, false⟩ (-1) (by omega) (by have := HJ.out.len; omega)
          obtain ⟨va2, vN2, vc2, rfl⟩ := ownsRow_any hM'.oF
          have HM2 := Lib.hid hM'
          have HG2 := Lib.hid (grown_low HG15.out hB' HBB.out)
          have d0 := cell_block gA15 0
          have d1 := cell_block gA15 1
          have d2 := cell_block gA15 2
          have d3 := cell_block gA15 3
          have d4 := cell_block gA15 4
          have d5 := cell_block gA15 5
          have d6 := cell_block gA15 6
          unfold edArr at hrun1
          simp only [edArr, List.getElem?_toArray, List.getElem?_cons_zero, List.getElem?_cons_succ] at d0 d1 d2 d3 d4 d5 d6
          clear hM' hB' HM15 HG15 gA15 gC15 k0
          go_wp2_with (at_builtin; refine wpList_plain rfl fun K hK => ?_; unfold Oper.wp; simp [execOp, resolve, invoke, builtin, hrun1, hrun2, Result.andThen, Act.eval]; refine hK _ _ ?_; clear hK)
          go_roundw
          case rel => exact ⟨m + 1, fs ++ [⟨⟨l1, v1⟩, ⟨l2, v2⟩, ⟨l3, v3⟩, false⟩], ss, sm ++ [-1], _, _, by omega, by go_num, HM2.out.more (by omega), HJ.out.first _ HOA.out rfl, by simp; omega, by omega, HG2.out⟩
          case measure => simp [intOf]; omega
    · obtain rfl : m = r := by omega
      obtain ⟨fa, fc, rfl⟩ := ownsRow_form HM.out.oF
      obtain ⟨sa, sc, rfl⟩ := ownsRow_form HM.out.oS
      obtain ⟨ia, ic, rfl⟩ := ownsRow_form HM.out.oI
      have c0 := cell_block HM.out.b2 0
      have c1 := cell_block HM.out.b2 1
      have c2 := cell_block HM.out.b2 2
      have c3 := cell_block HM.out.b2 3
      have c4 := cell_block HM.out.b2 4
      have c5 := cell_block HM.out.b2 5
      simp only [List.getElem?_toArray, List.getElem?_cons_zero, List.getElem?_cons_succ] at c0 c1 c2 c3 c4 c5
      have f0 := frozen_block HM.out.b2 0
      have f1 := frozen_block HM.out.b2 1
      have f2 := frozen_block HM.out.b2 2
      have f3 := frozen_block HM.out.b2 3
      have f4 := frozen_block HM.out.b2 4
      have f5 := frozen_block HM.out.b2 5
      have m2 := six_same (.int .i64 s1) (.int .i64 s2) (.int .i64 s3) (.int .i64 s4) (.slice fa fs.length fc) (.slice sa ss.length sc) HM.out.b2
      have mo := six_other wr (p1 + 1)
      have mb := six_below (p := p1 + 1) (.int .i64 s1) (.int .i64 s2) (.int .i64 s3) (.int .i64 s4) (.slice fa fs.length fc) (.slice sa ss.length sc) (Below.refl (p1 + 1) wr) (Nat.le_refl _)
      have HMO := Lib.hid (fun k hk => mo k (.int .i64 s1) (.int .i64 s2) (.int .i64 s3) (.int .i64 s4) (.slice fa fs.length fc) (.slice sa ss.length sc) hk)
      have HG' := Lib.hid (grown_low HG.out mb HBB.out)
      have HM2 := Lib.hid m2
      clear mo mb m2
      go_wp2_with fail
      generalize ((((((wr.setCell ⟨p1 + 1, 0, none⟩ (.int .i64 s1)).setCell ⟨p1 + 1, 1, none⟩ (.int .i64 s2)).setCell ⟨p1 + 1, 2, none⟩ (.int .i64 s3)).setCell ⟨p1 + 1, 3, none⟩ (.int .i64 s4)).setCell ⟨p1 + 1, 4, none⟩ (.slice fa fs.length fc)).setCell ⟨p1 + 1, 5, none⟩ (.slice sa ss.length sc)) = X at HMO HG' HM2 ⊢
      have x0 := cell_block HM2.out 0
      have x1 := cell_block HM2.out 1
      have x2 := cell_block HM2.out 2
      have x3 := cell_block HM2.out 3
      have x4 := cell_block HM2.out 4
      have x5 := cell_block HM2.out 5
      simp only [List.getElem?_toArray, List.getElem?_cons_zero, List.getElem?_cons_succ] at x0 x1 x2 x3 x4 x5
      have hq3 := HM.out.q3
      have oF := ownsRow_same HM.out.oF (fun g e => HMO.out g (by have := (HM.out.oF.lt g e).1; omega))
      have oS := ownsRow_same HM.out.oS (fun g e => HMO.out g (by have := (HM.out.oS.lt g e).1; omega))
      have oI := ownsRow_same HM.out.oI (fun g e => HMO.out g (by have := (HM.out.oI.lt g e).1; omega))
      refine bodyPost_ret (v := .tuple #[.agg #[.int .i64 s1, .int .i64 s2, .int .i64 s3, .int .i64 s4, .slice fa fs.length fc, .slice sa ss.length sc], .int .i64 e, .int .i64 n, .slice ia sm.length ic]) (by simp [results, Try.results28, go_sem, x0, x1, x2, x3, x4, x5]) rfl ?_
      refine ⟨⟨⟨s1, s2⟩, ⟨s3, s4⟩, fs, ss⟩, fa, sa, fc, sc, (e, n), sm, ia, ic, rfl, ⟨EdSl.owned oF, EdSl.owned oS, by show fs.length < _; omega, by show ss.length < _; omega⟩, IntsV.owned oI, ?_, ?_, HJ.out.join, HG'.out⟩
      · have hsp := HSP.out
        exact (ok_iff _).2 ⟨by simp only; omega, by simp only; omega, by show fs.length ≤ 6; omega, by show ss.length ≤ 6; omega, List.all_eq_true.2 HJ.out.okf, List.all_eq_true.2 HJ.out.oks⟩
      · have hsp := HSP.out
        exact (shift_iff _ _).2 ⟨by simp only; omega, by simp only; omega⟩
end Go.Proofs.Ytjkegmjjhdmkiaa
