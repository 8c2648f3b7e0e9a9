/- More regions of the reference's Of. -/
import Derived.Test.YtacioedolmaofaaLBA15
namespace Go.Proofs.Ytacioedolmaofaa
open Go.RowKit Go.Shelf
set_option maxHeartbeats 6400000
set_option maxRecDepth 100000
set_option linter.unusedSimpArgs false
set_option linter.unusedVariables false

theorem of_reg9_1 (z q3 fc kb n bf of : Nat) (p : ISpot) (W : World) {z0 z1 z4 z5 z6 z7 z9 z10 z12 z13 z14 z15 z16 z17 z18 z19 z20 z21 z22 z23 z24 z25 z26 z27 z28 z29 z30 z31 z32 z33 z34 z35 z36 z37 z38 z39 z40 z41 z42 z43 z44 z45 z46 z47 z48 z49 z50 z51 z52 z53 z54 z55 z56 z57 z58 z66 z67 z68 z69 z70 z71 z72 z73 z74 z75 z76 z77 z78 z79 z80 z81 z82 z83 z84 z85 z86 z87 z88 z89 z90 z91 z92 z93 z94 z95 z96 z97 z98 z99 z100 z101 z102 z103 z104 z105 z106 z107 z108 z109 z110 z111 z112 z113 z114 z115 z116 z117 z118 z119 z120 z121 z122 : Value} {z11 z59 z60 z61 z62 z63 z64 z65 : Value} (hx : W.cell? ⟨z, 14, none⟩ = some (.slice (some ⟨bf, of, none⟩) n fc)) (hq : W.cell? ⟨q3, 1, none⟩ = some (.int .i64 kb)) (hkb : (kb : Int) < n) (hE : ImAt W bf (of + kb * 6) p) (K : Act → World → Prop) (Q : Exit → Act → World → Prop)
    (hfin : ∀ (s59 s60 s61 s62 s63 s64 s65 : Value) (q11 : Nat) (w' : World), (W.heap.size ≤ q11 ∧ w'.heap[q11]? = some (.cells #[.int .i64 p.x.lo, .int .i64 p.x.hi, .int .i64 p.y.lo, .int .i64 p.y.hi, .int .i64 p.s.lo, .int .i64 p.s.hi] 61) ∧ Steps (fun _ => False) W w') → K ⟨(z0::z1::(.pointer (some ⟨z, 0, none⟩))::(.pointer (some ⟨q3, 0, none⟩))::z4::z5::z6::z7::(.int .i64 1)::z9::z10::(.pointer (some ⟨q11, 0, none⟩))::z12::z13::z14::z15::z16::z17::z18::z19::z20::z21::z22::z23::z24::z25::z26::z27::z28::z29::z30::z31::z32::z33::z34::z35::z36::z37::z38::z39::z40::z41::z42::z43::z44::z45::z46::z47::z48::z49::z50::z51::z52::z53::z54::z55::z56::z57::z58::s59::s60::s61::s62::s63::s64::s65::z66::z67::z68::z69::z70::z71::z72::z73::z74::z75::z76::z77::z78::z79::z80::z81::z82::z83::z84::z85::z86::z87::z88::z89::z90::z91::z92::z93::z94::z95::z96::z97::z98::z99::z100::z101::z102::z103::z104::z105::z106::z107::z108::z109::z110::z111::z112::z113::z114::z115::z116::z117::z118::z119::z120::z121::z122 :: []).toArray, []⟩ w') :
    Code.wp Try.prog ((Try.f37.body.bind (findReg 9)).getD .skip) (Exit.then K Q) ⟨(z0::z1::(.pointer (some ⟨z, 0, none⟩))::(.pointer (some ⟨q3, 0, none⟩))::z4::z5::z6::z7::(.int .i64 1)::z9::z10::z11::z12::z13::z14::z15::z16::z17::z18::z19::z20::z21::z22::z23::z24::z25::z26::z27::z28::z29::z30::z31::z32::z33::z34::z35::z36::z37::z38::z39::z40::z41::z42::z43::z44::z45::z46::z47::z48::z49::z50::z51::z52::z53::z54::z55::z56::z57::z58::z59::z60::z61::z62::z63::z64::z65::z66::z67::z68::z69::z70::z71::z72::z73::z74::z75::z76::z77::z78::z79::z80::z81::z82::z83::z84::z85::z86::z87::z88::z89::z90::z91::z92::z93::z94::z95::z96::z97::z98::z99::z100::z101::z102::z103::z104::z105::z106::z107::z108::z109::z110::z111::z112::z113::z114::z115::z116::z117::z118::z119::z120::z121::z122 :: []).toArray, []⟩ W := by
  have HFIN := Lib.hid hfin
  have k0 : ∀ W', Steps (fun _ => False) W W' → W'.cell? ⟨z, 14, none⟩ = some (.slice (some ⟨bf, of, none⟩) n fc) := fun W' h => icell_apart h (fun h => h) (hx)
  have k1 : ∀ W', Steps (fun _ => False) W W' → W'.cell? ⟨q3, 1, none⟩ = some (.int .i64 kb) := fun W' h => icell_apart h (fun h => h) (hq)
  have k2 : ∀ W', Steps (fun _ => False) W W' → W'.cell? ⟨bf, of + kb * 6, none⟩ = some (.int .i64 p.x.lo) := fun W' h => icell_apart h (fun h => h) (hE.c0)
  have k3 : ∀ W', Steps (fun _ => False) W W' → W'.cell? ⟨bf, of + kb * 6 + 1, none⟩ = some (.int .i64 p.x.hi) := fun W' h => icell_apart h (fun h => h) (hE.c1)
  have k4 : ∀ W', Steps (fun _ => False) W W' → W'.cell? ⟨bf, of + kb * 6 + 2, none⟩ = some (.int .i64 p.y.lo) := fun W' h => icell_apart h (fun h => h) (hE.c2)
  have k5 : ∀ W', Steps (fun _ => False) W W' → W'.cell? ⟨bf, of + kb * 6 + 3, none⟩ = some (.int .i64 p.y.hi) := fun W' h => icell_apart h (fun h => h) (hE.c3)
  have k6 : ∀ W', Steps (fun _ => False) W W' → W'.cell? ⟨bf, of + kb * 6 + 4, none⟩ = some (.int .i64 p.s.lo) := fun W' h => icell_apart h (fun h => h) (hE.c4)
  have k7 : ∀ W', Steps (fun _ => False) W W' → W'.cell? ⟨bf, of + kb * 6 + 5, none⟩ = some (.int .i64 p.s.hi) := fun W' h => icell_apart h (fun h => h) (hE.c5)
  clear hfin
  conv => arg 2; whnf
  refine (wpIn_wide (n := 0)).1 ?_
  refine wpIn_region_Wn (S := fun W' => Steps (fun _ => False) W W') 9 (by kernel_rfl) (by kernel_rfl) (Steps.refl _ W).drew (fun H0 => ?_)
  generalize W.drew = w0 at H0 ⊢
  have hw0 : IntKind.i64.wrap 0 = 0 := by decide
  have hw1 : IntKind.i64.wrap 1 = 1 := by decide
  refine wTk 0 59 ?_ ?_ ?_
  rotate_left
  · intro o h w k; (try dsimp only at k); simp only [gA, gB, gC, gG] at h; subst h; go_simp; try with_reducible rfl
  simp only [Act.put, gD, gE, gF]
  refine wTk 1 60 ?_ ?_ ?_
  rotate_left
  · intro o h w k; (try dsimp only at k); simp only [gA, gB, gC, gG] at h; subst h; go_simp; try with_reducible rfl
  simp only [Act.put, gD, gE, gF]
  refine wTk 2 61 ?_ ?_ ?_
  rotate_left
  · intro o h w k; (try dsimp only at k); simp only [gA, gB, gC, gG] at h; subst h; go_simp; try with_reducible rfl
  simp only [Act.put, gD, gE, gF]
  refine wTk 3 62 ?_ ?_ ?_
  rotate_left
  · intro o h w k; (try dsimp only at k); simp only [gA, gB, gC, gG] at h; subst h; go_simp; try with_reducible rfl
  simp only [Act.put, gD, gE, gF]
  refine wTk 4 63 ?_ ?_ ?_
  rotate_left
  · intro o h w k; (try dsimp only at k); simp only [gA, gB, gC, gG] at h; subst h; go_simp; try with_reducible rfl
  simp only [Act.put, gD, gE, gF]
  refine wTk 5 64 ?_ ?_ ?_
  rotate_left
  · intro o h w k; (try dsimp only at k); simp only [gA, gB, gC, gG] at h; subst h; go_simp; try with_reducible rfl
  simp only [Act.put, gD, gE, gF]
  refine wTk 6 65 ?_ ?_ ?_
  rotate_left
  · intro o h w k; (try dsimp only at k); simp only [gA, gB, gC, gG] at h; subst h; go_simp; try with_reducible rfl
  simp only [Act.put, gD, gE, gF]
  clear k0 k1 k2 k3 k4 k5 k6 k7
  refine wpAnyW_one 7 (by kernel_rfl) (by kernel_rfl) ?_
  intro oo ho K hK
  simp only [gA, gB, gC, gG] at ho
  subst ho
  go_simp
  have hst := Steps.alloc (fun _ => False) w0 (.cells #[.int .i64 0, .int .i64 0, .int .i64 0, .int .i64 0, .int .i64 0, .int .i64 0] 61)
  have hnw := obj_new w0 (.cells #[.int .i64 0, .int .i64 0, .int .i64 0, .int .i64 0, .int .i64 0, .int .i64 0] 61)
  have H1 := H0.trans hst (fun _ _ h => h)
  refine hK _ _ H1 (fun _ => ?_)
  clear hK K
  try simp only [Act.put, gD, gE, gF]
  obtain ⟨q11, hqe⟩ : ∃ q, w0.heap.size = q := ⟨_, rfl⟩
  have q11l : q11 < (w0.alloc (.cells #[.int .i64 0, .int .i64 0, .int .i64 0, .int .i64 0, .int .i64 0, .int .i64 0] 61)).heap.size := by rw [← hqe]; simp
  generalize w0.alloc (.cells #[.int .i64 0, .int .i64 0, .int .i64 0, .int .i64 0, .int .i64 0, .int .i64 0] 61) = w1 at hst hnw H1 q11l ⊢
  rw [hqe] at hnw
  try rw [hqe]
  have q11W : W.heap.size ≤ q11 := by have := H0.size; omega
  have Gq11 := hnw
  clear hst hnw hqe
  have cz := fun k => cell_block Gq11 k
  have fz := fun k => frozen_block Gq11 k
  have c0 := cz 0
  have fc0 := fz 0
  have c1 := cz 1
  have fc1 := fz 1
  have c2 := cz 2
  have fc2 := fz 2
  have c3 := cz 3
  have fc3 := fz 3
  have c4 := cz 4
  have fc4 := fz 4
  have c5 := cz 5
  have fc5 := fz 5
  clear cz fz
  simp only [gA, gB, gC] at c0 c1 c2 c3 c4 c5
  refine wpAnyW_one 8 (by kernel_rfl) (by kernel_rfl) ?_
  intro o ho K hK
  simp only [gA, gB, gC, gG] at ho
  subst ho
  go_simp
  have zz := star_put Gq11 (.int .i64 p.x.lo) (.int .i64 p.x.hi) (.int .i64 p.y.lo) (.int .i64 p.y.hi) (.int .i64 p.s.lo) (.int .i64 p.s.hi)
  have hs := H1.trans (isix_steps q11 (.int .i64 p.x.lo) (.int .i64 p.x.hi) (.int .i64 p.y.lo) (.int .i64 p.y.hi) (.int .i64 p.s.lo) (.int .i64 p.s.hi) w1) (fun k hk h => by omega)
  refine hK _ _ hs (fun _ => ?_)
  clear hK K
  try simp only [Act.put, gD, gE, gF]
  refine wpAnyW_done (by kernel_rfl) ?_ _
  dsimp only [onNormal]
  exact HFIN.out _ _ _ _ _ _ _ q11 _ ⟨q11W, zz, hs⟩

theorem of_reg9_2 (z q3 fc kb n bf of : Nat) (p : ISpot) (W : World) {z0 z1 z4 z5 z6 z7 z9 z10 z12 z13 z14 z15 z16 z17 z18 z19 z20 z21 z22 z23 z24 z25 z26 z27 z28 z29 z30 z31 z32 z33 z34 z35 z36 z37 z38 z39 z40 z41 z42 z43 z44 z45 z46 z47 z48 z49 z50 z51 z52 z53 z54 z55 z56 z57 z58 z66 z67 z68 z69 z70 z71 z72 z73 z74 z75 z76 z77 z78 z79 z80 z81 z82 z83 z84 z85 z86 z87 z88 z89 z90 z91 z92 z93 z94 z95 z96 z97 z98 z99 z100 z101 z102 z103 z104 z105 z106 z107 z108 z109 z110 z111 z112 z113 z114 z115 z116 z117 z118 z119 z120 z121 z122 : Value} {z11 z59 z60 z61 z62 z63 z64 z65 : Value} (hx : W.cell? ⟨z, 14, none⟩ = some (.slice (some ⟨bf, of, none⟩) n fc)) (hq : W.cell? ⟨q3, 2, none⟩ = some (.int .i64 kb)) (hkb : (kb : Int) < n) (hE : ImAt W bf (of + kb * 6) p) (K : Act → World → Prop) (Q : Exit → Act → World → Prop)
    (hfin : ∀ (s59 s60 s61 s62 s63 s64 s65 : Value) (q11 : Nat) (w' : World), (W.heap.size ≤ q11 ∧ w'.heap[q11]? = some (.cells #[.int .i64 p.x.lo, .int .i64 p.x.hi, .int .i64 p.y.lo, .int .i64 p.y.hi, .int .i64 p.s.lo, .int .i64 p.s.hi] 61) ∧ Steps (fun _ => False) W w') → K ⟨(z0::z1::(.pointer (some ⟨z, 0, none⟩))::(.pointer (some ⟨q3, 0, none⟩))::z4::z5::z6::z7::(.int .i64 2)::z9::z10::(.pointer (some ⟨q11, 0, none⟩))::z12::z13::z14::z15::z16::z17::z18::z19::z20::z21::z22::z23::z24::z25::z26::z27::z28::z29::z30::z31::z32::z33::z34::z35::z36::z37::z38::z39::z40::z41::z42::z43::z44::z45::z46::z47::z48::z49::z50::z51::z52::z53::z54::z55::z56::z57::z58::s59::s60::s61::s62::s63::s64::s65::z66::z67::z68::z69::z70::z71::z72::z73::z74::z75::z76::z77::z78::z79::z80::z81::z82::z83::z84::z85::z86::z87::z88::z89::z90::z91::z92::z93::z94::z95::z96::z97::z98::z99::z100::z101::z102::z103::z104::z105::z106::z107::z108::z109::z110::z111::z112::z113::z114::z115::z116::z117::z118::z119::z120::z121::z122 :: []).toArray, []⟩ w') :
    Code.wp Try.prog ((Try.f37.body.bind (findReg 9)).getD .skip) (Exit.then K Q) ⟨(z0::z1::(.pointer (some ⟨z, 0, none⟩))::(.pointer (some ⟨q3, 0, none⟩))::z4::z5::z6::z7::(.int .i64 2)::z9::z10::z11::z12::z13::z14::z15::z16::z17::z18::z19::z20::z21::z22::z23::z24::z25::z26::z27::z28::z29::z30::z31::z32::z33::z34::z35::z36::z37::z38::z39::z40::z41::z42::z43::z44::z45::z46::z47::z48::z49::z50::z51::z52::z53::z54::z55::z56::z57::z58::z59::z60::z61::z62::z63::z64::z65::z66::z67::z68::z69::z70::z71::z72::z73::z74::z75::z76::z77::z78::z79::z80::z81::z82::z83::z84::z85::z86::z87::z88::z89::z90::z91::z92::z93::z94::z95::z96::z97::z98::z99::z100::z101::z102::z103::z104::z105::z106::z107::z108::z109::z110::z111::z112::z113::z114::z115::z116::z117::z118::z119::z120::z121::z122 :: []).toArray, []⟩ W := by
  have HFIN := Lib.hid hfin
  have k0 : ∀ W', Steps (fun _ => False) W W' → W'.cell? ⟨z, 14, none⟩ = some (.slice (some ⟨bf, of, none⟩) n fc) := fun W' h => icell_apart h (fun h => h) (hx)
  have k1 : ∀ W', Steps (fun _ => False) W W' → W'.cell? ⟨q3, 2, none⟩ = some (.int .i64 kb) := fun W' h => icell_apart h (fun h => h) (hq)
  have k2 : ∀ W', Steps (fun _ => False) W W' → W'.cell? ⟨bf, of + kb * 6, none⟩ = some (.int .i64 p.x.lo) := fun W' h => icell_apart h (fun h => h) (hE.c0)
  have k3 : ∀ W', Steps (fun _ => False) W W' → W'.cell? ⟨bf, of + kb * 6 + 1, none⟩ = some (.int .i64 p.x.hi) := fun W' h => icell_apart h (fun h => h) (hE.c1)
  have k4 : ∀ W', Steps (fun _ => False) W W' → W'.cell? ⟨bf, of + kb * 6 + 2, none⟩ = some (.int .i64 p.y.lo) := fun W' h => icell_apart h (fun h => h) (hE.c2)
  have k5 : ∀ W', Steps (fun _ => False) W W' → W'.cell? ⟨bf, of + kb * 6 + 3, none⟩ = some (.int .i64 p.y.hi) := fun W' h => icell_apart h (fun h => h) (hE.c3)
  have k6 : ∀ W', Steps (fun _ => False) W W' → W'.cell? ⟨bf, of + kb * 6 + 4, none⟩ = some (.int .i64 p.s.lo) := fun W' h => icell_apart h (fun h => h) (hE.c4)
  have k7 : ∀ W', Steps (fun _ => False) W W' → W'.cell? ⟨bf, of + kb * 6 + 5, none⟩ = some (.int .i64 p.s.hi) := fun W' h => icell_apart h (fun h => h) (hE.c5)
  clear hfin
  conv => arg 2; whnf
  refine (wpIn_wide (n := 0)).1 ?_
  refine wpIn_region_Wn (S := fun W' => Steps (fun _ => False) W W') 9 (by kernel_rfl) (by kernel_rfl) (Steps.refl _ W).drew (fun H0 => ?_)
  generalize W.drew = w0 at H0 ⊢
  have hw0 : IntKind.i64.wrap 0 = 0 := by decide
  have hw1 : IntKind.i64.wrap 1 = 1 := by decide
  refine wTk 0 59 ?_ ?_ ?_
  rotate_left
  · intro o h w k; (try dsimp only at k); simp only [gA, gB, gC, gG] at h; subst h; go_simp; try with_reducible rfl
  simp only [Act.put, gD, gE, gF]
  refine wTk 1 60 ?_ ?_ ?_
  rotate_left
  · intro o h w k; (try dsimp only at k); simp only [gA, gB, gC, gG] at h; subst h; go_simp; try with_reducible rfl
  simp only [Act.put, gD, gE, gF]
  refine wTk 2 61 ?_ ?_ ?_
  rotate_left
  · intro o h w k; (try dsimp only at k); simp only [gA, gB, gC, gG] at h; subst h; go_simp; try with_reducible rfl
  simp only [Act.put, gD, gE, gF]
  refine wTk 3 62 ?_ ?_ ?_
  rotate_left
  · intro o h w k; (try dsimp only at k); simp only [gA, gB, gC, gG] at h; subst h; go_simp; try with_reducible rfl
  simp only [Act.put, gD, gE, gF]
  refine wTk 4 63 ?_ ?_ ?_
  rotate_left
  · intro o h w k; (try dsimp only at k); simp only [gA, gB, gC, gG] at h; subst h; go_simp; try with_reducible rfl
  simp only [Act.put, gD, gE, gF]
  refine wTk 5 64 ?_ ?_ ?_
  rotate_left
  · intro o h w k; (try dsimp only at k); simp only [gA, gB, gC, gG] at h; subst h; go_simp; try with_reducible rfl
  simp only [Act.put, gD, gE, gF]
  refine wTk 6 65 ?_ ?_ ?_
  rotate_left
  · intro o h w k; (try dsimp only at k); simp only [gA, gB, gC, gG] at h; subst h; go_simp; try with_reducible rfl
  simp only [Act.put, gD, gE, gF]
  clear k0 k1 k2 k3 k4 k5 k6 k7
  refine wpAnyW_one 7 (by kernel_rfl) (by kernel_rfl) ?_
  intro oo ho K hK
  simp only [gA, gB, gC, gG] at ho
  subst ho
  go_simp
  have hst := Steps.alloc (fun _ => False) w0 (.cells #[.int .i64 0, .int .i64 0, .int .i64 0, .int .i64 0, .int .i64 0, .int .i64 0] 61)
  have hnw := obj_new w0 (.cells #[.int .i64 0, .int .i64 0, .int .i64 0, .int .i64 0, .int .i64 0, .int .i64 0] 61)
  have H1 := H0.trans hst (fun _ _ h => h)
  refine hK _ _ H1 (fun _ => ?_)
  clear hK K
  try simp only [Act.put, gD, gE, gF]
  obtain ⟨q11, hqe⟩ : ∃ q, w0.heap.size = q := ⟨_, rfl⟩
  have q11l : q11 < (w0.alloc (.cells #[.int .i64 0, .int .i64 0, .int .i64 0, .int .i64 0, .int .i64 0, .int .i64 0] 61)).heap.size := by rw [← hqe]; simp
  generalize w0.alloc (.cells #[.int .i64 0, .int .i64 0, .int .i64 0, .int .i64 0, .int .i64 0, .int .i64 0] 61) = w1 at hst hnw H1 q11l ⊢
  rw [hqe] at hnw
  try rw [hqe]
  have q11W : W.heap.size ≤ q11 := by have := H0.size; omega
  have Gq11 := hnw
  clear hst hnw hqe
  have cz := fun k => cell_block Gq11 k
  have fz := fun k => frozen_block Gq11 k
  have c0 := cz 0
  have fc0 := fz 0
  have c1 := cz 1
  have fc1 := fz 1
  have c2 := cz 2
  have fc2 := fz 2
  have c3 := cz 3
  have fc3 := fz 3
  have c4 := cz 4
  have fc4 := fz 4
  have c5 := cz 5
  have fc5 := fz 5
  clear cz fz
  simp only [gA, gB, gC] at c0 c1 c2 c3 c4 c5
  refine wpAnyW_one 8 (by kernel_rfl) (by kernel_rfl) ?_
  intro o ho K hK
  simp only [gA, gB, gC, gG] at ho
  subst ho
  go_simp
  have zz := star_put Gq11 (.int .i64 p.x.lo) (.int .i64 p.x.hi) (.int .i64 p.y.lo) (.int .i64 p.y.hi) (.int .i64 p.s.lo) (.int .i64 p.s.hi)
  have hs := H1.trans (isix_steps q11 (.int .i64 p.x.lo) (.int .i64 p.x.hi) (.int .i64 p.y.lo) (.int .i64 p.y.hi) (.int .i64 p.s.lo) (.int .i64 p.s.hi) w1) (fun k hk h => by omega)
  refine hK _ _ hs (fun _ => ?_)
  clear hK K
  try simp only [Act.put, gD, gE, gF]
  refine wpAnyW_done (by kernel_rfl) ?_ _
  dsimp only [onNormal]
  exact HFIN.out _ _ _ _ _ _ _ q11 _ ⟨q11W, zz, hs⟩

theorem of_reg13 (q7 q9 q11 : Nat) (o : IStar) (p : ISpot) (st : Stp) (W : World) {z0 z1 z2 z3 z4 z5 z6 z8 z10 z12 z13 z14 z15 z16 z17 z18 z19 z20 z21 z22 z23 z24 z25 z26 z27 z28 z29 z30 z31 z32 z33 z34 z35 z36 z37 z38 z39 z40 z41 z42 z43 z44 z45 z46 z47 z48 z49 z50 z51 z52 z53 z54 z55 z56 z57 z58 z59 z60 z61 z62 z63 z64 z65 z66 z67 z68 z69 z70 z71 z72 z73 z74 z84 z85 z86 z87 z88 z89 z90 z91 z92 z93 z94 z95 z96 z97 z98 z99 z100 z101 z102 z103 z104 z105 z106 z107 z108 z109 z110 z111 z112 z113 z114 z115 z116 z117 z118 z119 z120 z121 z122 : Value} { z75 z76 z77 z78 z79 z80 z81 z82 z83 : Value} (h7 : W.heap[q7]? = some (.cells (irA o) 70)) (h11 : W.heap[q11]? = some (.cells #[.int .i64 p.x.lo, .int .i64 p.x.hi, .int .i64 p.y.lo, .int .i64 p.y.hi, .int .i64 p.s.lo, .int .i64 p.s.hi] 61)) (h9 : W.heap[q9]? = some (.cells #[.int .i64 st.x.lo, .int .i64 st.x.hi, .int .i64 st.y.lo, .int .i64 st.y.hi] 25)) (hp : p.x.small) (hd : st.x.small) (K : Act → World → Prop) (Q : Exit → Act → World → Prop)
    (hfin : ∀ (s75 s76 s77 s78 s79 s80 s81 s82 s83 : Value)  (w' : World), (w'.heap[q7]? = some (.cells (irA { o with x := (o.x.meet (p.x.less st.x)) }) 70) ∧ Steps (fun k => k = q7) W w') → K ⟨(z0::z1::z2::z3::z4::z5::z6::(.pointer (some ⟨q7, 0, none⟩))::z8::(.pointer (some ⟨q9, 0, none⟩))::z10::(.pointer (some ⟨q11, 0, none⟩))::z12::z13::z14::z15::z16::z17::z18::z19::z20::z21::z22::z23::z24::z25::z26::z27::z28::z29::z30::z31::z32::z33::z34::z35::z36::z37::z38::z39::z40::z41::z42::z43::z44::z45::z46::z47::z48::z49::z50::z51::z52::z53::z54::z55::z56::z57::z58::z59::z60::z61::z62::z63::z64::z65::z66::z67::z68::z69::z70::z71::z72::z73::z74::s75::s76::s77::s78::s79::s80::s81::s82::s83::z84::z85::z86::z87::z88::z89::z90::z91::z92::z93::z94::z95::z96::z97::z98::z99::z100::z101::z102::z103::z104::z105::z106::z107::z108::z109::z110::z111::z112::z113::z114::z115::z116::z117::z118::z119::z120::z121::z122 :: []).toArray, []⟩ w') :
    Code.wp Try.prog ((Try.f37.body.bind (findReg 13)).getD .skip) (Exit.then K Q) ⟨(z0::z1::z2::z3::z4::z5::z6::(.pointer (some ⟨q7, 0, none⟩))::z8::(.pointer (some ⟨q9, 0, none⟩))::z10::(.pointer (some ⟨q11, 0, none⟩))::z12::z13::z14::z15::z16::z17::z18::z19::z20::z21::z22::z23::z24::z25::z26::z27::z28::z29::z30::z31::z32::z33::z34::z35::z36::z37::z38::z39::z40::z41::z42::z43::z44::z45::z46::z47::z48::z49::z50::z51::z52::z53::z54::z55::z56::z57::z58::z59::z60::z61::z62::z63::z64::z65::z66::z67::z68::z69::z70::z71::z72::z73::z74::z75::z76::z77::z78::z79::z80::z81::z82::z83::z84::z85::z86::z87::z88::z89::z90::z91::z92::z93::z94::z95::z96::z97::z98::z99::z100::z101::z102::z103::z104::z105::z106::z107::z108::z109::z110::z111::z112::z113::z114::z115::z116::z117::z118::z119::z120::z121::z122 :: []).toArray, []⟩ W := by
  have HFIN := Lib.hid hfin
  have k0 : ∀ W', Steps (fun _ => False) W W' → W'.cell? ⟨q7, 0, none⟩ = some (.int .i64 o.x.lo) := fun W' h => icell_apart h (fun h => h) (cell_block h7 0)
  have k1 : ∀ W', Steps (fun _ => False) W W' → W'.cell? ⟨q7, 1, none⟩ = some (.int .i64 o.x.hi) := fun W' h => icell_apart h (fun h => h) (cell_block h7 1)
  have k2 : ∀ W', Steps (fun _ => False) W W' → W'.cell? ⟨q11, 0, none⟩ = some (.int .i64 p.x.lo) := fun W' h => icell_apart h (fun h => h) (cell_block h11 0)
  have k3 : ∀ W', Steps (fun _ => False) W W' → W'.cell? ⟨q11, 1, none⟩ = some (.int .i64 p.x.hi) := fun W' h => icell_apart h (fun h => h) (cell_block h11 1)
  have k4 : ∀ W', Steps (fun _ => False) W W' → W'.cell? ⟨q9, 0, none⟩ = some (.int .i64 st.x.lo) := fun W' h => icell_apart h (fun h => h) (cell_block h9 0)
  have k5 : ∀ W', Steps (fun _ => False) W W' → W'.cell? ⟨q9, 1, none⟩ = some (.int .i64 st.x.hi) := fun W' h => icell_apart h (fun h => h) (cell_block h9 1)
  clear hfin
  conv => arg 2; whnf
  refine (wpIn_wide (n := 0)).1 ?_
  refine wpIn_region_Vn (B := [9]) (S := fun W' => Steps (fun _ => False) W W') 10 (by kernel_rfl) (by kernel_rfl) (Steps.refl _ W).drew (fun H0 => ?_)
  generalize W.drew = w0 at H0 ⊢
  have hw0 : IntKind.i64.wrap 0 = 0 := by decide
  have hw1 : IntKind.i64.wrap 1 = 1 := by decide
  refine wpAnyV_takeD 0 75 (v := ?_) (by kernel_rfl) (by kernel_rfl) (by kernel_rfl) (by kernel_rfl) (fun _ _ _ h => h) (by kernel_rfl) ?_ (by assumption) ?_
  rotate_left
  · intro oi hoi w hSw; (try dsimp only at hSw); simp only [gA, gB, gC, gG] at hoi; subst hoi; go_simp; try with_reducible rfl
  simp only [Act.put, gD, gE, gF]
  refine wpAnyV_takeD 1 76 (v := ?_) (by kernel_rfl) (by kernel_rfl) (by kernel_rfl) (by kernel_rfl) (fun _ _ _ h => h) (by kernel_rfl) ?_ (by assumption) ?_
  rotate_left
  · intro oi hoi w hSw; (try dsimp only at hSw); simp only [gA, gB, gC, gG] at hoi; subst hoi; go_simp; try with_reducible rfl
  simp only [Act.put, gD, gE, gF]
  refine wpAnyV_takeD 2 77 (v := ?_) (by kernel_rfl) (by kernel_rfl) (by kernel_rfl) (by kernel_rfl) (fun _ _ _ h => h) (by kernel_rfl) ?_ (by assumption) ?_
  rotate_left
  · intro oi hoi w hSw; (try dsimp only at hSw); simp only [gA, gB, gC, gG] at hoi; subst hoi; go_simp; try with_reducible rfl
  simp only [Act.put, gD, gE, gF]
  refine wpAnyV_takeD 3 78 (v := ?_) (by kernel_rfl) (by kernel_rfl) (by kernel_rfl) (by kernel_rfl) (fun _ _ _ h => h) (by kernel_rfl) ?_ (by assumption) ?_
  rotate_left
  · intro oi hoi w hSw; (try dsimp only at hSw); simp only [gA, gB, gC, gG] at hoi; subst hoi; go_simp; try with_reducible rfl
  simp only [Act.put, gD, gE, gF]
  refine wpAnyV_takeD 4 79 (v := ?_) (by kernel_rfl) (by kernel_rfl) (by kernel_rfl) (by kernel_rfl) (fun _ _ _ h => h) (by kernel_rfl) ?_ (by assumption) ?_
  rotate_left
  · intro oi hoi w hSw; (try dsimp only at hSw); simp only [gA, gB, gC, gG] at hoi; subst hoi; go_simp; try with_reducible rfl
  simp only [Act.put, gD, gE, gF]
  refine wpAnyV_takeD 5 80 (v := ?_) (by kernel_rfl) (by kernel_rfl) (by kernel_rfl) (by kernel_rfl) (fun _ _ _ h => h) (by kernel_rfl) ?_ (by assumption) ?_
  rotate_left
  · intro oi hoi w hSw; (try dsimp only at hSw); simp only [gA, gB, gC, gG] at hoi; subst hoi; go_simp; try with_reducible rfl
  simp only [Act.put, gD, gE, gF]
  clear k0 k1 k2 k3 k4 k5
  refine wpAnyV_one 6 (by kernel_rfl) (by kernel_rfl) ?_
  intro o ho K hK
  simp only [gA, gB, gC, gG] at ho
  subst ho
  go_simp
  refine ⟨trivial, rfl, CallsIn.mono (callsIn_wide.2 (irless_any p.x st.x w0 hp hd)) ?_⟩
  rintro e w1 ⟨rfl, hb⟩
  have hst : Steps (fun _ => False) w0 w1 := ⟨hb.os, hb.tape, hb.output, hb.size, fun k hk _ => hb.block k hk⟩
  have H1 := H0.trans hst (fun _ _ h => h)
  refine hK _ _ (.inr H1) (fun _ => ?_)
  clear hK K hb hst
  try simp only [Act.put, gD, gE, gF]
  refine wpAnyV_one 7 (by kernel_rfl) (by kernel_rfl) ?_
  intro o ho K hK
  simp only [gA, gB, gC, gG] at ho
  subst ho
  go_simp
  refine ⟨trivial, rfl, CallsIn.mono (callsIn_wide.2 (ircommon_any o.x (p.x.less st.x) w1)) ?_⟩
  rintro e w2 ⟨rfl, hb⟩
  have hst : Steps (fun _ => False) w1 w2 := ⟨hb.os, hb.tape, hb.output, hb.size, fun k hk _ => hb.block k hk⟩
  have H2 := H1.trans hst (fun _ _ h => h)
  refine hK _ _ (.inr H2) (fun _ => ?_)
  clear hK K hb
  try simp only [Act.put, gD, gE, gF]
  have z7 := H2.obj (fun h => h) h7
  unfold irA at z7
  have k0 := cell_block z7 0
  have k1 := cell_block z7 1
  have f0 := frozen_block z7 0
  have f1 := frozen_block z7 1
  simp only [gA, gB, gC] at k0 k1
  refine wpAnyV_takeD 8 83 (v := ?_) (by kernel_rfl) (by kernel_rfl) (by kernel_rfl) (by kernel_rfl) (fun _ _ _ h => h) (by kernel_rfl) ?_ (by assumption) ?_
  rotate_left
  · intro oi hoi w hSw; (try dsimp only at hSw); simp only [gA, gB, gC, gG] at hoi; subst hoi; go_simp; try with_reducible rfl
  simp only [Act.put, gD, gE, gF]
  refine wpAnyV_one 9 (by kernel_rfl) (by kernel_rfl) ?_
  intro o ho K hK
  simp only [gA, gB, gC, gG] at ho
  subst ho
  go_simp
  have zz := block_set (block_set z7 0 (.int .i64 (o.x.meet (p.x.less st.x)).lo)) 1 (.int .i64 (o.x.meet (p.x.less st.x)).hi)
  simp only [gD, gE, gF] at zz
  have hs := (H2.mono (own' := fun k => k = q7) (fun _ _ h => h.elim)).trans ((Steps.setCell (own := fun k => k = q7) w2 (p := ⟨q7, 0, none⟩) rfl (.int .i64 (o.x.meet (p.x.less st.x)).lo)).trans (Steps.setCell (own := fun k => k = q7) _ (p := ⟨q7, 1, none⟩) rfl (.int .i64 (o.x.meet (p.x.less st.x)).hi)) (fun _ _ h => h)) (fun _ _ h => h)
  refine hK _ _ (.inl (by kernel_rfl)) (fun _ => ?_)
  clear hK K
  try simp only [Act.put, gD, gE, gF]
  refine wpAnyV_done (by kernel_rfl) ?_ _
  dsimp only [onNormal]
  exact HFIN.out _ _ _ _ _ _ _ _ _ _ ⟨zz, hs⟩

theorem of_reg14 (q7 q9 q11 : Nat) (o : IStar) (p : ISpot) (st : Stp) (W : World) {z0 z1 z2 z3 z4 z5 z6 z8 z10 z12 z13 z14 z15 z16 z17 z18 z19 z20 z21 z22 z23 z24 z25 z26 z27 z28 z29 z30 z31 z32 z33 z34 z35 z36 z37 z38 z39 z40 z41 z42 z43 z44 z45 z46 z47 z48 z49 z50 z51 z52 z53 z54 z55 z56 z57 z58 z59 z60 z61 z62 z63 z64 z65 z66 z67 z68 z69 z70 z71 z72 z73 z74 z75 z76 z77 z78 z79 z80 z81 z82 z83 z93 z94 z95 z96 z97 z98 z99 z100 z101 z102 z103 z104 z105 z106 z107 z108 z109 z110 z111 z112 z113 z114 z115 z116 z117 z118 z119 z120 z121 z122 : Value} { z84 z85 z86 z87 z88 z89 z90 z91 z92 : Value} (h7 : W.heap[q7]? = some (.cells (irA o) 70)) (h11 : W.heap[q11]? = some (.cells #[.int .i64 p.x.lo, .int .i64 p.x.hi, .int .i64 p.y.lo, .int .i64 p.y.hi, .int .i64 p.s.lo, .int .i64 p.s.hi] 61)) (h9 : W.heap[q9]? = some (.cells #[.int .i64 st.x.lo, .int .i64 st.x.hi, .int .i64 st.y.lo, .int .i64 st.y.hi] 25)) (hp : p.y.small) (hd : st.y.small) (K : Act → World → Prop) (Q : Exit → Act → World → Prop)
    (hfin : ∀ (s84 s85 s86 s87 s88 s89 s90 s91 s92 : Value)  (w' : World), (w'.heap[q7]? = some (.cells (irA { o with y := (o.y.meet (p.y.less st.y)) }) 70) ∧ Steps (fun k => k = q7) W w') → K ⟨(z0::z1::z2::z3::z4::z5::z6::(.pointer (some ⟨q7, 0, none⟩))::z8::(.pointer (some ⟨q9, 0, none⟩))::z10::(.pointer (some ⟨q11, 0, none⟩))::z12::z13::z14::z15::z16::z17::z18::z19::z20::z21::z22::z23::z24::z25::z26::z27::z28::z29::z30::z31::z32::z33::z34::z35::z36::z37::z38::z39::z40::z41::z42::z43::z44::z45::z46::z47::z48::z49::z50::z51::z52::z53::z54::z55::z56::z57::z58::z59::z60::z61::z62::z63::z64::z65::z66::z67::z68::z69::z70::z71::z72::z73::z74::z75::z76::z77::z78::z79::z80::z81::z82::z83::s84::s85::s86::s87::s88::s89::s90::s91::s92::z93::z94::z95::z96::z97::z98::z99::z100::z101::z102::z103::z104::z105::z106::z107::z108::z109::z110::z111::z112::z113::z114::z115::z116::z117::z118::z119::z120::z121::z122 :: []).toArray, []⟩ w') :
    Code.wp Try.prog ((Try.f37.body.bind (findReg 14)).getD .skip) (Exit.then K Q) ⟨(z0::z1::z2::z3::z4::z5::z6::(.pointer (some ⟨q7, 0, none⟩))::z8::(.pointer (some ⟨q9, 0, none⟩))::z10::(.pointer (some ⟨q11, 0, none⟩))::z12::z13::z14::z15::z16::z17::z18::z19::z20::z21::z22::z23::z24::z25::z26::z27::z28::z29::z30::z31::z32::z33::z34::z35::z36::z37::z38::z39::z40::z41::z42::z43::z44::z45::z46::z47::z48::z49::z50::z51::z52::z53::z54::z55::z56::z57::z58::z59::z60::z61::z62::z63::z64::z65::z66::z67::z68::z69::z70::z71::z72::z73::z74::z75::z76::z77::z78::z79::z80::z81::z82::z83::z84::z85::z86::z87::z88::z89::z90::z91::z92::z93::z94::z95::z96::z97::z98::z99::z100::z101::z102::z103::z104::z105::z106::z107::z108::z109::z110::z111::z112::z113::z114::z115::z116::z117::z118::z119::z120::z121::z122 :: []).toArray, []⟩ W := by
  have HFIN := Lib.hid hfin
  have k0 : ∀ W', Steps (fun _ => False) W W' → W'.cell? ⟨q7, 2, none⟩ = some (.int .i64 o.y.lo) := fun W' h => icell_apart h (fun h => h) (cell_block h7 2)
  have k1 : ∀ W', Steps (fun _ => False) W W' → W'.cell? ⟨q7, 3, none⟩ = some (.int .i64 o.y.hi) := fun W' h => icell_apart h (fun h => h) (cell_block h7 3)
  have k2 : ∀ W', Steps (fun _ => False) W W' → W'.cell? ⟨q11, 2, none⟩ = some (.int .i64 p.y.lo) := fun W' h => icell_apart h (fun h => h) (cell_block h11 2)
  have k3 : ∀ W', Steps (fun _ => False) W W' → W'.cell? ⟨q11, 3, none⟩ = some (.int .i64 p.y.hi) := fun W' h => icell_apart h (fun h => h) (cell_block h11 3)
  have k4 : ∀ W', Steps (fun _ => False) W W' → W'.cell? ⟨q9, 2, none⟩ = some (.int .i64 st.y.lo) := fun W' h => icell_apart h (fun h => h) (cell_block h9 2)
  have k5 : ∀ W', Steps (fun _ => False) W W' → W'.cell? ⟨q9, 3, none⟩ = some (.int .i64 st.y.hi) := fun W' h => icell_apart h (fun h => h) (cell_block h9 3)
  clear hfin
  conv => arg 2; whnf
  refine (wpIn_wide (n := 0)).1 ?_
  refine wpIn_region_Vn (B := [9]) (S := fun W' => Steps (fun _ => False) W W') 10 (by kernel_rfl) (by kernel_rfl) (Steps.refl _ W).drew (fun H0 => ?_)
  generalize W.drew = w0 at H0 ⊢
  have hw0 : IntKind.i64.wrap 0 = 0 := by decide
  have hw1 : IntKind.i64.wrap 1 = 1 := by decide
  refine wpAnyV_takeD 0 84 (v := ?_) (by kernel_rfl) (by kernel_rfl) (by kernel_rfl) (by kernel_rfl) (fun _ _ _ h => h) (by kernel_rfl) ?_ (by assumption) ?_
  rotate_left
  · intro oi hoi w hSw; (try dsimp only at hSw); simp only [gA, gB, gC, gG] at hoi; subst hoi; go_simp; try with_reducible rfl
  simp only [Act.put, gD, gE, gF]
  refine wpAnyV_takeD 1 85 (v := ?_) (by kernel_rfl) (by kernel_rfl) (by kernel_rfl) (by kernel_rfl) (fun _ _ _ h => h) (by kernel_rfl) ?_ (by assumption) ?_
  rotate_left
  · intro oi hoi w hSw; (try dsimp only at hSw); simp only [gA, gB, gC, gG] at hoi; subst hoi; go_simp; try with_reducible rfl
  simp only [Act.put, gD, gE, gF]
  refine wpAnyV_takeD 2 86 (v := ?_) (by kernel_rfl) (by kernel_rfl) (by kernel_rfl) (by kernel_rfl) (fun _ _ _ h => h) (by kernel_rfl) ?_ (by assumption) ?_
  rotate_left
  · intro oi hoi w hSw; (try dsimp only at hSw); simp only [gA, gB, gC, gG] at hoi; subst hoi; go_simp; try with_reducible rfl
  simp only [Act.put, gD, gE, gF]
  refine wpAnyV_takeD 3 87 (v := ?_) (by kernel_rfl) (by kernel_rfl) (by kernel_rfl) (by kernel_rfl) (fun _ _ _ h => h) (by kernel_rfl) ?_ (by assumption) ?_
  rotate_left
  · intro oi hoi w hSw; (try dsimp only at hSw); simp only [gA, gB, gC, gG] at hoi; subst hoi; go_simp; try with_reducible rfl
  simp only [Act.put, gD, gE, gF]
  refine wpAnyV_takeD 4 88 (v := ?_) (by kernel_rfl) (by kernel_rfl) (by kernel_rfl) (by kernel_rfl) (fun _ _ _ h => h) (by kernel_rfl) ?_ (by assumption) ?_
  rotate_left
  · intro oi hoi w hSw; (try dsimp only at hSw); simp only [gA, gB, gC, gG] at hoi; subst hoi; go_simp; try with_reducible rfl
  simp only [Act.put, gD, gE, gF]
  refine wpAnyV_takeD 5 89 (v := ?_) (by kernel_rfl) (by kernel_rfl) (by kernel_rfl) (by kernel_rfl) (fun _ _ _ h => h) (by kernel_rfl) ?_ (by assumption) ?_
  rotate_left
  · intro oi hoi w hSw; (try dsimp only at hSw); simp only [gA, gB, gC, gG] at hoi; subst hoi; go_simp; try with_reducible rfl
  simp only [Act.put, gD, gE, gF]
  clear k0 k1 k2 k3 k4 k5
  refine wpAnyV_one 6 (by kernel_rfl) (by kernel_rfl) ?_
  intro o ho K hK
  simp only [gA, gB, gC, gG] at ho
  subst ho
  go_simp
  refine ⟨trivial, rfl, CallsIn.mono (callsIn_wide.2 (irless_any p.y st.y w0 hp hd)) ?_⟩
  rintro e w1 ⟨rfl, hb⟩
  have hst : Steps (fun _ => False) w0 w1 := ⟨hb.os, hb.tape, hb.output, hb.size, fun k hk _ => hb.block k hk⟩
  have H1 := H0.trans hst (fun _ _ h => h)
  refine hK _ _ (.inr H1) (fun _ => ?_)
  clear hK K hb hst
  try simp only [Act.put, gD, gE, gF]
  refine wpAnyV_one 7 (by kernel_rfl) (by kernel_rfl) ?_
  intro o ho K hK
  simp only [gA, gB, gC, gG] at ho
  subst ho
  go_simp
  refine ⟨trivial, rfl, CallsIn.mono (callsIn_wide.2 (ircommon_any o.y (p.y.less st.y) w1)) ?_⟩
  rintro e w2 ⟨rfl, hb⟩
  have hst : Steps (fun _ => False) w1 w2 := ⟨hb.os, hb.tape, hb.output, hb.size, fun k hk _ => hb.block k hk⟩
  have H2 := H1.trans hst (fun _ _ h => h)
  refine hK _ _ (.inr H2) (fun _ => ?_)
  clear hK K hb
  try simp only [Act.put, gD, gE, gF]
  have z7 := H2.obj (fun h => h) h7
  unfold irA at z7
  have k0 := cell_block z7 2
  have k1 := cell_block z7 3
  have f0 := frozen_block z7 2
  have f1 := frozen_block z7 3
  simp only [gA, gB, gC] at k0 k1
  refine wpAnyV_takeD 8 92 (v := ?_) (by kernel_rfl) (by kernel_rfl) (by kernel_rfl) (by kernel_rfl) (fun _ _ _ h => h) (by kernel_rfl) ?_ (by assumption) ?_
  rotate_left
  · intro oi hoi w hSw; (try dsimp only at hSw); simp only [gA, gB, gC, gG] at hoi; subst hoi; go_simp; try with_reducible rfl
  simp only [Act.put, gD, gE, gF]
  refine wpAnyV_one 9 (by kernel_rfl) (by kernel_rfl) ?_
  intro o ho K hK
  simp only [gA, gB, gC, gG] at ho
  subst ho
  go_simp
  have zz := block_set (block_set z7 2 (.int .i64 (o.y.meet (p.y.less st.y)).lo)) 3 (.int .i64 (o.y.meet (p.y.less st.y)).hi)
  simp only [gD, gE, gF] at zz
  have hs := (H2.mono (own' := fun k => k = q7) (fun _ _ h => h.elim)).trans ((Steps.setCell (own := fun k => k = q7) w2 (p := ⟨q7, 2, none⟩) rfl (.int .i64 (o.y.meet (p.y.less st.y)).lo)).trans (Steps.setCell (own := fun k => k = q7) _ (p := ⟨q7, 3, none⟩) rfl (.int .i64 (o.y.meet (p.y.less st.y)).hi)) (fun _ _ h => h)) (fun _ _ h => h)
  refine hK _ _ (.inl (by kernel_rfl)) (fun _ => ?_)
  clear hK K
  try simp only [Act.put, gD, gE, gF]
  refine wpAnyV_done (by kernel_rfl) ?_ _
  dsimp only [onNormal]
  exact HFIN.out _ _ _ _ _ _ _ _ _ _ ⟨zz, hs⟩
end Go.Proofs.Ytacioedolmaofaa
