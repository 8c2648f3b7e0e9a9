/- Where: its small function; its region 16. Where: its region 1. -/
import Derived.Test.YtacioedolmaofaaLBA21
namespace Go.Proofs.Ytacioedolmaofaa
open Go.RowKit Go.Shelf
attribute [local go_sem] Oper.semAt_some
set_option maxHeartbeats 6400000
set_option maxRecDepth 100000
set_option linter.unusedSimpArgs false
set_option linter.unusedVariables false

/-- The cells of a star. -/
def stA (u : IStar) : Array Value := #[.int .i64 u.x.lo, .int .i64 u.x.hi, .int .i64 u.y.lo, .int .i64 u.y.hi, .int .i64 u.s.lo, .int .i64 u.s.hi]

theorem iWhere1_0 (q : Nat) (u : IStar) (w : World) (hq : w.heap[q]? = some (.cells (stA u) 84)) :
    Calls Try.prog 56 #[.int .i64 0, .pointer (some ⟨q, 0, none⟩)] w fun e w' => e = .returned (.agg #[.int .i64 u.x.lo, .int .i64 u.x.hi]) ∧ Below w.heap.size w w' := by
  unfold stA at hq
  go_enter Try.func56, Try.ntmps56
  go_upto_region 1 with fail
  have hb := below_alloc w (.cells #[.int .i64 0, .int .i64 0] 23)
  have hn := obj_new w (.cells #[.int .i64 0, .int .i64 0] 23)
  generalize w.alloc (.cells #[.int .i64 0, .int .i64 0] 23) = w1 at hb hn ⊢
  have hq1 := obj_later hb hq
  obtain ⟨z, hz⟩ : ∃ z, w.heap.size = z := ⟨_, rfl⟩
  rw [hz] at hn hb ⊢
  have a0 := cell_block hq1 0
  have a1 := cell_block hq1 1
  have n0 := cell_block hn 0
  have n1 := cell_block hn 1
  have f0 := frozen_block hn 0
  have f1 := frozen_block hn 1
  simp only [gA, gB, gC] at a0 a1 n0 n1
  have hw0 : IntKind.i64.wrap 0 = 0 := by decide
  go_region
  go_wp2_with fail
  have zz := two_same (.int .i64 u.x.lo) (.int .i64 u.x.hi) hn
  have hB := two_below (.int .i64 u.x.lo) (.int .i64 u.x.hi) hb (Nat.le_refl z)
  generalize (w1.setCell ⟨z, 0, none⟩ (.int .i64 u.x.lo)).setCell ⟨z, 1, none⟩ (.int .i64 u.x.hi) = WF at zz hB ⊢
  have m0 : WF.drew.cell? ⟨z, 0, none⟩ = some (.int .i64 u.x.lo) := cell_block zz 0
  have m1 : WF.drew.cell? ⟨z, 1, none⟩ = some (.int .i64 u.x.hi) := cell_block zz 1
  exact bodyPost_ret (v := .agg #[.int .i64 u.x.lo, .int .i64 u.x.hi]) (by simp [results, Try.results56, go_sem, m0, m1]) rfl ⟨rfl, by rw [hz]; exact hB.drew⟩

theorem iWhere1_1 (q : Nat) (u : IStar) (w : World) (hq : w.heap[q]? = some (.cells (stA u) 84)) :
    Calls Try.prog 56 #[.int .i64 1, .pointer (some ⟨q, 0, none⟩)] w fun e w' => e = .returned (.agg #[.int .i64 u.y.lo, .int .i64 u.y.hi]) ∧ Below w.heap.size w w' := by
  unfold stA at hq
  go_enter Try.func56, Try.ntmps56
  go_upto_region 1 with fail
  have hb := below_alloc w (.cells #[.int .i64 0, .int .i64 0] 23)
  have hn := obj_new w (.cells #[.int .i64 0, .int .i64 0] 23)
  generalize w.alloc (.cells #[.int .i64 0, .int .i64 0] 23) = w1 at hb hn ⊢
  have hq1 := obj_later hb hq
  obtain ⟨z, hz⟩ : ∃ z, w.heap.size = z := ⟨_, rfl⟩
  rw [hz] at hn hb ⊢
  have a0 := cell_block hq1 2
  have a1 := cell_block hq1 3
  have n0 := cell_block hn 0
  have n1 := cell_block hn 1
  have f0 := frozen_block hn 0
  have f1 := frozen_block hn 1
  simp only [gA, gB, gC] at a0 a1 n0 n1
  have hw0 : IntKind.i64.wrap 0 = 0 := by decide
  go_region
  go_wp2_with fail
  have zz := two_same (.int .i64 u.y.lo) (.int .i64 u.y.hi) hn
  have hB := two_below (.int .i64 u.y.lo) (.int .i64 u.y.hi) hb (Nat.le_refl z)
  generalize (w1.setCell ⟨z, 0, none⟩ (.int .i64 u.y.lo)).setCell ⟨z, 1, none⟩ (.int .i64 u.y.hi) = WF at zz hB ⊢
  have m0 : WF.drew.cell? ⟨z, 0, none⟩ = some (.int .i64 u.y.lo) := cell_block zz 0
  have m1 : WF.drew.cell? ⟨z, 1, none⟩ = some (.int .i64 u.y.hi) := cell_block zz 1
  exact bodyPost_ret (v := .agg #[.int .i64 u.y.lo, .int .i64 u.y.hi]) (by simp [results, Try.results56, go_sem, m0, m1]) rfl ⟨rfl, by rw [hz]; exact hB.drew⟩

theorem iWhere1_2 (q : Nat) (u : IStar) (w : World) (hq : w.heap[q]? = some (.cells (stA u) 84)) :
    Calls Try.prog 56 #[.int .i64 2, .pointer (some ⟨q, 0, none⟩)] w fun e w' => e = .returned (.agg #[.int .i64 u.s.lo, .int .i64 u.s.hi]) ∧ Below w.heap.size w w' := by
  unfold stA at hq
  go_enter Try.func56, Try.ntmps56
  go_upto_region 1 with fail
  have hb := below_alloc w (.cells #[.int .i64 0, .int .i64 0] 23)
  have hn := obj_new w (.cells #[.int .i64 0, .int .i64 0] 23)
  generalize w.alloc (.cells #[.int .i64 0, .int .i64 0] 23) = w1 at hb hn ⊢
  have hq1 := obj_later hb hq
  obtain ⟨z, hz⟩ : ∃ z, w.heap.size = z := ⟨_, rfl⟩
  rw [hz] at hn hb ⊢
  have a0 := cell_block hq1 4
  have a1 := cell_block hq1 5
  have n0 := cell_block hn 0
  have n1 := cell_block hn 1
  have f0 := frozen_block hn 0
  have f1 := frozen_block hn 1
  simp only [gA, gB, gC] at a0 a1 n0 n1
  have hw0 : IntKind.i64.wrap 0 = 0 := by decide
  go_region
  go_wp2_with fail
  have zz := two_same (.int .i64 u.s.lo) (.int .i64 u.s.hi) hn
  have hB := two_below (.int .i64 u.s.lo) (.int .i64 u.s.hi) hb (Nat.le_refl z)
  generalize (w1.setCell ⟨z, 0, none⟩ (.int .i64 u.s.lo)).setCell ⟨z, 1, none⟩ (.int .i64 u.s.hi) = WF at zz hB ⊢
  have m0 : WF.drew.cell? ⟨z, 0, none⟩ = some (.int .i64 u.s.lo) := cell_block zz 0
  have m1 : WF.drew.cell? ⟨z, 1, none⟩ = some (.int .i64 u.s.hi) := cell_block zz 1
  exact bodyPost_ret (v := .agg #[.int .i64 u.s.lo, .int .i64 u.s.hi]) (by simp [results, Try.results56, go_sem, m0, m1]) rfl ⟨rfl, by rw [hz]; exact hB.drew⟩

/-- The first k of a star joined with another one's. -/
def joinTo (u v : IStar) (k : Nat) : IStar := ⟨if 0 < k then u.x.join v.x else u.x, if 1 < k then u.y.join v.y else u.y, if 2 < k then u.s.join v.s else u.s⟩

theorem where_reg16_0 (q10 q15 : Nat) (u v : IStar) (W : World) {z0 z1 z2 z3 z4 z5 z6 z7 z8 z9 z11 z12 z13 z14 z16 z18 z19 z20 z21 z22 z23 z24 z25 z26 z27 z28 z29 z30 z31 z32 z33 z34 z35 z36 z37 z38 z39 z40 z41 z42 z43 z44 z45 z46 z47 z48 z49 z50 z51 z52 z53 z54 z55 z56 z57 z58 z59 z60 z61 z62 z63 z64 z65 z66 z67 z68 z69 z79 z80 z81 z82 z83 z84 z85 z86 z87 z88 z89 z90 z91 z92 : Value} {z70 z71 z72 z73 z74 z75 z76 z77 z78 : Value} (h10 : W.heap[q10]? = some (.cells (stA (joinTo u v 0)) 84)) (h15 : W.heap[q15]? = some (.cells (stA v) 84)) (K : Act → World → Prop) (Q : Exit → Act → World → Prop)
    (hfin : ∀ (s70 s71 s72 s73 s74 s75 s76 s77 s78 : Value) (w' : World), w'.heap[q10]? = some (.cells (stA (joinTo u v 1)) 84) → Steps (fun k => k = q10) W w' → K ⟨(z0::z1::z2::z3::z4::z5::z6::z7::z8::z9::(.pointer (some ⟨q10, 0, none⟩))::z11::z12::z13::z14::(.pointer (some ⟨q15, 0, none⟩))::z16::(.int .i64 0)::z18::z19::z20::z21::z22::z23::z24::z25::z26::z27::z28::z29::z30::z31::z32::z33::z34::z35::z36::z37::z38::z39::z40::z41::z42::z43::z44::z45::z46::z47::z48::z49::z50::z51::z52::z53::z54::z55::z56::z57::z58::z59::z60::z61::z62::z63::z64::z65::z66::z67::z68::z69::s70::s71::s72::s73::s74::s75::s76::s77::s78::z79::z80::z81::z82::z83::z84::z85::z86::z87::z88::z89::z90::z91::z92 :: []).toArray, []⟩ w') :
    Code.wp Try.prog ((Try.f25.body.bind (findReg 16)).getD .skip) (Exit.then K Q) ⟨(z0::z1::z2::z3::z4::z5::z6::z7::z8::z9::(.pointer (some ⟨q10, 0, none⟩))::z11::z12::z13::z14::(.pointer (some ⟨q15, 0, none⟩))::z16::(.int .i64 0)::z18::z19::z20::z21::z22::z23::z24::z25::z26::z27::z28::z29::z30::z31::z32::z33::z34::z35::z36::z37::z38::z39::z40::z41::z42::z43::z44::z45::z46::z47::z48::z49::z50::z51::z52::z53::z54::z55::z56::z57::z58::z59::z60::z61::z62::z63::z64::z65::z66::z67::z68::z69::z70::z71::z72::z73::z74::z75::z76::z77::z78::z79::z80::z81::z82::z83::z84::z85::z86::z87::z88::z89::z90::z91::z92 :: []).toArray, []⟩ W := by
  have HFIN := Lib.hid hfin
  have hu : joinTo u v 0 = ⟨(joinTo u v 0).x, (joinTo u v 0).y, (joinTo u v 0).s⟩ := rfl
  have e0 : (joinTo u v 0).x = u.x := by simp [joinTo]
  have hj : stA (joinTo u v 1) = ((stA (joinTo u v 0)).setIfInBounds 0 (.int .i64 (u.x.join v.x).lo)).setIfInBounds 1 (.int .i64 (u.x.join v.x).hi) := by simp [stA, joinTo]
  have c0 : W.cell? ⟨q10, 0, none⟩ = some (.int .i64 u.x.lo) := by rw [cell_block h10, ← e0]; rfl
  have c1 : W.cell? ⟨q10, 1, none⟩ = some (.int .i64 u.x.hi) := by rw [cell_block h10, ← e0]; rfl
  have d0 : W.cell? ⟨q15, 0, none⟩ = some (.int .i64 v.x.lo) := cell_block h15 0
  have d1 : W.cell? ⟨q15, 1, none⟩ = some (.int .i64 v.x.hi) := cell_block h15 1
  have k0 : ∀ W', Steps (fun _ => False) W W' → W'.cell? ⟨q10, 0, none⟩ = some (.int .i64 u.x.lo) := fun W' h => cell_apart h (fun h => h) c0
  have k1 : ∀ W', Steps (fun _ => False) W W' → W'.cell? ⟨q10, 1, none⟩ = some (.int .i64 u.x.hi) := fun W' h => cell_apart h (fun h => h) c1
  have j0 : ∀ W', Steps (fun _ => False) W W' → W'.cell? ⟨q15, 0, none⟩ = some (.int .i64 v.x.lo) := fun W' h => cell_apart h (fun h => h) d0
  have j1 : ∀ W', Steps (fun _ => False) W W' → W'.cell? ⟨q15, 1, none⟩ = some (.int .i64 v.x.hi) := fun W' h => cell_apart h (fun h => h) d1
  have HJ := Lib.hid hj
  clear hfin hj hu c0 c1 d0 d1 h15 e0
  conv => arg 2; whnf
  refine (wpIn_wide (n := 0)).1 ?_
  refine wpIn_region_Vn (B := [9]) (S := fun W' => Steps (fun _ => False) W W') 10 (by kernel_rfl) (by kernel_rfl) (Steps.refl _ W).drew (fun H0 => ?_)
  generalize W.drew = w0 at H0 ⊢
  refine wpAnyV_takeD 0 70 (v := ?_) (by kernel_rfl) (by kernel_rfl) (by kernel_rfl) (by kernel_rfl) (fun _ _ _ h => h) (by kernel_rfl) ?_ (by assumption) ?_
  rotate_left
  · intro oi hoi w hSw; (try dsimp only at hSw); simp only [gA, gB, gC, gG] at hoi; subst hoi; go_simp; try with_reducible rfl
  simp only [Act.put, gD, gE, gF]
  refine wpAnyV_takeD 1 71 (v := ?_) (by kernel_rfl) (by kernel_rfl) (by kernel_rfl) (by kernel_rfl) (fun _ _ _ h => h) (by kernel_rfl) ?_ (by assumption) ?_
  rotate_left
  · intro oi hoi w hSw; (try dsimp only at hSw); simp only [gA, gB, gC, gG] at hoi; subst hoi; go_simp; try with_reducible rfl
  simp only [Act.put, gD, gE, gF]
  refine wpAnyV_takeD 2 72 (v := ?_) (by kernel_rfl) (by kernel_rfl) (by kernel_rfl) (by kernel_rfl) (fun _ _ _ h => h) (by kernel_rfl) ?_ (by assumption) ?_
  rotate_left
  · intro oi hoi w hSw; (try dsimp only at hSw); simp only [gA, gB, gC, gG] at hoi; subst hoi; go_simp; try with_reducible rfl
  simp only [Act.put, gD, gE, gF]
  refine wpAnyV_takeD 3 73 (v := ?_) (by kernel_rfl) (by kernel_rfl) (by kernel_rfl) (by kernel_rfl) (fun _ _ _ h => h) (by kernel_rfl) ?_ (by assumption) ?_
  rotate_left
  · intro oi hoi w hSw; (try dsimp only at hSw); simp only [gA, gB, gC, gG] at hoi; subst hoi; go_simp; try with_reducible rfl
  simp only [Act.put, gD, gE, gF]
  refine wpAnyV_takeD 4 74 (v := ?_) (by kernel_rfl) (by kernel_rfl) (by kernel_rfl) (by kernel_rfl) (fun _ _ _ h => h) (by kernel_rfl) ?_ (by assumption) ?_
  rotate_left
  · intro oi hoi w hSw; (try dsimp only at hSw); simp only [gA, gB, gC, gG] at hoi; subst hoi; go_simp; try with_reducible rfl
  simp only [Act.put, gD, gE, gF]
  refine wpAnyV_takeD 5 75 (v := ?_) (by kernel_rfl) (by kernel_rfl) (by kernel_rfl) (by kernel_rfl) (fun _ _ _ h => h) (by kernel_rfl) ?_ (by assumption) ?_
  rotate_left
  · intro oi hoi w hSw; (try dsimp only at hSw); simp only [gA, gB, gC, gG] at hoi; subst hoi; go_simp; try with_reducible rfl
  simp only [Act.put, gD, gE, gF]
  refine wpAnyV_takeD 6 76 (v := ?_) (by kernel_rfl) (by kernel_rfl) (by kernel_rfl) (by kernel_rfl) (fun _ _ _ h => h) (by kernel_rfl) ?_ (by assumption) ?_
  rotate_left
  · intro oi hoi w hSw; (try dsimp only at hSw); simp only [gA, gB, gC, gG] at hoi; subst hoi; go_simp; try with_reducible rfl
  simp only [Act.put, gD, gE, gF]
  clear k0 k1 j0 j1
  refine wpAnyV_one 7 (by kernel_rfl) (by kernel_rfl) ?_
  intro o ho K hK
  simp only [gA, gB, gC, gG] at ho
  subst ho
  go_simp
  refine ⟨trivial, rfl, CallsIn.mono (callsIn_wide.2 (ijoin_any u.x v.x w0)) ?_⟩
  rintro e w1 ⟨rfl, hb⟩
  have H1 := H0.trans (own' := fun _ => False) ⟨hb.os, hb.tape, hb.output, hb.size, fun k hk _ => hb.block k hk⟩ (fun _ _ h => h)
  refine hK _ _ (.inr H1) (fun _ => ?_)
  clear hK K
  try simp only [Act.put, gD, gE, gF]
  have z10 := H1.obj (fun h => h) h10
  have f0 := frozen_block z10 0
  have f1 := frozen_block z10 1
  have x0 : ∃ b, w1.cell? ⟨q10, 0, none⟩ = some b := ⟨_, cell_block z10 0⟩
  have x1 : ∃ b, w1.cell? ⟨q10, 1, none⟩ = some b := ⟨_, cell_block z10 1⟩
  obtain ⟨b0, x0⟩ := x0
  obtain ⟨b1, x1⟩ := x1
  refine wpAnyV_takeD 8 78 (v := ?_) (by kernel_rfl) (by kernel_rfl) (by kernel_rfl) (by kernel_rfl) (fun _ _ _ h => h) (by kernel_rfl) ?_ (by assumption) ?_
  rotate_left
  · intro oi hoi w hSw; (try dsimp only at hSw); simp only [gA, gB, gC, gG] at hoi; subst hoi; go_simp; try with_reducible rfl
  simp only [Act.put, gD, gE, gF]
  refine wpAnyV_one 9 (by kernel_rfl) (by kernel_rfl) ?_
  intro o ho K hK
  simp only [gA, gB, gC, gG] at ho
  subst ho
  go_simp
  have zz := block_set (block_set z10 0 (.int .i64 (u.x.join v.x).lo)) 1 (.int .i64 (u.x.join v.x).hi)
  have hs := (H1.mono (own' := fun k => k = q10) (fun _ _ h => h.elim)).trans ((Steps.setCell (own := fun k => k = q10) w1 (p := ⟨q10, 0, none⟩) rfl (.int .i64 (u.x.join v.x).lo)).trans (Steps.setCell (own := fun k => k = q10) _ (p := ⟨q10, 1, none⟩) rfl (.int .i64 (u.x.join v.x).hi)) (fun _ _ h => h)) (fun _ _ h => h)
  refine hK _ _ (.inl (by kernel_rfl)) (fun _ => ?_)
  clear hK K
  try simp only [Act.put, gD, gE, gF]
  refine wpAnyV_done (by kernel_rfl) ?_ _
  dsimp only [onNormal]
  exact HFIN.out _ _ _ _ _ _ _ _ _ _ (by rw [HJ.out]; exact zz) hs

theorem where_reg16_1 (q10 q15 : Nat) (u v : IStar) (W : World) {z0 z1 z2 z3 z4 z5 z6 z7 z8 z9 z11 z12 z13 z14 z16 z18 z19 z20 z21 z22 z23 z24 z25 z26 z27 z28 z29 z30 z31 z32 z33 z34 z35 z36 z37 z38 z39 z40 z41 z42 z43 z44 z45 z46 z47 z48 z49 z50 z51 z52 z53 z54 z55 z56 z57 z58 z59 z60 z61 z62 z63 z64 z65 z66 z67 z68 z69 z79 z80 z81 z82 z83 z84 z85 z86 z87 z88 z89 z90 z91 z92 : Value} {z70 z71 z72 z73 z74 z75 z76 z77 z78 : Value} (h10 : W.heap[q10]? = some (.cells (stA (joinTo u v 1)) 84)) (h15 : W.heap[q15]? = some (.cells (stA v) 84)) (K : Act → World → Prop) (Q : Exit → Act → World → Prop)
    (hfin : ∀ (s70 s71 s72 s73 s74 s75 s76 s77 s78 : Value) (w' : World), w'.heap[q10]? = some (.cells (stA (joinTo u v 2)) 84) → Steps (fun k => k = q10) W w' → K ⟨(z0::z1::z2::z3::z4::z5::z6::z7::z8::z9::(.pointer (some ⟨q10, 0, none⟩))::z11::z12::z13::z14::(.pointer (some ⟨q15, 0, none⟩))::z16::(.int .i64 1)::z18::z19::z20::z21::z22::z23::z24::z25::z26::z27::z28::z29::z30::z31::z32::z33::z34::z35::z36::z37::z38::z39::z40::z41::z42::z43::z44::z45::z46::z47::z48::z49::z50::z51::z52::z53::z54::z55::z56::z57::z58::z59::z60::z61::z62::z63::z64::z65::z66::z67::z68::z69::s70::s71::s72::s73::s74::s75::s76::s77::s78::z79::z80::z81::z82::z83::z84::z85::z86::z87::z88::z89::z90::z91::z92 :: []).toArray, []⟩ w') :
    Code.wp Try.prog ((Try.f25.body.bind (findReg 16)).getD .skip) (Exit.then K Q) ⟨(z0::z1::z2::z3::z4::z5::z6::z7::z8::z9::(.pointer (some ⟨q10, 0, none⟩))::z11::z12::z13::z14::(.pointer (some ⟨q15, 0, none⟩))::z16::(.int .i64 1)::z18::z19::z20::z21::z22::z23::z24::z25::z26::z27::z28::z29::z30::z31::z32::z33::z34::z35::z36::z37::z38::z39::z40::z41::z42::z43::z44::z45::z46::z47::z48::z49::z50::z51::z52::z53::z54::z55::z56::z57::z58::z59::z60::z61::z62::z63::z64::z65::z66::z67::z68::z69::z70::z71::z72::z73::z74::z75::z76::z77::z78::z79::z80::z81::z82::z83::z84::z85::z86::z87::z88::z89::z90::z91::z92 :: []).toArray, []⟩ W := by
  have HFIN := Lib.hid hfin
  have hu : joinTo u v 1 = ⟨(joinTo u v 1).x, (joinTo u v 1).y, (joinTo u v 1).s⟩ := rfl
  have e1 : (joinTo u v 1).y = u.y := by simp [joinTo]
  have hj : stA (joinTo u v 2) = ((stA (joinTo u v 1)).setIfInBounds 2 (.int .i64 (u.y.join v.y).lo)).setIfInBounds 3 (.int .i64 (u.y.join v.y).hi) := by simp [stA, joinTo]
  have c0 : W.cell? ⟨q10, 2, none⟩ = some (.int .i64 u.y.lo) := by rw [cell_block h10, ← e1]; rfl
  have c1 : W.cell? ⟨q10, 3, none⟩ = some (.int .i64 u.y.hi) := by rw [cell_block h10, ← e1]; rfl
  have d0 : W.cell? ⟨q15, 2, none⟩ = some (.int .i64 v.y.lo) := cell_block h15 2
  have d1 : W.cell? ⟨q15, 3, none⟩ = some (.int .i64 v.y.hi) := cell_block h15 3
  have k0 : ∀ W', Steps (fun _ => False) W W' → W'.cell? ⟨q10, 2, none⟩ = some (.int .i64 u.y.lo) := fun W' h => cell_apart h (fun h => h) c0
  have k1 : ∀ W', Steps (fun _ => False) W W' → W'.cell? ⟨q10, 3, none⟩ = some (.int .i64 u.y.hi) := fun W' h => cell_apart h (fun h => h) c1
  have j0 : ∀ W', Steps (fun _ => False) W W' → W'.cell? ⟨q15, 2, none⟩ = some (.int .i64 v.y.lo) := fun W' h => cell_apart h (fun h => h) d0
  have j1 : ∀ W', Steps (fun _ => False) W W' → W'.cell? ⟨q15, 3, none⟩ = some (.int .i64 v.y.hi) := fun W' h => cell_apart h (fun h => h) d1
  have HJ := Lib.hid hj
  clear hfin hj hu c0 c1 d0 d1 h15 e1
  conv => arg 2; whnf
  refine (wpIn_wide (n := 0)).1 ?_
  refine wpIn_region_Vn (B := [9]) (S := fun W' => Steps (fun _ => False) W W') 10 (by kernel_rfl) (by kernel_rfl) (Steps.refl _ W).drew (fun H0 => ?_)
  generalize W.drew = w0 at H0 ⊢
  refine wpAnyV_takeD 0 70 (v := ?_) (by kernel_rfl) (by kernel_rfl) (by kernel_rfl) (by kernel_rfl) (fun _ _ _ h => h) (by kernel_rfl) ?_ (by assumption) ?_
  rotate_left
  · intro oi hoi w hSw; (try dsimp only at hSw); simp only [gA, gB, gC, gG] at hoi; subst hoi; go_simp; try with_reducible rfl
  simp only [Act.put, gD, gE, gF]
  refine wpAnyV_takeD 1 71 (v := ?_) (by kernel_rfl) (by kernel_rfl) (by kernel_rfl) (by kernel_rfl) (fun _ _ _ h => h) (by kernel_rfl) ?_ (by assumption) ?_
  rotate_left
  · intro oi hoi w hSw; (try dsimp only at hSw); simp only [gA, gB, gC, gG] at hoi; subst hoi; go_simp; try with_reducible rfl
  simp only [Act.put, gD, gE, gF]
  refine wpAnyV_takeD 2 72 (v := ?_) (by kernel_rfl) (by kernel_rfl) (by kernel_rfl) (by kernel_rfl) (fun _ _ _ h => h) (by kernel_rfl) ?_ (by assumption) ?_
  rotate_left
  · intro oi hoi w hSw; (try dsimp only at hSw); simp only [gA, gB, gC, gG] at hoi; subst hoi; go_simp; try with_reducible rfl
  simp only [Act.put, gD, gE, gF]
  refine wpAnyV_takeD 3 73 (v := ?_) (by kernel_rfl) (by kernel_rfl) (by kernel_rfl) (by kernel_rfl) (fun _ _ _ h => h) (by kernel_rfl) ?_ (by assumption) ?_
  rotate_left
  · intro oi hoi w hSw; (try dsimp only at hSw); simp only [gA, gB, gC, gG] at hoi; subst hoi; go_simp; try with_reducible rfl
  simp only [Act.put, gD, gE, gF]
  refine wpAnyV_takeD 4 74 (v := ?_) (by kernel_rfl) (by kernel_rfl) (by kernel_rfl) (by kernel_rfl) (fun _ _ _ h => h) (by kernel_rfl) ?_ (by assumption) ?_
  rotate_left
  · intro oi hoi w hSw; (try dsimp only at hSw); simp only [gA, gB, gC, gG] at hoi; subst hoi; go_simp; try with_reducible rfl
  simp only [Act.put, gD, gE, gF]
  refine wpAnyV_takeD 5 75 (v := ?_) (by kernel_rfl) (by kernel_rfl) (by kernel_rfl) (by kernel_rfl) (fun _ _ _ h => h) (by kernel_rfl) ?_ (by assumption) ?_
  rotate_left
  · intro oi hoi w hSw; (try dsimp only at hSw); simp only [gA, gB, gC, gG] at hoi; subst hoi; go_simp; try with_reducible rfl
  simp only [Act.put, gD, gE, gF]
  refine wpAnyV_takeD 6 76 (v := ?_) (by kernel_rfl) (by kernel_rfl) (by kernel_rfl) (by kernel_rfl) (fun _ _ _ h => h) (by kernel_rfl) ?_ (by assumption) ?_
  rotate_left
  · intro oi hoi w hSw; (try dsimp only at hSw); simp only [gA, gB, gC, gG] at hoi; subst hoi; go_simp; try with_reducible rfl
  simp only [Act.put, gD, gE, gF]
  clear k0 k1 j0 j1
  refine wpAnyV_one 7 (by kernel_rfl) (by kernel_rfl) ?_
  intro o ho K hK
  simp only [gA, gB, gC, gG] at ho
  subst ho
  go_simp
  refine ⟨trivial, rfl, CallsIn.mono (callsIn_wide.2 (ijoin_any u.y v.y w0)) ?_⟩
  rintro e w1 ⟨rfl, hb⟩
  have H1 := H0.trans (own' := fun _ => False) ⟨hb.os, hb.tape, hb.output, hb.size, fun k hk _ => hb.block k hk⟩ (fun _ _ h => h)
  refine hK _ _ (.inr H1) (fun _ => ?_)
  clear hK K
  try simp only [Act.put, gD, gE, gF]
  have z10 := H1.obj (fun h => h) h10
  have f0 := frozen_block z10 2
  have f1 := frozen_block z10 3
  have x0 : ∃ b, w1.cell? ⟨q10, 2, none⟩ = some b := ⟨_, cell_block z10 2⟩
  have x1 : ∃ b, w1.cell? ⟨q10, 3, none⟩ = some b := ⟨_, cell_block z10 3⟩
  obtain ⟨b0, x0⟩ := x0
  obtain ⟨b1, x1⟩ := x1
  refine wpAnyV_takeD 8 78 (v := ?_) (by kernel_rfl) (by kernel_rfl) (by kernel_rfl) (by kernel_rfl) (fun _ _ _ h => h) (by kernel_rfl) ?_ (by assumption) ?_
  rotate_left
  · intro oi hoi w hSw; (try dsimp only at hSw); simp only [gA, gB, gC, gG] at hoi; subst hoi; go_simp; try with_reducible rfl
  simp only [Act.put, gD, gE, gF]
  refine wpAnyV_one 9 (by kernel_rfl) (by kernel_rfl) ?_
  intro o ho K hK
  simp only [gA, gB, gC, gG] at ho
  subst ho
  go_simp
  have zz := block_set (block_set z10 2 (.int .i64 (u.y.join v.y).lo)) 3 (.int .i64 (u.y.join v.y).hi)
  have hs := (H1.mono (own' := fun k => k = q10) (fun _ _ h => h.elim)).trans ((Steps.setCell (own := fun k => k = q10) w1 (p := ⟨q10, 2, none⟩) rfl (.int .i64 (u.y.join v.y).lo)).trans (Steps.setCell (own := fun k => k = q10) _ (p := ⟨q10, 3, none⟩) rfl (.int .i64 (u.y.join v.y).hi)) (fun _ _ h => h)) (fun _ _ h => h)
  refine hK _ _ (.inl (by kernel_rfl)) (fun _ => ?_)
  clear hK K
  try simp only [Act.put, gD, gE, gF]
  refine wpAnyV_done (by kernel_rfl) ?_ _
  dsimp only [onNormal]
  exact HFIN.out _ _ _ _ _ _ _ _ _ _ (by rw [HJ.out]; exact zz) hs

theorem where_reg16_2 (q10 q15 : Nat) (u v : IStar) (W : World) {z0 z1 z2 z3 z4 z5 z6 z7 z8 z9 z11 z12 z13 z14 z16 z18 z19 z20 z21 z22 z23 z24 z25 z26 z27 z28 z29 z30 z31 z32 z33 z34 z35 z36 z37 z38 z39 z40 z41 z42 z43 z44 z45 z46 z47 z48 z49 z50 z51 z52 z53 z54 z55 z56 z57 z58 z59 z60 z61 z62 z63 z64 z65 z66 z67 z68 z69 z79 z80 z81 z82 z83 z84 z85 z86 z87 z88 z89 z90 z91 z92 : Value} {z70 z71 z72 z73 z74 z75 z76 z77 z78 : Value} (h10 : W.heap[q10]? = some (.cells (stA (joinTo u v 2)) 84)) (h15 : W.heap[q15]? = some (.cells (stA v) 84)) (K : Act → World → Prop) (Q : Exit → Act → World → Prop)
    (hfin : ∀ (s70 s71 s72 s73 s74 s75 s76 s77 s78 : Value) (w' : World), w'.heap[q10]? = some (.cells (stA (joinTo u v 3)) 84) → Steps (fun k => k = q10) W w' → K ⟨(z0::z1::z2::z3::z4::z5::z6::z7::z8::z9::(.pointer (some ⟨q10, 0, none⟩))::z11::z12::z13::z14::(.pointer (some ⟨q15, 0, none⟩))::z16::(.int .i64 2)::z18::z19::z20::z21::z22::z23::z24::z25::z26::z27::z28::z29::z30::z31::z32::z33::z34::z35::z36::z37::z38::z39::z40::z41::z42::z43::z44::z45::z46::z47::z48::z49::z50::z51::z52::z53::z54::z55::z56::z57::z58::z59::z60::z61::z62::z63::z64::z65::z66::z67::z68::z69::s70::s71::s72::s73::s74::s75::s76::s77::s78::z79::z80::z81::z82::z83::z84::z85::z86::z87::z88::z89::z90::z91::z92 :: []).toArray, []⟩ w') :
    Code.wp Try.prog ((Try.f25.body.bind (findReg 16)).getD .skip) (Exit.then K Q) ⟨(z0::z1::z2::z3::z4::z5::z6::z7::z8::z9::(.pointer (some ⟨q10, 0, none⟩))::z11::z12::z13::z14::(.pointer (some ⟨q15, 0, none⟩))::z16::(.int .i64 2)::z18::z19::z20::z21::z22::z23::z24::z25::z26::z27::z28::z29::z30::z31::z32::z33::z34::z35::z36::z37::z38::z39::z40::z41::z42::z43::z44::z45::z46::z47::z48::z49::z50::z51::z52::z53::z54::z55::z56::z57::z58::z59::z60::z61::z62::z63::z64::z65::z66::z67::z68::z69::z70::z71::z72::z73::z74::z75::z76::z77::z78::z79::z80::z81::z82::z83::z84::z85::z86::z87::z88::z89::z90::z91::z92 :: []).toArray, []⟩ W := by
  have HFIN := Lib.hid hfin
  have hu : joinTo u v 2 = ⟨(joinTo u v 2).x, (joinTo u v 2).y, (joinTo u v 2).s⟩ := rfl
  have e2 : (joinTo u v 2).s = u.s := by simp [joinTo]
  have hj : stA (joinTo u v 3) = ((stA (joinTo u v 2)).setIfInBounds 4 (.int .i64 (u.s.join v.s).lo)).setIfInBounds 5 (.int .i64 (u.s.join v.s).hi) := by simp [stA, joinTo]
  have c0 : W.cell? ⟨q10, 4, none⟩ = some (.int .i64 u.s.lo) := by rw [cell_block h10, ← e2]; rfl
  have c1 : W.cell? ⟨q10, 5, none⟩ = some (.int .i64 u.s.hi) := by rw [cell_block h10, ← e2]; rfl
  have d0 : W.cell? ⟨q15, 4, none⟩ = some (.int .i64 v.s.lo) := cell_block h15 4
  have d1 : W.cell? ⟨q15, 5, none⟩ = some (.int .i64 v.s.hi) := cell_block h15 5
  have k0 : ∀ W', Steps (fun _ => False) W W' → W'.cell? ⟨q10, 4, none⟩ = some (.int .i64 u.s.lo) := fun W' h => cell_apart h (fun h => h) c0
  have k1 : ∀ W', Steps (fun _ => False) W W' → W'.cell? ⟨q10, 5, none⟩ = some (.int .i64 u.s.hi) := fun W' h => cell_apart h (fun h => h) c1
  have j0 : ∀ W', Steps (fun _ => False) W W' → W'.cell? ⟨q15, 4, none⟩ = some (.int .i64 v.s.lo) := fun W' h => cell_apart h (fun h => h) d0
  have j1 : ∀ W', Steps (fun _ => False) W W' → W'.cell? ⟨q15, 5, none⟩ = some (.int .i64 v.s.hi) := fun W' h => cell_apart h (fun h => h) d1
  have HJ := Lib.hid hj
  clear hfin hj hu c0 c1 d0 d1 h15 e2
  conv => arg 2; whnf
  refine (wpIn_wide (n := 0)).1 ?_
  refine wpIn_region_Vn (B := [9]) (S := fun W' => Steps (fun _ => False) W W') 10 (by kernel_rfl) (by kernel_rfl) (Steps.refl _ W).drew (fun H0 => ?_)
  generalize W.drew = w0 at H0 ⊢
  refine wpAnyV_takeD 0 70 (v := ?_) (by kernel_rfl) (by kernel_rfl) (by kernel_rfl) (by kernel_rfl) (fun _ _ _ h => h) (by kernel_rfl) ?_ (by assumption) ?_
  rotate_left
  · intro oi hoi w hSw; (try dsimp only at hSw); simp only [gA, gB, gC, gG] at hoi; subst hoi; go_simp; try with_reducible rfl
  simp only [Act.put, gD, gE, gF]
  refine wpAnyV_takeD 1 71 (v := ?_) (by kernel_rfl) (by kernel_rfl) (by kernel_rfl) (by kernel_rfl) (fun _ _ _ h => h) (by kernel_rfl) ?_ (by assumption) ?_
  rotate_left
  · intro oi hoi w hSw; (try dsimp only at hSw); simp only [gA, gB, gC, gG] at hoi; subst hoi; go_simp; try with_reducible rfl
  simp only [Act.put, gD, gE, gF]
  refine wpAnyV_takeD 2 72 (v := ?_) (by kernel_rfl) (by kernel_rfl) (by kernel_rfl) (by kernel_rfl) (fun _ _ _ h => h) (by kernel_rfl) ?_ (by assumption) ?_
  rotate_left
  · intro oi hoi w hSw; (try dsimp only at hSw); simp only [gA, gB, gC, gG] at hoi; subst hoi; go_simp; try with_reducible rfl
  simp only [Act.put, gD, gE, gF]
  refine wpAnyV_takeD 3 73 (v := ?_) (by kernel_rfl) (by kernel_rfl) (by kernel_rfl) (by kernel_rfl) (fun _ _ _ h => h) (by kernel_rfl) ?_ (by assumption) ?_
  rotate_left
  · intro oi hoi w hSw; (try dsimp only at hSw); simp only [gA, gB, gC, gG] at hoi; subst hoi; go_simp; try with_reducible rfl
  simp only [Act.put, gD, gE, gF]
  refine wpAnyV_takeD 4 74 (v := ?_) (by kernel_rfl) (by kernel_rfl) (by kernel_rfl) (by kernel_rfl) (fun _ _ _ h => h) (by kernel_rfl) ?_ (by assumption) ?_
  rotate_left
  · intro oi hoi w hSw; (try dsimp only at hSw); simp only [gA, gB, gC, gG] at hoi; subst hoi; go_simp; try with_reducible rfl
  simp only [Act.put, gD, gE, gF]
  refine wpAnyV_takeD 5 75 (v := ?_) (by kernel_rfl) (by kernel_rfl) (by kernel_rfl) (by kernel_rfl) (fun _ _ _ h => h) (by kernel_rfl) ?_ (by assumption) ?_
  rotate_left
  · intro oi hoi w hSw; (try dsimp only at hSw); simp only [gA, gB, gC, gG] at hoi; subst hoi; go_simp; try with_reducible rfl
  simp only [Act.put, gD, gE, gF]
  refine wpAnyV_takeD 6 76 (v := ?_) (by kernel_rfl) (by kernel_rfl) (by kernel_rfl) (by kernel_rfl) (fun _ _ _ h => h) (by kernel_rfl) ?_ (by assumption) ?_
  rotate_left
  · intro oi hoi w hSw; (try dsimp only at hSw); simp only [gA, gB, gC, gG] at hoi; subst hoi; go_simp; try with_reducible rfl
  simp only [Act.put, gD, gE, gF]
  clear k0 k1 j0 j1
  refine wpAnyV_one 7 (by kernel_rfl) (by kernel_rfl) ?_
  intro o ho K hK
  simp only [gA, gB, gC, gG] at ho
  subst ho
  go_simp
  refine ⟨trivial, rfl, CallsIn.mono (callsIn_wide.2 (ijoin_any u.s v.s w0)) ?_⟩
  rintro e w1 ⟨rfl, hb⟩
  have H1 := H0.trans (own' := fun _ => False) ⟨hb.os, hb.tape, hb.output, hb.size, fun k hk _ => hb.block k hk⟩ (fun _ _ h => h)
  refine hK _ _ (.inr H1) (fun _ => ?_)
  clear hK K
  try simp only [Act.put, gD, gE, gF]
  have z10 := H1.obj (fun h => h) h10
  have f0 := frozen_block z10 4
  have f1 := frozen_block z10 5
  have x0 : ∃ b, w1.cell? ⟨q10, 4, none⟩ = some b := ⟨_, cell_block z10 4⟩
  have x1 : ∃ b, w1.cell? ⟨q10, 5, none⟩ = some b := ⟨_, cell_block z10 5⟩
  obtain ⟨b0, x0⟩ := x0
  obtain ⟨b1, x1⟩ := x1
  refine wpAnyV_takeD 8 78 (v := ?_) (by kernel_rfl) (by kernel_rfl) (by kernel_rfl) (by kernel_rfl) (fun _ _ _ h => h) (by kernel_rfl) ?_ (by assumption) ?_
  rotate_left
  · intro oi hoi w hSw; (try dsimp only at hSw); simp only [gA, gB, gC, gG] at hoi; subst hoi; go_simp; try with_reducible rfl
  simp only [Act.put, gD, gE, gF]
  refine wpAnyV_one 9 (by kernel_rfl) (by kernel_rfl) ?_
  intro o ho K hK
  simp only [gA, gB, gC, gG] at ho
  subst ho
  go_simp
  have zz := block_set (block_set z10 4 (.int .i64 (u.s.join v.s).lo)) 5 (.int .i64 (u.s.join v.s).hi)
  have hs := (H1.mono (own' := fun k => k = q10) (fun _ _ h => h.elim)).trans ((Steps.setCell (own := fun k => k = q10) w1 (p := ⟨q10, 4, none⟩) rfl (.int .i64 (u.s.join v.s).lo)).trans (Steps.setCell (own := fun k => k = q10) _ (p := ⟨q10, 5, none⟩) rfl (.int .i64 (u.s.join v.s).hi)) (fun _ _ h => h)) (fun _ _ h => h)
  refine hK _ _ (.inl (by kernel_rfl)) (fun _ => ?_)
  clear hK K
  try simp only [Act.put, gD, gE, gF]
  refine wpAnyV_done (by kernel_rfl) ?_ _
  dsimp only [onNormal]
  exact HFIN.out _ _ _ _ _ _ _ _ _ _ (by rw [HJ.out]; exact zz) hs
end Go.Proofs.Ytacioedolmaofaa
namespace Go.Proofs.Ytacioedolmaofaa
open Go.RowKit Go.Shelf
attribute [local go_sem] Oper.semAt_some
set_option maxHeartbeats 6400000
set_option maxRecDepth 100000
set_option linter.unusedSimpArgs false
set_option linter.unusedVariables false

theorem WaysRet.form {s : ISheet} {valid : Bool} {fa : Option Addr} {fc : Nat} {w : World} {e : Ending} {w' : World} (h : WaysRet s valid fa fc w e w') : ∃ v1 o0 o1 o2 o3 o4 o5, e = .returned (.tuple #[v1, .agg #[.int .i64 o0, .int .i64 o1, .int .i64 o2, .int .i64 o3, .int .u64 o4, .int .u64 o5], .int .i64 (wayErr s valid)]) ∧ Below w.heap.size w w' ∧ (wayErr s valid ≠ 0 ∨ (wayErr s valid = 0 ∧ s.ok = true ∧ ∃ p ta tc, v1 = .pointer (some ⟨p, 0, none⟩) ∧ w.heap.size ≤ p ∧ SheetAt w' p s fa fc ta tc s.trails)) := by
  obtain ⟨hb, h⟩ := h
  by_cases he : wayErr s valid = 0
  · rw [if_pos he] at h
    obtain ⟨hok, p, ta, tc, rfl, hp, hS⟩ := h
    exact ⟨_, _, _, _, _, _, _, by rw [he]; rfl, hb, .inr ⟨he, hok, p, ta, tc, rfl, hp, hS⟩⟩
  · rw [if_neg he] at h
    subst h
    exact ⟨_, _, _, _, _, _, _, rfl, hb, .inl he⟩

theorem where_reg1 (z : Nat) (s : ISheet) (fa : Option Addr) (fc : Nat) (spot : Int) (val : Bool) (W : World) {z0 z3 z4 z5 z6 z10 z11 z12 z13 z14 z15 z16 z17 z18 z31 z32 z33 z34 z35 z36 z37 z38 z39 z40 z41 z42 z43 z44 z45 z46 z47 z48 z49 z50 z51 z52 z53 z54 z55 z56 z57 z58 z59 z60 z61 z62 z63 z64 z65 z66 z67 z68 z69 z70 z71 z72 z73 z74 z75 z76 z77 z78 z79 z80 z81 z82 z83 z84 z85 z86 z87 z88 z89 z90 z91 z92 : Value} {z7 z8 z9 z19 z20 z21 z22 z23 z24 z25 z26 z27 z28 z29 z30 : Value} (hx : W.heap[z]? = some (.cells #[.int .i64 s.ax.lo, .int .i64 s.ax.hi, .int .i64 s.ay.lo, .int .i64 s.ay.hi, .int .i64 s.bx.lo, .int .i64 s.bx.hi, .int .i64 s.by'.lo, .int .i64 s.by'.hi, .int .i64 s.f.lo, .int .i64 s.f.hi, .int .i64 s.g.lo, .int .i64 s.g.hi, .int .i64 s.limit, .int .i64 s.flaws, .slice fa s.l.length fc] 30)) (him : ImSl W fa s.l) (hlen : s.l.length < 9223372036854775807) (hl9 : (s.l.length : Int) ≤ 9000000) (hval : (decide (0 ≤ spot) && decide (spot ≤ (s.l.length : Int) - 1)) = val) (K : Act → World → Prop) (Q : Exit → Act → World → Prop)
    (hfin : ∀ (s19 s20 s21 s22 s23 s24 s25 s26 s27 s28 s29 s30 v1 : Value) (q9 : Nat) (w' : World), Below W.heap.size W w' → (wayErr s val ≠ 0 ∨ (wayErr s val = 0 ∧ s.ok = true ∧ ∃ p ta tc, v1 = .pointer (some ⟨p, 0, none⟩) ∧ W.heap.size ≤ p ∧ SheetAt w' p s fa fc ta tc s.trails)) → K ⟨(z0::(.int .i64 spot)::(.pointer (some ⟨z, 0, none⟩))::z3::z4::z5::z6::(.int .i64 (wayErr s val))::v1::(.pointer (some ⟨q9, 0, none⟩))::z10::z11::z12::z13::z14::z15::z16::z17::z18::s19::s20::s21::s22::s23::s24::s25::s26::s27::s28::s29::s30::z31::z32::z33::z34::z35::z36::z37::z38::z39::z40::z41::z42::z43::z44::z45::z46::z47::z48::z49::z50::z51::z52::z53::z54::z55::z56::z57::z58::z59::z60::z61::z62::z63::z64::z65::z66::z67::z68::z69::z70::z71::z72::z73::z74::z75::z76::z77::z78::z79::z80::z81::z82::z83::z84::z85::z86::z87::z88::z89::z90::z91::z92 :: []).toArray, []⟩ w') :
    Code.wp Try.prog ((Try.f25.body.bind (findReg 1)).getD .skip) (Exit.then K Q) ⟨(z0::(.int .i64 spot)::(.pointer (some ⟨z, 0, none⟩))::z3::z4::z5::z6::z7::z8::z9::z10::z11::z12::z13::z14::z15::z16::z17::z18::z19::z20::z21::z22::z23::z24::z25::z26::z27::z28::z29::z30::z31::z32::z33::z34::z35::z36::z37::z38::z39::z40::z41::z42::z43::z44::z45::z46::z47::z48::z49::z50::z51::z52::z53::z54::z55::z56::z57::z58::z59::z60::z61::z62::z63::z64::z65::z66::z67::z68::z69::z70::z71::z72::z73::z74::z75::z76::z77::z78::z79::z80::z81::z82::z83::z84::z85::z86::z87::z88::z89::z90::z91::z92 :: []).toArray, []⟩ W := by
  have HFIN := Lib.hid hfin
  have HVAL := Lib.hid hval
  have HWR : Hid (IntKind.i64.wrap ((s.l.length : Int) - 1) = (s.l.length : Int) - 1) := Lib.hid (by rw [IntKind.wrap_i64]; omega)
  have k0 : ∀ W', Steps (fun _ => False) W W' → W'.cell? ⟨z, 0, none⟩ = some (.int .i64 s.ax.lo) := fun W' h => cell_apart h (fun h => h) (cell_block hx 0)
  have k1 : ∀ W', Steps (fun _ => False) W W' → W'.cell? ⟨z, 1, none⟩ = some (.int .i64 s.ax.hi) := fun W' h => cell_apart h (fun h => h) (cell_block hx 1)
  have k2 : ∀ W', Steps (fun _ => False) W W' → W'.cell? ⟨z, 2, none⟩ = some (.int .i64 s.ay.lo) := fun W' h => cell_apart h (fun h => h) (cell_block hx 2)
  have k3 : ∀ W', Steps (fun _ => False) W W' → W'.cell? ⟨z, 3, none⟩ = some (.int .i64 s.ay.hi) := fun W' h => cell_apart h (fun h => h) (cell_block hx 3)
  have k4 : ∀ W', Steps (fun _ => False) W W' → W'.cell? ⟨z, 4, none⟩ = some (.int .i64 s.bx.lo) := fun W' h => cell_apart h (fun h => h) (cell_block hx 4)
  have k5 : ∀ W', Steps (fun _ => False) W W' → W'.cell? ⟨z, 5, none⟩ = some (.int .i64 s.bx.hi) := fun W' h => cell_apart h (fun h => h) (cell_block hx 5)
  have k6 : ∀ W', Steps (fun _ => False) W W' → W'.cell? ⟨z, 6, none⟩ = some (.int .i64 s.by'.lo) := fun W' h => cell_apart h (fun h => h) (cell_block hx 6)
  have k7 : ∀ W', Steps (fun _ => False) W W' → W'.cell? ⟨z, 7, none⟩ = some (.int .i64 s.by'.hi) := fun W' h => cell_apart h (fun h => h) (cell_block hx 7)
  have k8 : ∀ W', Steps (fun _ => False) W W' → W'.cell? ⟨z, 8, none⟩ = some (.int .i64 s.f.lo) := fun W' h => cell_apart h (fun h => h) (cell_block hx 8)
  have k9 : ∀ W', Steps (fun _ => False) W W' → W'.cell? ⟨z, 9, none⟩ = some (.int .i64 s.f.hi) := fun W' h => cell_apart h (fun h => h) (cell_block hx 9)
  have k10 : ∀ W', Steps (fun _ => False) W W' → W'.cell? ⟨z, 10, none⟩ = some (.int .i64 s.g.lo) := fun W' h => cell_apart h (fun h => h) (cell_block hx 10)
  have k11 : ∀ W', Steps (fun _ => False) W W' → W'.cell? ⟨z, 11, none⟩ = some (.int .i64 s.g.hi) := fun W' h => cell_apart h (fun h => h) (cell_block hx 11)
  have k12 : ∀ W', Steps (fun _ => False) W W' → W'.cell? ⟨z, 12, none⟩ = some (.int .i64 s.limit) := fun W' h => cell_apart h (fun h => h) (cell_block hx 12)
  have k13 : ∀ W', Steps (fun _ => False) W W' → W'.cell? ⟨z, 13, none⟩ = some (.int .i64 s.flaws) := fun W' h => cell_apart h (fun h => h) (cell_block hx 13)
  have k14 : ∀ W', Steps (fun _ => False) W W' → W'.cell? ⟨z, 14, none⟩ = some (.slice fa s.l.length fc) := fun W' h => cell_apart h (fun h => h) (cell_block hx 14)
  clear hfin hval hx
  conv => arg 2; whnf
  refine (wpIn_wide (n := 0)).1 ?_
  refine wpIn_region_Wn (S := fun W' => Steps (fun _ => False) W W') 16 (by kernel_rfl) (by kernel_rfl) (Steps.refl _ W).drew (fun H0 => ?_)
  generalize W.drew = w0 at H0 ⊢
  refine wTk 0 20 ?_ ?_ ?_
  rotate_left
  · intro o h w k; (try dsimp only at k); simp only [gA, gB, gC, gG] at h; subst h; go_simp; try with_reducible rfl
  simp only [Act.put, gD, gE, gF]
  refine wTk 1 21 ?_ ?_ ?_
  rotate_left
  · intro o h w k; (try dsimp only at k); simp only [gA, gB, gC, gG] at h; subst h; go_simp; try with_reducible rfl
  simp only [Act.put, gD, gE, gF]
  refine wTk 2 22 ?_ ?_ ?_
  rotate_left
  · intro o h w k; (try dsimp only at k); simp only [gA, gB, gC, gG] at h; subst h; go_simp; try with_reducible rfl
  simp only [Act.put, gD, gE, gF]
  refine wTk 3 23 ?_ ?_ ?_
  rotate_left
  · intro o h w k; (try dsimp only at k); simp only [gA, gB, gC, gG] at h; subst h; go_simp; try with_reducible rfl
  simp only [Act.put, gD, gE, gF]
  refine wTk 4 24 ?_ ?_ ?_
  rotate_left
  · intro o h w k; (try dsimp only at k); simp only [gA, gB, gC, gG] at h; subst h; go_simp; try with_reducible rfl
  simp only [Act.put, gD, gE, gF]
  refine wTk 5 25 ?_ ?_ ?_
  rotate_left
  · intro o h w k; (try dsimp only at k); simp only [gA, gB, gC, gG] at h; subst h; go_simp; try with_reducible rfl
  simp only [Act.put, gD, gE, gF]
  clear k0 k1 k2 k3 k4 k5 k6 k7 k8 k9 k10 k11 k12 k13 k14
  refine wpAnyW_two 6 12 (by kernel_rfl) ⟨by kernel_rfl, by kernel_rfl⟩ ?_ ?_
  ·
    intro oo ho K hK
    simp only [gA, gB, gC, gG] at ho
    subst ho
    go_simp
    rw [HWR.out]
    refine ⟨trivial, rfl, CallsIn.mono (callsIn_wide.2 (iwithin_any spot 0 ((s.l.length : Int) - 1) w0)) ?_⟩
    rintro e w1 ⟨rfl, hww⟩
    rw [← hww]
    clear hww w1
    refine hK _ _ H0 (fun _ => ?_)
    clear hK K
    try simp only [Act.put, gD, gE, gF]
    refine wpAnyW_two 7 12 (by kernel_rfl) ⟨by kernel_rfl, by kernel_rfl⟩ ?_ ?_
    ·
      intro oo ho K hK
      simp only [gA, gB, gC, gG] at ho
      subst ho
      have him0 := him.below (H0.below (Nat.le_refl _) (fun _ _ h => h)) (Nat.le_refl _)
      go_simp
      rw [HVAL.out]
      refine ⟨trivial, rfl, CallsIn.mono (callsIn_wide.2 (iways_any s fa fc val w0 him0 hlen)) ?_⟩
      rintro e w1 hWR
      obtain ⟨v1, o0, o1, o2, o3, o4, o5, rfl, hbY, hWR⟩ := hWR.form
      have hst : Steps (fun _ => False) w0 w1 := ⟨hbY.os, hbY.tape, hbY.output, hbY.size, fun k hk _ => hbY.block k hk⟩
      have H1 := H0.trans hst (fun _ _ h => h)
      refine hK _ _ H1 (fun _ => ?_)
      clear hK K him0
      try simp only [Act.put, gD, gE, gF]
      refine wTk 8 19 ?_ ?_ ?_
      rotate_left
      · intro o h w k; (try dsimp only at k); simp only [gA, gB, gC, gG] at h; subst h; go_simp; try with_reducible rfl
      simp only [Act.put, gD, gE, gF]
      refine wTk 9 28 ?_ ?_ ?_
      rotate_left
      · intro o h w k; (try dsimp only at k); simp only [gA, gB, gC, gG] at h; subst h; go_simp; try with_reducible rfl
      simp only [Act.put, gD, gE, gF]
      refine wTk 10 29 ?_ ?_ ?_
      rotate_left
      · intro o h w k; (try dsimp only at k); simp only [gA, gB, gC, gG] at h; subst h; go_simp; try with_reducible rfl
      simp only [Act.put, gD, gE, gF]
      refine wTk 11 30 ?_ ?_ ?_
      rotate_left
      · intro o h w k; (try dsimp only at k); simp only [gA, gB, gC, gG] at h; subst h; go_simp; try with_reducible rfl
      simp only [Act.put, gD, gE, gF]
      have hBP := Lib.hid (show W.heap.size ≤ w0.heap.size from H0.size)
      clear hbY
      clear hst
      refine wpAnyW_one 12 (by kernel_rfl) (by kernel_rfl) ?_
      intro oo ho K hK
      simp only [gA, gB, gC, gG] at ho
      subst ho
      go_simp
      have hst := Steps.alloc (fun _ => False) w1 (.cells #[.int .i64 0, .int .i64 0, .int .i64 0, .int .i64 0, .int .u64 0, .int .u64 0] 90)
      have hbA := below_alloc w1 (.cells #[.int .i64 0, .int .i64 0, .int .i64 0, .int .i64 0, .int .u64 0, .int .u64 0] 90)
      have hnw := obj_new w1 (.cells #[.int .i64 0, .int .i64 0, .int .i64 0, .int .i64 0, .int .u64 0, .int .u64 0] 90)
      have H2 := H1.trans hst (fun _ _ h => h)
      refine hK _ _ H2 (fun _ => ?_)
      clear hK K
      try simp only [Act.put, gD, gE, gF]
      obtain ⟨q9, hq9⟩ : ∃ q, w1.heap.size = q := ⟨_, rfl⟩
      have hsz : q9 < (w1.alloc (.cells #[.int .i64 0, .int .i64 0, .int .i64 0, .int .i64 0, .int .u64 0, .int .u64 0] 90)).heap.size := by rw [← hq9]; simp
      generalize w1.alloc (.cells #[.int .i64 0, .int .i64 0, .int .i64 0, .int .i64 0, .int .u64 0, .int .u64 0] 90) = w2 at hst hbA hnw hsz H2 ⊢
      rw [hq9] at hnw
      try rw [hq9]
      have hqW : W.heap.size ≤ q9 := by have := H1.size; omega
      have G2 := hnw
      have hstA := hst
      have hqY := hq9
      have hBY : Below W.heap.size W w1 := H1.below (Nat.le_refl _) (fun _ _ h => h)
      clear hst hbA hnw
      have fz := fun k => frozen_block G2 k
      have f0 := fz 0
      have f1 := fz 1
      have f2 := fz 2
      have f3 := fz 3
      have f4 := fz 4
      have f5 := fz 5
      have cz := fun k => cell_block G2 k
      have c0 := cz 0
      have c1 := cz 1
      have c2 := cz 2
      have c3 := cz 3
      have c4 := cz 4
      have c5 := cz 5
      clear fz cz
      simp only [gA, gB, gC] at c0 c1 c2 c3 c4 c5
      refine wTk 13 8 ?_ ?_ ?_
      rotate_left
      · intro o h w k; (try dsimp only at k); simp only [gA, gB, gC, gG] at h; subst h; go_simp; try with_reducible rfl
      simp only [Act.put, gD, gE, gF]
      refine wpAnyW_one 14 (by kernel_rfl) (by kernel_rfl) ?_
      intro o ho K hK
      simp only [gA, gB, gC, gG] at ho
      subst ho
      go_simp
      have hput := six_steps q9 (.int .i64 o0) (.int .i64 o1) (.int .i64 o2) (.int .i64 o3) (.int .u64 o4) (.int .u64 o5) w2
      generalize (((((w2.setCell ⟨q9, 0, none⟩ (.int .i64 o0)).setCell ⟨q9, 1, none⟩ (.int .i64 o1)).setCell ⟨q9, 2, none⟩ (.int .i64 o2)).setCell ⟨q9, 3, none⟩ (.int .i64 o3)).setCell ⟨q9, 4, none⟩ (.int .u64 o4)).setCell ⟨q9, 5, none⟩ (.int .u64 o5) = wF at hput hK ⊢
      have HF := H2.trans hput (fun k hk h => by omega)
      have hBF : Below W.heap.size W wF := HF.below (Nat.le_refl _) (fun _ _ h => h)
      refine hK _ _ HF (fun _ => ?_)
      clear hK K
      try simp only [Act.put, gD, gE, gF]
      refine wTk 15 7 ?_ ?_ ?_
      rotate_left
      · intro o h w k; (try dsimp only at k); simp only [gA, gB, gC, gG] at h; subst h; go_simp; try with_reducible rfl
      simp only [Act.put, gD, gE, gF]
      refine wpAnyW_done (by kernel_rfl) ?_ _
      dsimp only [onNormal]
      refine HFIN.out _ _ _ _ _ _ _ _ _ _ _ _ _ q9 wF hBF ?_
      rcases hWR with he | ⟨he, hok, p, ta, tc, hv, hp, hS⟩
      · exact .inl he
      · exact .inr ⟨he, hok, p, ta, tc, hv, by have := hBP.out; omega, hS.later (((hstA.mono (own' := fun k => k = q9) (fun _ _ h => h.elim)).trans hput (fun _ _ h => h)).below (Nat.le_refl _) (fun k hk h => by omega))⟩
    ·
      intro oo ho K hK
      simp only [gA, gB, gC, gG] at ho
      subst ho
      go_simp
      have hst := Steps.alloc (fun _ => False) w0 (.cells #[.int .i64 0, .int .i64 0, .int .i64 0, .int .i64 0, .int .u64 0, .int .u64 0] 90)
      have hbA := below_alloc w0 (.cells #[.int .i64 0, .int .i64 0, .int .i64 0, .int .i64 0, .int .u64 0, .int .u64 0] 90)
      have hnw := obj_new w0 (.cells #[.int .i64 0, .int .i64 0, .int .i64 0, .int .i64 0, .int .u64 0, .int .u64 0] 90)
      have H1 := H0.trans hst (fun _ _ h => h)
      refine hK _ _ H1 (fun _ => ?_)
      clear hK K
      try simp only [Act.put, gD, gE, gF]
      obtain ⟨q9, hq9⟩ : ∃ q, w0.heap.size = q := ⟨_, rfl⟩
      have hsz : q9 < (w0.alloc (.cells #[.int .i64 0, .int .i64 0, .int .i64 0, .int .i64 0, .int .u64 0, .int .u64 0] 90)).heap.size := by rw [← hq9]; simp
      generalize w0.alloc (.cells #[.int .i64 0, .int .i64 0, .int .i64 0, .int .i64 0, .int .u64 0, .int .u64 0] 90) = w1 at hst hbA hnw hsz H1 ⊢
      rw [hq9] at hnw
      try rw [hq9]
      have hqW : W.heap.size ≤ q9 := by have := H0.size; omega
      have G1 := hnw
      clear hst hbA hnw
      refine wpAnyW_one 7 (by kernel_rfl) (by kernel_rfl) ?_
      intro oo ho K hK
      simp only [gA, gB, gC, gG] at ho
      subst ho
      have him1 := him.below (H1.below (Nat.le_refl _) (fun _ _ h => h)) (Nat.le_refl _)
      go_simp
      rw [HVAL.out]
      refine ⟨trivial, rfl, CallsIn.mono (callsIn_wide.2 (iways_any s fa fc val w1 him1 hlen)) ?_⟩
      rintro e w2 hWR
      obtain ⟨v1, o0, o1, o2, o3, o4, o5, rfl, hbY, hWR⟩ := hWR.form
      have hst : Steps (fun _ => False) w1 w2 := ⟨hbY.os, hbY.tape, hbY.output, hbY.size, fun k hk _ => hbY.block k hk⟩
      have H2 := H1.trans hst (fun _ _ h => h)
      refine hK _ _ H2 (fun _ => ?_)
      clear hK K him1
      try simp only [Act.put, gD, gE, gF]
      refine wTk 8 19 ?_ ?_ ?_
      rotate_left
      · intro o h w k; (try dsimp only at k); simp only [gA, gB, gC, gG] at h; subst h; go_simp; try with_reducible rfl
      simp only [Act.put, gD, gE, gF]
      refine wTk 9 28 ?_ ?_ ?_
      rotate_left
      · intro o h w k; (try dsimp only at k); simp only [gA, gB, gC, gG] at h; subst h; go_simp; try with_reducible rfl
      simp only [Act.put, gD, gE, gF]
      refine wTk 10 29 ?_ ?_ ?_
      rotate_left
      · intro o h w k; (try dsimp only at k); simp only [gA, gB, gC, gG] at h; subst h; go_simp; try with_reducible rfl
      simp only [Act.put, gD, gE, gF]
      refine wTk 11 30 ?_ ?_ ?_
      rotate_left
      · intro o h w k; (try dsimp only at k); simp only [gA, gB, gC, gG] at h; subst h; go_simp; try with_reducible rfl
      simp only [Act.put, gD, gE, gF]
      have hBP := Lib.hid (show W.heap.size ≤ w1.heap.size from H1.size)
      clear hbY
      have G2 := hst.obj (fun h => h) G1
      have hqi : q9 < w1.heap.size := hsz
      clear hst
      have fz := fun k => frozen_block G2 k
      have f0 := fz 0
      have f1 := fz 1
      have f2 := fz 2
      have f3 := fz 3
      have f4 := fz 4
      have f5 := fz 5
      have cz := fun k => cell_block G2 k
      have c0 := cz 0
      have c1 := cz 1
      have c2 := cz 2
      have c3 := cz 3
      have c4 := cz 4
      have c5 := cz 5
      clear fz cz
      simp only [gA, gB, gC] at c0 c1 c2 c3 c4 c5
      refine wTk 13 8 ?_ ?_ ?_
      rotate_left
      · intro o h w k; (try dsimp only at k); simp only [gA, gB, gC, gG] at h; subst h; go_simp; try with_reducible rfl
      simp only [Act.put, gD, gE, gF]
      refine wpAnyW_one 14 (by kernel_rfl) (by kernel_rfl) ?_
      intro o ho K hK
      simp only [gA, gB, gC, gG] at ho
      subst ho
      go_simp
      have hput := six_steps q9 (.int .i64 o0) (.int .i64 o1) (.int .i64 o2) (.int .i64 o3) (.int .u64 o4) (.int .u64 o5) w2
      generalize (((((w2.setCell ⟨q9, 0, none⟩ (.int .i64 o0)).setCell ⟨q9, 1, none⟩ (.int .i64 o1)).setCell ⟨q9, 2, none⟩ (.int .i64 o2)).setCell ⟨q9, 3, none⟩ (.int .i64 o3)).setCell ⟨q9, 4, none⟩ (.int .u64 o4)).setCell ⟨q9, 5, none⟩ (.int .u64 o5) = wF at hput hK ⊢
      have HF := H2.trans hput (fun k hk h => by omega)
      have hBF : Below W.heap.size W wF := HF.below (Nat.le_refl _) (fun _ _ h => h)
      refine hK _ _ HF (fun _ => ?_)
      clear hK K
      try simp only [Act.put, gD, gE, gF]
      refine wTk 15 7 ?_ ?_ ?_
      rotate_left
      · intro o h w k; (try dsimp only at k); simp only [gA, gB, gC, gG] at h; subst h; go_simp; try with_reducible rfl
      simp only [Act.put, gD, gE, gF]
      refine wpAnyW_done (by kernel_rfl) ?_ _
      dsimp only [onNormal]
      refine HFIN.out _ _ _ _ _ _ _ _ _ _ _ _ _ q9 wF hBF ?_
      rcases hWR with he | ⟨he, hok, p, ta, tc, hv, hp, hS⟩
      · exact .inl he
      · exact .inr ⟨he, hok, p, ta, tc, hv, by omega, hS.steps hput (fun k h => by omega) (him.below hBF (Nat.le_refl _))⟩
  ·
    intro oo ho K hK
    simp only [gA, gB, gC, gG] at ho
    subst ho
    go_simp
    have hst := Steps.alloc (fun _ => False) w0 (.cells #[.int .i64 0, .int .i64 0, .int .i64 0, .int .i64 0, .int .u64 0, .int .u64 0] 90)
    have hbA := below_alloc w0 (.cells #[.int .i64 0, .int .i64 0, .int .i64 0, .int .i64 0, .int .u64 0, .int .u64 0] 90)
    have hnw := obj_new w0 (.cells #[.int .i64 0, .int .i64 0, .int .i64 0, .int .i64 0, .int .u64 0, .int .u64 0] 90)
    have H1 := H0.trans hst (fun _ _ h => h)
    refine hK _ _ H1 (fun _ => ?_)
    clear hK K
    try simp only [Act.put, gD, gE, gF]
    obtain ⟨q9, hq9⟩ : ∃ q, w0.heap.size = q := ⟨_, rfl⟩
    have hsz : q9 < (w0.alloc (.cells #[.int .i64 0, .int .i64 0, .int .i64 0, .int .i64 0, .int .u64 0, .int .u64 0] 90)).heap.size := by rw [← hq9]; simp
    generalize w0.alloc (.cells #[.int .i64 0, .int .i64 0, .int .i64 0, .int .i64 0, .int .u64 0, .int .u64 0] 90) = w1 at hst hbA hnw hsz H1 ⊢
    rw [hq9] at hnw
    try rw [hq9]
    have hqW : W.heap.size ≤ q9 := by have := H0.size; omega
    have G1 := hnw
    clear hst hbA hnw
    refine wpAnyW_one 6 (by kernel_rfl) (by kernel_rfl) ?_
    intro oo ho K hK
    simp only [gA, gB, gC, gG] at ho
    subst ho
    go_simp
    rw [HWR.out]
    refine ⟨trivial, rfl, CallsIn.mono (callsIn_wide.2 (iwithin_any spot 0 ((s.l.length : Int) - 1) w1)) ?_⟩
    rintro e w2 ⟨rfl, hww⟩
    rw [← hww]
    clear hww w2
    refine hK _ _ H1 (fun _ => ?_)
    clear hK K
    try simp only [Act.put, gD, gE, gF]
    refine wpAnyW_one 7 (by kernel_rfl) (by kernel_rfl) ?_
    intro oo ho K hK
    simp only [gA, gB, gC, gG] at ho
    subst ho
    have him1 := him.below (H1.below (Nat.le_refl _) (fun _ _ h => h)) (Nat.le_refl _)
    go_simp
    rw [HVAL.out]
    refine ⟨trivial, rfl, CallsIn.mono (callsIn_wide.2 (iways_any s fa fc val w1 him1 hlen)) ?_⟩
    rintro e w2 hWR
    obtain ⟨v1, o0, o1, o2, o3, o4, o5, rfl, hbY, hWR⟩ := hWR.form
    have hst : Steps (fun _ => False) w1 w2 := ⟨hbY.os, hbY.tape, hbY.output, hbY.size, fun k hk _ => hbY.block k hk⟩
    have H2 := H1.trans hst (fun _ _ h => h)
    refine hK _ _ H2 (fun _ => ?_)
    clear hK K him1
    try simp only [Act.put, gD, gE, gF]
    refine wTk 8 19 ?_ ?_ ?_
    rotate_left
    · intro o h w k; (try dsimp only at k); simp only [gA, gB, gC, gG] at h; subst h; go_simp; try with_reducible rfl
    simp only [Act.put, gD, gE, gF]
    refine wTk 9 28 ?_ ?_ ?_
    rotate_left
    · intro o h w k; (try dsimp only at k); simp only [gA, gB, gC, gG] at h; subst h; go_simp; try with_reducible rfl
    simp only [Act.put, gD, gE, gF]
    refine wTk 10 29 ?_ ?_ ?_
    rotate_left
    · intro o h w k; (try dsimp only at k); simp only [gA, gB, gC, gG] at h; subst h; go_simp; try with_reducible rfl
    simp only [Act.put, gD, gE, gF]
    refine wTk 11 30 ?_ ?_ ?_
    rotate_left
    · intro o h w k; (try dsimp only at k); simp only [gA, gB, gC, gG] at h; subst h; go_simp; try with_reducible rfl
    simp only [Act.put, gD, gE, gF]
    have hBP := Lib.hid (show W.heap.size ≤ w1.heap.size from H1.size)
    clear hbY
    have G2 := hst.obj (fun h => h) G1
    have hqi : q9 < w1.heap.size := hsz
    clear hst
    have fz := fun k => frozen_block G2 k
    have f0 := fz 0
    have f1 := fz 1
    have f2 := fz 2
    have f3 := fz 3
    have f4 := fz 4
    have f5 := fz 5
    have cz := fun k => cell_block G2 k
    have c0 := cz 0
    have c1 := cz 1
    have c2 := cz 2
    have c3 := cz 3
    have c4 := cz 4
    have c5 := cz 5
    clear fz cz
    simp only [gA, gB, gC] at c0 c1 c2 c3 c4 c5
    refine wTk 13 8 ?_ ?_ ?_
    rotate_left
    · intro o h w k; (try dsimp only at k); simp only [gA, gB, gC, gG] at h; subst h; go_simp; try with_reducible rfl
    simp only [Act.put, gD, gE, gF]
    refine wpAnyW_one 14 (by kernel_rfl) (by kernel_rfl) ?_
    intro o ho K hK
    simp only [gA, gB, gC, gG] at ho
    subst ho
    go_simp
    have hput := six_steps q9 (.int .i64 o0) (.int .i64 o1) (.int .i64 o2) (.int .i64 o3) (.int .u64 o4) (.int .u64 o5) w2
    generalize (((((w2.setCell ⟨q9, 0, none⟩ (.int .i64 o0)).setCell ⟨q9, 1, none⟩ (.int .i64 o1)).setCell ⟨q9, 2, none⟩ (.int .i64 o2)).setCell ⟨q9, 3, none⟩ (.int .i64 o3)).setCell ⟨q9, 4, none⟩ (.int .u64 o4)).setCell ⟨q9, 5, none⟩ (.int .u64 o5) = wF at hput hK ⊢
    have HF := H2.trans hput (fun k hk h => by omega)
    have hBF : Below W.heap.size W wF := HF.below (Nat.le_refl _) (fun _ _ h => h)
    refine hK _ _ HF (fun _ => ?_)
    clear hK K
    try simp only [Act.put, gD, gE, gF]
    refine wTk 15 7 ?_ ?_ ?_
    rotate_left
    · intro o h w k; (try dsimp only at k); simp only [gA, gB, gC, gG] at h; subst h; go_simp; try with_reducible rfl
    simp only [Act.put, gD, gE, gF]
    refine wpAnyW_done (by kernel_rfl) ?_ _
    dsimp only [onNormal]
    refine HFIN.out _ _ _ _ _ _ _ _ _ _ _ _ _ q9 wF hBF ?_
    rcases hWR with he | ⟨he, hok, p, ta, tc, hv, hp, hS⟩
    · exact .inl he
    · exact .inr ⟨he, hok, p, ta, tc, hv, by omega, hS.steps hput (fun k h => by omega) (him.below hBF (Nat.le_refl _))⟩
end Go.Proofs.Ytacioedolmaofaa
