/- Regions of star: an exposure more. -/
import Derived.Test.YtacioedolmaofaaLBA10
namespace Go.Proofs.Ytacioedolmaofaa
open Go.RowKit Go.Shelf
set_option maxHeartbeats 6400000
set_option maxRecDepth 100000
set_option linter.unusedSimpArgs false
set_option linter.unusedVariables false

theorem star_reg9_0_1 (p pt q q8 g fc kb : Nat) (fa : Option Addr) (s : ISheet) (a c : Int) (A : Sp) (wA : World) {z1 z2 z4 z5 z6 z10 z11 z12 z13 z14 z15 z16 z17 z18 z19 z20 z21 z22 z23 z24 z25 z26 z27 z28 z29 z30 z31 z32 z33 z34 z35 z36 z37 z38 z39 z40 z62 z63 z64 z65 z66 z67 z68 z69 z70 z71 z72 z73 z74 z75 z76 z77 z78 z79 z80 z81 z82 z83 z84 z85 z86 z87 z88 z89 z90 z91 z92 z93 z94 z95 z96 z97 z98 z99 z100 z101 z102 z103 z104 z105 z106 z107 z108 z109 z110 z111 z112 z113 z114 z115 z116 z117 z118 z119 z120 z121 z122 z123 z124 z125 z126 z127 z128 : Value} {z41 z42 z43 z44 z45 z46 z47 z48 z49 z50 z51 z52 z53 z54 z55 z56 z57 z58 z59 z60 z61 : Value} (hs : ShAt wA p s fa fc) (hl : ImSl wA fa s.l) (hk : kb < s.l.length)
    (hx : (s.l[kb].x).small) (hd : s.ax.small) (hlim : -4000000 ≤ s.limit ∧ s.limit ≤ 4000000) (hg : wA.cell? ⟨g, 0, none⟩ = some (.func (.func 84) #[] #[]))
    (ht : wA.heap[pt]? = some (.cells #[.int .i64 a, .int .i64 kb, .int .i64 c] 32)) (hq : wA.heap[q]? = some (.cells #[.func (.func 85) #[] #[], .func (.func 86) #[] #[.pointer (some ⟨g, 0, none⟩)]] 122)) (h8 : wA.heap[q8]? = some (.cells #[.int .i64 A.lo, .int .i64 A.hi] 82)) (K : Act → World → Prop) (Q : Exit → Act → World → Prop)
    (hfin : ∀ (s41 s42 s43 s44 s45 s46 s47 s48 s49 s50 s51 s52 s53 s54 s55 s56 s57 s58 s59 s60 s61 : Value) (w3 : World), w3.heap[q8]? = some (.cells #[.int .i64 (A.meet ((s.l[kb].x).less s.ax)).lo, .int .i64 (A.meet ((s.l[kb].x).less s.ax)).hi] 82) → Below q8 wA w3 → K ⟨((.pointer (some ⟨p, 0, none⟩))::z1::z2::(.pointer (some ⟨pt, 0, none⟩))::z4::z5::z6::(.pointer (some ⟨q, 0, none⟩))::(.pointer (some ⟨q8, 0, none⟩))::(.int .i64 1)::z10::z11::z12::z13::z14::z15::z16::z17::z18::z19::z20::z21::z22::z23::z24::z25::z26::z27::z28::z29::z30::z31::z32::z33::z34::z35::z36::z37::z38::z39::z40::s41::s42::s43::s44::s45::s46::s47::s48::s49::s50::s51::s52::s53::s54::s55::s56::s57::s58::s59::s60::s61::z62::z63::z64::z65::z66::z67::z68::z69::z70::z71::z72::z73::z74::z75::z76::z77::z78::z79::z80::z81::z82::z83::z84::z85::z86::z87::z88::z89::z90::z91::z92::z93::z94::z95::z96::z97::z98::z99::z100::z101::z102::z103::z104::z105::z106::z107::z108::z109::z110::z111::z112::z113::z114::z115::z116::z117::z118::z119::z120::z121::z122::z123::z124::z125::z126::z127::z128 :: []).toArray, []⟩ w3) :
    Code.wp Try.prog (((Try.f42.body.bind (findReg 9)).getD .skip)) (Exit.then K Q) ⟨((.pointer (some ⟨p, 0, none⟩))::z1::z2::(.pointer (some ⟨pt, 0, none⟩))::z4::z5::z6::(.pointer (some ⟨q, 0, none⟩))::(.pointer (some ⟨q8, 0, none⟩))::(.int .i64 1)::z10::z11::z12::z13::z14::z15::z16::z17::z18::z19::z20::z21::z22::z23::z24::z25::z26::z27::z28::z29::z30::z31::z32::z33::z34::z35::z36::z37::z38::z39::z40::z41::z42::z43::z44::z45::z46::z47::z48::z49::z50::z51::z52::z53::z54::z55::z56::z57::z58::z59::z60::z61::z62::z63::z64::z65::z66::z67::z68::z69::z70::z71::z72::z73::z74::z75::z76::z77::z78::z79::z80::z81::z82::z83::z84::z85::z86::z87::z88::z89::z90::z91::z92::z93::z94::z95::z96::z97::z98::z99::z100::z101::z102::z103::z104::z105::z106::z107::z108::z109::z110::z111::z112::z113::z114::z115::z116::z117::z118::z119::z120::z121::z122::z123::z124::z125::z126::z127::z128 :: []).toArray, []⟩ wA := by
  have HFIN := Lib.hid hfin
  obtain ⟨bf, of, rfl, hbf, hE⟩ := hl kb hk
  have hki : (kb : Int) < s.l.length := by omega
  have h8l := (Array.getElem?_eq_some_iff.1 h8).1
  have S14 := iheld hs.c14 (Nat.le_refl _)
  have TE := iheld (cell_block ht 1) (Nat.le_refl _)
  have G0 := iheld (cell_block hq 0) (Nat.le_refl _)
  have G1 := iheld (cell_block hq 1) (Nat.le_refl _)
  have A0 := iheld (cell_block h8 0) (Nat.le_refl _)
  have A1 := iheld (cell_block h8 1) (Nat.le_refl _)
  have hg2 := iheld hg (Nat.le_refl _)
  have E0 := iheld hE.c0 (Nat.le_refl _)
  have E1 := iheld hE.c1 (Nat.le_refl _)
  have E2 := iheld hE.c2 (Nat.le_refl _)
  have E3 := iheld hE.c3 (Nat.le_refl _)
  have E4 := iheld hE.c4 (Nat.le_refl _)
  have E5 := iheld hE.c5 (Nat.le_refl _)
  clear hfin hl hE ht hq hg
  conv => arg 2; whnf
  refine (wpIn_wide (n := 1)).1 ?_
  refine wpIn_region_Vn (B := [21]) (S := Below wA.heap.size wA) 22 (by kernel_rfl) (by kernel_rfl) (below_drew wA) (fun H0 => ?_)
  generalize wA.drew = w0 at H0 ⊢
  refine wpAnyV_takeD 0 41 (v := ?_) (by kernel_rfl) (by kernel_rfl) (by kernel_rfl) (by kernel_rfl) (fun _ _ _ h => h) (by kernel_rfl) ?_ (by assumption) ?_
  rotate_left
  · intro oi hoi w hSw; (try dsimp only at hSw); simp only [gA, gB, gC, gG] at hoi; subst hoi; go_simp; try with_reducible rfl
  simp only [Act.put, gD, gE, gF]
  refine wpAnyV_takeD 1 42 (v := ?_) (by kernel_rfl) (by kernel_rfl) (by kernel_rfl) (by kernel_rfl) (fun _ _ _ h => h) (by kernel_rfl) ?_ (by assumption) ?_
  rotate_left
  · intro oi hoi w hSw; (try dsimp only at hSw); simp only [gA, gB, gC, gG] at hoi; subst hoi; go_simp; try with_reducible rfl
  simp only [Act.put, gD, gE, gF]
  refine wpAnyV_takeD 2 43 (v := ?_) (by kernel_rfl) (by kernel_rfl) (by kernel_rfl) (by kernel_rfl) (fun _ _ _ h => h) (by kernel_rfl) ?_ (by assumption) ?_
  rotate_left
  · intro oi hoi w hSw; (try dsimp only at hSw); simp only [gA, gB, gC, gG] at hoi; subst hoi; go_simp; try with_reducible rfl
  simp only [Act.put, gD, gE, gF]
  refine wpAnyV_takeD 3 44 (v := ?_) (by kernel_rfl) (by kernel_rfl) (by kernel_rfl) (by kernel_rfl) (fun _ _ _ h => h) (by kernel_rfl) ?_ (by assumption) ?_
  rotate_left
  · intro oi hoi w hSw; (try dsimp only at hSw); simp only [gA, gB, gC, gG] at hoi; subst hoi; go_simp; try with_reducible rfl
  simp only [Act.put, gD, gE, gF]
  refine wpAnyV_takeD 4 45 (v := ?_) (by kernel_rfl) (by kernel_rfl) (by kernel_rfl) (by kernel_rfl) (fun _ _ _ h => h) (by kernel_rfl) ?_ (by assumption) ?_
  rotate_left
  · intro oi hoi w hSw; (try dsimp only at hSw); simp only [gA, gB, gC, gG] at hoi; subst hoi; go_simp; try with_reducible rfl
  simp only [Act.put, gD, gE, gF]
  refine wpAnyV_takeD 5 46 (v := ?_) (by kernel_rfl) (by kernel_rfl) (by kernel_rfl) (by kernel_rfl) (fun _ _ _ h => h) (by kernel_rfl) ?_ (by assumption) ?_
  rotate_left
  · intro oi hoi w hSw; (try dsimp only at hSw); simp only [gA, gB, gC, gG] at hoi; subst hoi; go_simp; try with_reducible rfl
  simp only [Act.put, gD, gE, gF]
  refine wpAnyV_takeD 6 47 (v := ?_) (by kernel_rfl) (by kernel_rfl) (by kernel_rfl) (by kernel_rfl) (fun _ _ _ h => h) (by kernel_rfl) ?_ (by assumption) ?_
  rotate_left
  · intro oi hoi w hSw; (try dsimp only at hSw); simp only [gA, gB, gC, gG] at hoi; subst hoi; go_simp; try with_reducible rfl
  simp only [Act.put, gD, gE, gF]
  refine wpAnyV_takeD 7 48 (v := ?_) (by kernel_rfl) (by kernel_rfl) (by kernel_rfl) (by kernel_rfl) (fun _ _ _ h => h) (by kernel_rfl) ?_ (by assumption) ?_
  rotate_left
  · intro oi hoi w hSw; (try dsimp only at hSw); simp only [gA, gB, gC, gG] at hoi; subst hoi; go_simp; try with_reducible rfl
  simp only [Act.put, gD, gE, gF]
  refine wpAnyV_takeD 8 49 (v := ?_) (by kernel_rfl) (by kernel_rfl) (by kernel_rfl) (by kernel_rfl) (fun _ _ _ h => h) (by kernel_rfl) ?_ (by assumption) ?_
  rotate_left
  · intro oi hoi w hSw; (try dsimp only at hSw); simp only [gA, gB, gC, gG] at hoi; subst hoi; go_simp; try with_reducible rfl
  simp only [Act.put, gD, gE, gF]
  refine wpAnyV_takeD 9 50 (v := ?_) (by kernel_rfl) (by kernel_rfl) (by kernel_rfl) (by kernel_rfl) (fun _ _ _ h => h) (by kernel_rfl) ?_ (by assumption) ?_
  rotate_left
  · intro oi hoi w hSw; (try dsimp only at hSw); simp only [gA, gB, gC, gG] at hoi; subst hoi; go_simp; try with_reducible rfl
  simp only [Act.put, gD, gE, gF]
  refine wpAnyV_takeD 10 51 (v := ?_) (by kernel_rfl) (by kernel_rfl) (by kernel_rfl) (by kernel_rfl) (fun _ _ _ h => h) (by kernel_rfl) ?_ (by assumption) ?_
  rotate_left
  · intro oi hoi w hSw; (try dsimp only at hSw); simp only [gA, gB, gC, gG] at hoi; subst hoi; go_simp; try with_reducible rfl
  simp only [Act.put, gD, gE, gF]
  refine wpAnyV_takeD 11 52 (v := ?_) (by kernel_rfl) (by kernel_rfl) (by kernel_rfl) (by kernel_rfl) (fun _ _ _ h => h) (by kernel_rfl) ?_ (by assumption) ?_
  rotate_left
  · intro oi hoi w hSw; (try dsimp only at hSw); simp only [gA, gB, gC, gG] at hoi; subst hoi; go_simp; try with_reducible rfl
  simp only [Act.put, gD, gE, gF]
  refine wpAnyV_takeD 12 53 (v := ?_) (by kernel_rfl) (by kernel_rfl) (by kernel_rfl) (by kernel_rfl) (fun _ _ _ h => h) (by kernel_rfl) ?_ (by assumption) ?_
  rotate_left
  · intro oi hoi w hSw; (try dsimp only at hSw); simp only [gA, gB, gC, gG] at hoi; subst hoi; go_simp; try with_reducible rfl
  simp only [Act.put, gD, gE, gF]
  refine wpAnyV_takeD 13 54 (v := ?_) (by kernel_rfl) (by kernel_rfl) (by kernel_rfl) (by kernel_rfl) (fun _ _ _ h => h) (by kernel_rfl) ?_ (by assumption) ?_
  rotate_left
  · intro oi hoi w hSw; (try dsimp only at hSw); simp only [gA, gB, gC, gG] at hoi; subst hoi; go_simp; try with_reducible rfl
  simp only [Act.put, gD, gE, gF]
  refine wpAnyV_takeD 14 55 (v := ?_) (by kernel_rfl) (by kernel_rfl) (by kernel_rfl) (by kernel_rfl) (fun _ _ _ h => h) (by kernel_rfl) ?_ (by assumption) ?_
  rotate_left
  · intro oi hoi w hSw; (try dsimp only at hSw); simp only [gA, gB, gC, gG] at hoi; subst hoi; go_simp; try with_reducible rfl
  simp only [Act.put, gD, gE, gF]
  refine wpAnyV_takeD 15 56 (v := ?_) (by kernel_rfl) (by kernel_rfl) (by kernel_rfl) (by kernel_rfl) (fun _ _ _ h => h) (by kernel_rfl) ?_ (by assumption) ?_
  rotate_left
  · intro oi hoi w hSw; (try dsimp only at hSw); simp only [gA, gB, gC, gG] at hoi; subst hoi; go_simp; try with_reducible rfl
  simp only [Act.put, gD, gE, gF]
  refine wpAnyV_takeD 16 57 (v := ?_) (by kernel_rfl) (by kernel_rfl) (by kernel_rfl) (by kernel_rfl) (fun _ _ _ h => h) (by kernel_rfl) ?_ (by assumption) ?_
  rotate_left
  · intro oi hoi w hSw; (try dsimp only at hSw); simp only [gA, gB, gC, gG] at hoi; subst hoi; go_simp; try with_reducible rfl
  simp only [Act.put, gD, gE, gF]
  refine wpAnyV_one 17 (by kernel_rfl) (by kernel_rfl) ?_
  intro o ho K hK
  simp only [gA, gB, gC, gG] at ho
  subst ho
  go_simp
  refine ⟨trivial, CallsIn.mono (callsIn_wide.2 (itr_get2 s.l[kb] _)) ?_⟩
  rintro e w1 ⟨rfl, hb⟩
  have H1 := H0.trans (hb.mono H0.size)
  refine hK _ _ (.inr H1) (fun _ => ?_)
  clear hK K hb
  try simp only [Act.put, gD, gE, gF]
  refine wpAnyV_one 18 (by kernel_rfl) (by kernel_rfl) ?_
  intro o ho K hK
  simp only [gA, gB, gC, gG] at ho
  subst ho
  go_simp
  refine ⟨trivial, CallsIn.mono (callsIn_wide.2 (iof_any (s.l[kb].x) _)) ?_⟩
  rintro e w2 ⟨rfl, hb⟩
  have H2 := H1.trans (hb.mono H1.size)
  refine hK _ _ (.inr H2) (fun _ => ?_)
  clear hK K hb
  try simp only [Act.put, gD, gE, gF]
  refine wpAnyV_one 19 (by kernel_rfl) (by kernel_rfl) ?_
  intro o ho K hK
  simp only [gA, gB, gC, gG] at ho
  subst ho
  go_simp
  refine ⟨trivial, CallsIn.mono (callsIn_wide.2 (itr_moved3_1 p g fc _ s (s.l[kb].x) _ (hs.later H2) (hg2 _ H2) hx hd)) ?_⟩
  rintro e w3 ⟨rfl, hb⟩
  have H3 := H2.trans (hb.mono H2.size)
  refine hK _ _ (.inr H3) (fun _ => ?_)
  clear hK K hb
  try simp only [Act.put, gD, gE, gF]
  refine wpAnyV_one 20 (by kernel_rfl) (by kernel_rfl) ?_
  intro o ho K hK
  simp only [gA, gB, gC, gG] at ho
  subst ho
  go_simp
  refine ⟨trivial, CallsIn.mono (callsIn_wide.2 (imeet_any A ((s.l[kb].x).less s.ax) _)) ?_⟩
  rintro e w4 ⟨rfl, hb⟩
  have H4 := H3.trans (hb.mono H3.size)
  refine hK _ _ (.inr H4) (fun _ => ?_)
  clear hK K hb
  try simp only [Act.put, gD, gE, gF]
  have z8 := (H4.block q8 h8l).trans h8
  have k0 := cell_block z8 0
  have k1 := cell_block z8 1
  have f0 := frozen_block z8 0
  have f1 := frozen_block z8 1
  try simp only [gA, gB, gC] at k0 k1
  refine wpAnyV_one 21 (by kernel_rfl) (by kernel_rfl) ?_
  intro o ho K hK
  simp only [gA, gB, gC, gG] at ho
  subst ho
  go_simp
  have zz := block_set (block_set z8 0 (.int .i64 (A.meet ((s.l[kb].x).less s.ax)).lo)) 1 (.int .i64 (A.meet ((s.l[kb].x).less s.ax)).hi)
  simp only [gD, gE, gF] at zz
  have hF := ((H4.mono (Nat.le_of_lt h8l)).setCell (p := ⟨q8, 0, none⟩) (Nat.le_refl _) (.int .i64 (A.meet ((s.l[kb].x).less s.ax)).lo)).setCell (p := ⟨q8, 1, none⟩) (Nat.le_refl _) (.int .i64 (A.meet ((s.l[kb].x).less s.ax)).hi)
  refine hK _ _ (.inl (by kernel_rfl)) (fun _ => ?_)
  clear hK K
  try simp only [Act.put, gD, gE, gF]
  refine wpAnyV_done (by kernel_rfl) ?_ _
  dsimp only [onNormal]
  exact HFIN.out _ _ _ _ _ _ _ _ _ _ _ _ _ _ _ _ _ _ _ _ _ _ zz hF

theorem star_reg9_0_2 (p pt q q8 g fc kb : Nat) (fa : Option Addr) (s : ISheet) (a c : Int) (A : Sp) (wA : World) {z1 z2 z4 z5 z6 z10 z11 z12 z13 z14 z15 z16 z17 z18 z19 z20 z21 z22 z23 z24 z25 z26 z27 z28 z29 z30 z31 z32 z33 z34 z35 z36 z37 z38 z39 z40 z62 z63 z64 z65 z66 z67 z68 z69 z70 z71 z72 z73 z74 z75 z76 z77 z78 z79 z80 z81 z82 z83 z84 z85 z86 z87 z88 z89 z90 z91 z92 z93 z94 z95 z96 z97 z98 z99 z100 z101 z102 z103 z104 z105 z106 z107 z108 z109 z110 z111 z112 z113 z114 z115 z116 z117 z118 z119 z120 z121 z122 z123 z124 z125 z126 z127 z128 : Value} {z41 z42 z43 z44 z45 z46 z47 z48 z49 z50 z51 z52 z53 z54 z55 z56 z57 z58 z59 z60 z61 : Value} (hs : ShAt wA p s fa fc) (hl : ImSl wA fa s.l) (hk : kb < s.l.length)
    (hx : (s.l[kb].x).small) (hd : s.bx.small) (hlim : -4000000 ≤ s.limit ∧ s.limit ≤ 4000000) (hg : wA.cell? ⟨g, 0, none⟩ = some (.func (.func 84) #[] #[]))
    (ht : wA.heap[pt]? = some (.cells #[.int .i64 a, .int .i64 c, .int .i64 kb] 32)) (hq : wA.heap[q]? = some (.cells #[.func (.func 85) #[] #[], .func (.func 86) #[] #[.pointer (some ⟨g, 0, none⟩)]] 122)) (h8 : wA.heap[q8]? = some (.cells #[.int .i64 A.lo, .int .i64 A.hi] 82)) (K : Act → World → Prop) (Q : Exit → Act → World → Prop)
    (hfin : ∀ (s41 s42 s43 s44 s45 s46 s47 s48 s49 s50 s51 s52 s53 s54 s55 s56 s57 s58 s59 s60 s61 : Value) (w3 : World), w3.heap[q8]? = some (.cells #[.int .i64 (A.meet ((s.l[kb].x).less s.bx)).lo, .int .i64 (A.meet ((s.l[kb].x).less s.bx)).hi] 82) → Below q8 wA w3 → K ⟨((.pointer (some ⟨p, 0, none⟩))::z1::z2::(.pointer (some ⟨pt, 0, none⟩))::z4::z5::z6::(.pointer (some ⟨q, 0, none⟩))::(.pointer (some ⟨q8, 0, none⟩))::(.int .i64 2)::z10::z11::z12::z13::z14::z15::z16::z17::z18::z19::z20::z21::z22::z23::z24::z25::z26::z27::z28::z29::z30::z31::z32::z33::z34::z35::z36::z37::z38::z39::z40::s41::s42::s43::s44::s45::s46::s47::s48::s49::s50::s51::s52::s53::s54::s55::s56::s57::s58::s59::s60::s61::z62::z63::z64::z65::z66::z67::z68::z69::z70::z71::z72::z73::z74::z75::z76::z77::z78::z79::z80::z81::z82::z83::z84::z85::z86::z87::z88::z89::z90::z91::z92::z93::z94::z95::z96::z97::z98::z99::z100::z101::z102::z103::z104::z105::z106::z107::z108::z109::z110::z111::z112::z113::z114::z115::z116::z117::z118::z119::z120::z121::z122::z123::z124::z125::z126::z127::z128 :: []).toArray, []⟩ w3) :
    Code.wp Try.prog (((Try.f42.body.bind (findReg 9)).getD .skip)) (Exit.then K Q) ⟨((.pointer (some ⟨p, 0, none⟩))::z1::z2::(.pointer (some ⟨pt, 0, none⟩))::z4::z5::z6::(.pointer (some ⟨q, 0, none⟩))::(.pointer (some ⟨q8, 0, none⟩))::(.int .i64 2)::z10::z11::z12::z13::z14::z15::z16::z17::z18::z19::z20::z21::z22::z23::z24::z25::z26::z27::z28::z29::z30::z31::z32::z33::z34::z35::z36::z37::z38::z39::z40::z41::z42::z43::z44::z45::z46::z47::z48::z49::z50::z51::z52::z53::z54::z55::z56::z57::z58::z59::z60::z61::z62::z63::z64::z65::z66::z67::z68::z69::z70::z71::z72::z73::z74::z75::z76::z77::z78::z79::z80::z81::z82::z83::z84::z85::z86::z87::z88::z89::z90::z91::z92::z93::z94::z95::z96::z97::z98::z99::z100::z101::z102::z103::z104::z105::z106::z107::z108::z109::z110::z111::z112::z113::z114::z115::z116::z117::z118::z119::z120::z121::z122::z123::z124::z125::z126::z127::z128 :: []).toArray, []⟩ wA := by
  have HFIN := Lib.hid hfin
  obtain ⟨bf, of, rfl, hbf, hE⟩ := hl kb hk
  have hki : (kb : Int) < s.l.length := by omega
  have h8l := (Array.getElem?_eq_some_iff.1 h8).1
  have S14 := iheld hs.c14 (Nat.le_refl _)
  have TE := iheld (cell_block ht 2) (Nat.le_refl _)
  have G0 := iheld (cell_block hq 0) (Nat.le_refl _)
  have G1 := iheld (cell_block hq 1) (Nat.le_refl _)
  have A0 := iheld (cell_block h8 0) (Nat.le_refl _)
  have A1 := iheld (cell_block h8 1) (Nat.le_refl _)
  have hg2 := iheld hg (Nat.le_refl _)
  have E0 := iheld hE.c0 (Nat.le_refl _)
  have E1 := iheld hE.c1 (Nat.le_refl _)
  have E2 := iheld hE.c2 (Nat.le_refl _)
  have E3 := iheld hE.c3 (Nat.le_refl _)
  have E4 := iheld hE.c4 (Nat.le_refl _)
  have E5 := iheld hE.c5 (Nat.le_refl _)
  clear hfin hl hE ht hq hg
  conv => arg 2; whnf
  refine (wpIn_wide (n := 1)).1 ?_
  refine wpIn_region_Vn (B := [21]) (S := Below wA.heap.size wA) 22 (by kernel_rfl) (by kernel_rfl) (below_drew wA) (fun H0 => ?_)
  generalize wA.drew = w0 at H0 ⊢
  refine wpAnyV_takeD 0 41 (v := ?_) (by kernel_rfl) (by kernel_rfl) (by kernel_rfl) (by kernel_rfl) (fun _ _ _ h => h) (by kernel_rfl) ?_ (by assumption) ?_
  rotate_left
  · intro oi hoi w hSw; (try dsimp only at hSw); simp only [gA, gB, gC, gG] at hoi; subst hoi; go_simp; try with_reducible rfl
  simp only [Act.put, gD, gE, gF]
  refine wpAnyV_takeD 1 42 (v := ?_) (by kernel_rfl) (by kernel_rfl) (by kernel_rfl) (by kernel_rfl) (fun _ _ _ h => h) (by kernel_rfl) ?_ (by assumption) ?_
  rotate_left
  · intro oi hoi w hSw; (try dsimp only at hSw); simp only [gA, gB, gC, gG] at hoi; subst hoi; go_simp; try with_reducible rfl
  simp only [Act.put, gD, gE, gF]
  refine wpAnyV_takeD 2 43 (v := ?_) (by kernel_rfl) (by kernel_rfl) (by kernel_rfl) (by kernel_rfl) (fun _ _ _ h => h) (by kernel_rfl) ?_ (by assumption) ?_
  rotate_left
  · intro oi hoi w hSw; (try dsimp only at hSw); simp only [gA, gB, gC, gG] at hoi; subst hoi; go_simp; try with_reducible rfl
  simp only [Act.put, gD, gE, gF]
  refine wpAnyV_takeD 3 44 (v := ?_) (by kernel_rfl) (by kernel_rfl) (by kernel_rfl) (by kernel_rfl) (fun _ _ _ h => h) (by kernel_rfl) ?_ (by assumption) ?_
  rotate_left
  · intro oi hoi w hSw; (try dsimp only at hSw); simp only [gA, gB, gC, gG] at hoi; subst hoi; go_simp; try with_reducible rfl
  simp only [Act.put, gD, gE, gF]
  refine wpAnyV_takeD 4 45 (v := ?_) (by kernel_rfl) (by kernel_rfl) (by kernel_rfl) (by kernel_rfl) (fun _ _ _ h => h) (by kernel_rfl) ?_ (by assumption) ?_
  rotate_left
  · intro oi hoi w hSw; (try dsimp only at hSw); simp only [gA, gB, gC, gG] at hoi; subst hoi; go_simp; try with_reducible rfl
  simp only [Act.put, gD, gE, gF]
  refine wpAnyV_takeD 5 46 (v := ?_) (by kernel_rfl) (by kernel_rfl) (by kernel_rfl) (by kernel_rfl) (fun _ _ _ h => h) (by kernel_rfl) ?_ (by assumption) ?_
  rotate_left
  · intro oi hoi w hSw; (try dsimp only at hSw); simp only [gA, gB, gC, gG] at hoi; subst hoi; go_simp; try with_reducible rfl
  simp only [Act.put, gD, gE, gF]
  refine wpAnyV_takeD 6 47 (v := ?_) (by kernel_rfl) (by kernel_rfl) (by kernel_rfl) (by kernel_rfl) (fun _ _ _ h => h) (by kernel_rfl) ?_ (by assumption) ?_
  rotate_left
  · intro oi hoi w hSw; (try dsimp only at hSw); simp only [gA, gB, gC, gG] at hoi; subst hoi; go_simp; try with_reducible rfl
  simp only [Act.put, gD, gE, gF]
  refine wpAnyV_takeD 7 48 (v := ?_) (by kernel_rfl) (by kernel_rfl) (by kernel_rfl) (by kernel_rfl) (fun _ _ _ h => h) (by kernel_rfl) ?_ (by assumption) ?_
  rotate_left
  · intro oi hoi w hSw; (try dsimp only at hSw); simp only [gA, gB, gC, gG] at hoi; subst hoi; go_simp; try with_reducible rfl
  simp only [Act.put, gD, gE, gF]
  refine wpAnyV_takeD 8 49 (v := ?_) (by kernel_rfl) (by kernel_rfl) (by kernel_rfl) (by kernel_rfl) (fun _ _ _ h => h) (by kernel_rfl) ?_ (by assumption) ?_
  rotate_left
  · intro oi hoi w hSw; (try dsimp only at hSw); simp only [gA, gB, gC, gG] at hoi; subst hoi; go_simp; try with_reducible rfl
  simp only [Act.put, gD, gE, gF]
  refine wpAnyV_takeD 9 50 (v := ?_) (by kernel_rfl) (by kernel_rfl) (by kernel_rfl) (by kernel_rfl) (fun _ _ _ h => h) (by kernel_rfl) ?_ (by assumption) ?_
  rotate_left
  · intro oi hoi w hSw; (try dsimp only at hSw); simp only [gA, gB, gC, gG] at hoi; subst hoi; go_simp; try with_reducible rfl
  simp only [Act.put, gD, gE, gF]
  refine wpAnyV_takeD 10 51 (v := ?_) (by kernel_rfl) (by kernel_rfl) (by kernel_rfl) (by kernel_rfl) (fun _ _ _ h => h) (by kernel_rfl) ?_ (by assumption) ?_
  rotate_left
  · intro oi hoi w hSw; (try dsimp only at hSw); simp only [gA, gB, gC, gG] at hoi; subst hoi; go_simp; try with_reducible rfl
  simp only [Act.put, gD, gE, gF]
  refine wpAnyV_takeD 11 52 (v := ?_) (by kernel_rfl) (by kernel_rfl) (by kernel_rfl) (by kernel_rfl) (fun _ _ _ h => h) (by kernel_rfl) ?_ (by assumption) ?_
  rotate_left
  · intro oi hoi w hSw; (try dsimp only at hSw); simp only [gA, gB, gC, gG] at hoi; subst hoi; go_simp; try with_reducible rfl
  simp only [Act.put, gD, gE, gF]
  refine wpAnyV_takeD 12 53 (v := ?_) (by kernel_rfl) (by kernel_rfl) (by kernel_rfl) (by kernel_rfl) (fun _ _ _ h => h) (by kernel_rfl) ?_ (by assumption) ?_
  rotate_left
  · intro oi hoi w hSw; (try dsimp only at hSw); simp only [gA, gB, gC, gG] at hoi; subst hoi; go_simp; try with_reducible rfl
  simp only [Act.put, gD, gE, gF]
  refine wpAnyV_takeD 13 54 (v := ?_) (by kernel_rfl) (by kernel_rfl) (by kernel_rfl) (by kernel_rfl) (fun _ _ _ h => h) (by kernel_rfl) ?_ (by assumption) ?_
  rotate_left
  · intro oi hoi w hSw; (try dsimp only at hSw); simp only [gA, gB, gC, gG] at hoi; subst hoi; go_simp; try with_reducible rfl
  simp only [Act.put, gD, gE, gF]
  refine wpAnyV_takeD 14 55 (v := ?_) (by kernel_rfl) (by kernel_rfl) (by kernel_rfl) (by kernel_rfl) (fun _ _ _ h => h) (by kernel_rfl) ?_ (by assumption) ?_
  rotate_left
  · intro oi hoi w hSw; (try dsimp only at hSw); simp only [gA, gB, gC, gG] at hoi; subst hoi; go_simp; try with_reducible rfl
  simp only [Act.put, gD, gE, gF]
  refine wpAnyV_takeD 15 56 (v := ?_) (by kernel_rfl) (by kernel_rfl) (by kernel_rfl) (by kernel_rfl) (fun _ _ _ h => h) (by kernel_rfl) ?_ (by assumption) ?_
  rotate_left
  · intro oi hoi w hSw; (try dsimp only at hSw); simp only [gA, gB, gC, gG] at hoi; subst hoi; go_simp; try with_reducible rfl
  simp only [Act.put, gD, gE, gF]
  refine wpAnyV_takeD 16 57 (v := ?_) (by kernel_rfl) (by kernel_rfl) (by kernel_rfl) (by kernel_rfl) (fun _ _ _ h => h) (by kernel_rfl) ?_ (by assumption) ?_
  rotate_left
  · intro oi hoi w hSw; (try dsimp only at hSw); simp only [gA, gB, gC, gG] at hoi; subst hoi; go_simp; try with_reducible rfl
  simp only [Act.put, gD, gE, gF]
  refine wpAnyV_one 17 (by kernel_rfl) (by kernel_rfl) ?_
  intro o ho K hK
  simp only [gA, gB, gC, gG] at ho
  subst ho
  go_simp
  refine ⟨trivial, CallsIn.mono (callsIn_wide.2 (itr_get2 s.l[kb] _)) ?_⟩
  rintro e w1 ⟨rfl, hb⟩
  have H1 := H0.trans (hb.mono H0.size)
  refine hK _ _ (.inr H1) (fun _ => ?_)
  clear hK K hb
  try simp only [Act.put, gD, gE, gF]
  refine wpAnyV_one 18 (by kernel_rfl) (by kernel_rfl) ?_
  intro o ho K hK
  simp only [gA, gB, gC, gG] at ho
  subst ho
  go_simp
  refine ⟨trivial, CallsIn.mono (callsIn_wide.2 (iof_any (s.l[kb].x) _)) ?_⟩
  rintro e w2 ⟨rfl, hb⟩
  have H2 := H1.trans (hb.mono H1.size)
  refine hK _ _ (.inr H2) (fun _ => ?_)
  clear hK K hb
  try simp only [Act.put, gD, gE, gF]
  refine wpAnyV_one 19 (by kernel_rfl) (by kernel_rfl) ?_
  intro o ho K hK
  simp only [gA, gB, gC, gG] at ho
  subst ho
  go_simp
  refine ⟨trivial, CallsIn.mono (callsIn_wide.2 (itr_moved3_2 p g fc _ s (s.l[kb].x) _ (hs.later H2) (hg2 _ H2) hx hd)) ?_⟩
  rintro e w3 ⟨rfl, hb⟩
  have H3 := H2.trans (hb.mono H2.size)
  refine hK _ _ (.inr H3) (fun _ => ?_)
  clear hK K hb
  try simp only [Act.put, gD, gE, gF]
  refine wpAnyV_one 20 (by kernel_rfl) (by kernel_rfl) ?_
  intro o ho K hK
  simp only [gA, gB, gC, gG] at ho
  subst ho
  go_simp
  refine ⟨trivial, CallsIn.mono (callsIn_wide.2 (imeet_any A ((s.l[kb].x).less s.bx) _)) ?_⟩
  rintro e w4 ⟨rfl, hb⟩
  have H4 := H3.trans (hb.mono H3.size)
  refine hK _ _ (.inr H4) (fun _ => ?_)
  clear hK K hb
  try simp only [Act.put, gD, gE, gF]
  have z8 := (H4.block q8 h8l).trans h8
  have k0 := cell_block z8 0
  have k1 := cell_block z8 1
  have f0 := frozen_block z8 0
  have f1 := frozen_block z8 1
  try simp only [gA, gB, gC] at k0 k1
  refine wpAnyV_one 21 (by kernel_rfl) (by kernel_rfl) ?_
  intro o ho K hK
  simp only [gA, gB, gC, gG] at ho
  subst ho
  go_simp
  have zz := block_set (block_set z8 0 (.int .i64 (A.meet ((s.l[kb].x).less s.bx)).lo)) 1 (.int .i64 (A.meet ((s.l[kb].x).less s.bx)).hi)
  simp only [gD, gE, gF] at zz
  have hF := ((H4.mono (Nat.le_of_lt h8l)).setCell (p := ⟨q8, 0, none⟩) (Nat.le_refl _) (.int .i64 (A.meet ((s.l[kb].x).less s.bx)).lo)).setCell (p := ⟨q8, 1, none⟩) (Nat.le_refl _) (.int .i64 (A.meet ((s.l[kb].x).less s.bx)).hi)
  refine hK _ _ (.inl (by kernel_rfl)) (fun _ => ?_)
  clear hK K
  try simp only [Act.put, gD, gE, gF]
  refine wpAnyV_done (by kernel_rfl) ?_ _
  dsimp only [onNormal]
  exact HFIN.out _ _ _ _ _ _ _ _ _ _ _ _ _ _ _ _ _ _ _ _ _ _ zz hF

theorem star_reg9_1_1 (p pt q q8 g fc kb : Nat) (fa : Option Addr) (s : ISheet) (a c : Int) (A : Sp) (wA : World) {z1 z2 z4 z5 z6 z10 z11 z12 z13 z14 z15 z16 z17 z18 z19 z20 z21 z22 z23 z24 z25 z26 z27 z28 z29 z30 z31 z32 z33 z34 z35 z36 z37 z38 z39 z40 z62 z63 z64 z65 z66 z67 z68 z69 z70 z71 z72 z73 z74 z75 z76 z77 z78 z79 z80 z81 z82 z83 z84 z85 z86 z87 z88 z89 z90 z91 z92 z93 z94 z95 z96 z97 z98 z99 z100 z101 z102 z103 z104 z105 z106 z107 z108 z109 z110 z111 z112 z113 z114 z115 z116 z117 z118 z119 z120 z121 z122 z123 z124 z125 z126 z127 z128 : Value} {z41 z42 z43 z44 z45 z46 z47 z48 z49 z50 z51 z52 z53 z54 z55 z56 z57 z58 z59 z60 z61 : Value} (hs : ShAt wA p s fa fc) (hl : ImSl wA fa s.l) (hk : kb < s.l.length)
    (hx : (s.l[kb].y).small) (hd : s.ay.small) (hlim : -4000000 ≤ s.limit ∧ s.limit ≤ 4000000) (hg : wA.cell? ⟨g, 0, none⟩ = some (.func (.func 84) #[] #[]))
    (ht : wA.heap[pt]? = some (.cells #[.int .i64 a, .int .i64 kb, .int .i64 c] 32)) (hq : wA.heap[q]? = some (.cells #[.func (.func 87) #[] #[], .func (.func 88) #[] #[.pointer (some ⟨g, 0, none⟩)]] 122)) (h8 : wA.heap[q8]? = some (.cells #[.int .i64 A.lo, .int .i64 A.hi] 82)) (K : Act → World → Prop) (Q : Exit → Act → World → Prop)
    (hfin : ∀ (s41 s42 s43 s44 s45 s46 s47 s48 s49 s50 s51 s52 s53 s54 s55 s56 s57 s58 s59 s60 s61 : Value) (w3 : World), w3.heap[q8]? = some (.cells #[.int .i64 (A.meet ((s.l[kb].y).less s.ay)).lo, .int .i64 (A.meet ((s.l[kb].y).less s.ay)).hi] 82) → Below q8 wA w3 → K ⟨((.pointer (some ⟨p, 0, none⟩))::z1::z2::(.pointer (some ⟨pt, 0, none⟩))::z4::z5::z6::(.pointer (some ⟨q, 0, none⟩))::(.pointer (some ⟨q8, 0, none⟩))::(.int .i64 1)::z10::z11::z12::z13::z14::z15::z16::z17::z18::z19::z20::z21::z22::z23::z24::z25::z26::z27::z28::z29::z30::z31::z32::z33::z34::z35::z36::z37::z38::z39::z40::s41::s42::s43::s44::s45::s46::s47::s48::s49::s50::s51::s52::s53::s54::s55::s56::s57::s58::s59::s60::s61::z62::z63::z64::z65::z66::z67::z68::z69::z70::z71::z72::z73::z74::z75::z76::z77::z78::z79::z80::z81::z82::z83::z84::z85::z86::z87::z88::z89::z90::z91::z92::z93::z94::z95::z96::z97::z98::z99::z100::z101::z102::z103::z104::z105::z106::z107::z108::z109::z110::z111::z112::z113::z114::z115::z116::z117::z118::z119::z120::z121::z122::z123::z124::z125::z126::z127::z128 :: []).toArray, []⟩ w3) :
    Code.wp Try.prog (((Try.f42.body.bind (findReg 9)).getD .skip)) (Exit.then K Q) ⟨((.pointer (some ⟨p, 0, none⟩))::z1::z2::(.pointer (some ⟨pt, 0, none⟩))::z4::z5::z6::(.pointer (some ⟨q, 0, none⟩))::(.pointer (some ⟨q8, 0, none⟩))::(.int .i64 1)::z10::z11::z12::z13::z14::z15::z16::z17::z18::z19::z20::z21::z22::z23::z24::z25::z26::z27::z28::z29::z30::z31::z32::z33::z34::z35::z36::z37::z38::z39::z40::z41::z42::z43::z44::z45::z46::z47::z48::z49::z50::z51::z52::z53::z54::z55::z56::z57::z58::z59::z60::z61::z62::z63::z64::z65::z66::z67::z68::z69::z70::z71::z72::z73::z74::z75::z76::z77::z78::z79::z80::z81::z82::z83::z84::z85::z86::z87::z88::z89::z90::z91::z92::z93::z94::z95::z96::z97::z98::z99::z100::z101::z102::z103::z104::z105::z106::z107::z108::z109::z110::z111::z112::z113::z114::z115::z116::z117::z118::z119::z120::z121::z122::z123::z124::z125::z126::z127::z128 :: []).toArray, []⟩ wA := by
  have HFIN := Lib.hid hfin
  obtain ⟨bf, of, rfl, hbf, hE⟩ := hl kb hk
  have hki : (kb : Int) < s.l.length := by omega
  have h8l := (Array.getElem?_eq_some_iff.1 h8).1
  have S14 := iheld hs.c14 (Nat.le_refl _)
  have TE := iheld (cell_block ht 1) (Nat.le_refl _)
  have G0 := iheld (cell_block hq 0) (Nat.le_refl _)
  have G1 := iheld (cell_block hq 1) (Nat.le_refl _)
  have A0 := iheld (cell_block h8 0) (Nat.le_refl _)
  have A1 := iheld (cell_block h8 1) (Nat.le_refl _)
  have hg2 := iheld hg (Nat.le_refl _)
  have E0 := iheld hE.c0 (Nat.le_refl _)
  have E1 := iheld hE.c1 (Nat.le_refl _)
  have E2 := iheld hE.c2 (Nat.le_refl _)
  have E3 := iheld hE.c3 (Nat.le_refl _)
  have E4 := iheld hE.c4 (Nat.le_refl _)
  have E5 := iheld hE.c5 (Nat.le_refl _)
  clear hfin hl hE ht hq hg
  conv => arg 2; whnf
  refine (wpIn_wide (n := 1)).1 ?_
  refine wpIn_region_Vn (B := [21]) (S := Below wA.heap.size wA) 22 (by kernel_rfl) (by kernel_rfl) (below_drew wA) (fun H0 => ?_)
  generalize wA.drew = w0 at H0 ⊢
  refine wpAnyV_takeD 0 41 (v := ?_) (by kernel_rfl) (by kernel_rfl) (by kernel_rfl) (by kernel_rfl) (fun _ _ _ h => h) (by kernel_rfl) ?_ (by assumption) ?_
  rotate_left
  · intro oi hoi w hSw; (try dsimp only at hSw); simp only [gA, gB, gC, gG] at hoi; subst hoi; go_simp; try with_reducible rfl
  simp only [Act.put, gD, gE, gF]
  refine wpAnyV_takeD 1 42 (v := ?_) (by kernel_rfl) (by kernel_rfl) (by kernel_rfl) (by kernel_rfl) (fun _ _ _ h => h) (by kernel_rfl) ?_ (by assumption) ?_
  rotate_left
  · intro oi hoi w hSw; (try dsimp only at hSw); simp only [gA, gB, gC, gG] at hoi; subst hoi; go_simp; try with_reducible rfl
  simp only [Act.put, gD, gE, gF]
  refine wpAnyV_takeD 2 43 (v := ?_) (by kernel_rfl) (by kernel_rfl) (by kernel_rfl) (by kernel_rfl) (fun _ _ _ h => h) (by kernel_rfl) ?_ (by assumption) ?_
  rotate_left
  · intro oi hoi w hSw; (try dsimp only at hSw); simp only [gA, gB, gC, gG] at hoi; subst hoi; go_simp; try with_reducible rfl
  simp only [Act.put, gD, gE, gF]
  refine wpAnyV_takeD 3 44 (v := ?_) (by kernel_rfl) (by kernel_rfl) (by kernel_rfl) (by kernel_rfl) (fun _ _ _ h => h) (by kernel_rfl) ?_ (by assumption) ?_
  rotate_left
  · intro oi hoi w hSw; (try dsimp only at hSw); simp only [gA, gB, gC, gG] at hoi; subst hoi; go_simp; try with_reducible rfl
  simp only [Act.put, gD, gE, gF]
  refine wpAnyV_takeD 4 45 (v := ?_) (by kernel_rfl) (by kernel_rfl) (by kernel_rfl) (by kernel_rfl) (fun _ _ _ h => h) (by kernel_rfl) ?_ (by assumption) ?_
  rotate_left
  · intro oi hoi w hSw; (try dsimp only at hSw); simp only [gA, gB, gC, gG] at hoi; subst hoi; go_simp; try with_reducible rfl
  simp only [Act.put, gD, gE, gF]
  refine wpAnyV_takeD 5 46 (v := ?_) (by kernel_rfl) (by kernel_rfl) (by kernel_rfl) (by kernel_rfl) (fun _ _ _ h => h) (by kernel_rfl) ?_ (by assumption) ?_
  rotate_left
  · intro oi hoi w hSw; (try dsimp only at hSw); simp only [gA, gB, gC, gG] at hoi; subst hoi; go_simp; try with_reducible rfl
  simp only [Act.put, gD, gE, gF]
  refine wpAnyV_takeD 6 47 (v := ?_) (by kernel_rfl) (by kernel_rfl) (by kernel_rfl) (by kernel_rfl) (fun _ _ _ h => h) (by kernel_rfl) ?_ (by assumption) ?_
  rotate_left
  · intro oi hoi w hSw; (try dsimp only at hSw); simp only [gA, gB, gC, gG] at hoi; subst hoi; go_simp; try with_reducible rfl
  simp only [Act.put, gD, gE, gF]
  refine wpAnyV_takeD 7 48 (v := ?_) (by kernel_rfl) (by kernel_rfl) (by kernel_rfl) (by kernel_rfl) (fun _ _ _ h => h) (by kernel_rfl) ?_ (by assumption) ?_
  rotate_left
  · intro oi hoi w hSw; (try dsimp only at hSw); simp only [gA, gB, gC, gG] at hoi; subst hoi; go_simp; try with_reducible rfl
  simp only [Act.put, gD, gE, gF]
  refine wpAnyV_takeD 8 49 (v := ?_) (by kernel_rfl) (by kernel_rfl) (by kernel_rfl) (by kernel_rfl) (fun _ _ _ h => h) (by kernel_rfl) ?_ (by assumption) ?_
  rotate_left
  · intro oi hoi w hSw; (try dsimp only at hSw); simp only [gA, gB, gC, gG] at hoi; subst hoi; go_simp; try with_reducible rfl
  simp only [Act.put, gD, gE, gF]
  refine wpAnyV_takeD 9 50 (v := ?_) (by kernel_rfl) (by kernel_rfl) (by kernel_rfl) (by kernel_rfl) (fun _ _ _ h => h) (by kernel_rfl) ?_ (by assumption) ?_
  rotate_left
  · intro oi hoi w hSw; (try dsimp only at hSw); simp only [gA, gB, gC, gG] at hoi; subst hoi; go_simp; try with_reducible rfl
  simp only [Act.put, gD, gE, gF]
  refine wpAnyV_takeD 10 51 (v := ?_) (by kernel_rfl) (by kernel_rfl) (by kernel_rfl) (by kernel_rfl) (fun _ _ _ h => h) (by kernel_rfl) ?_ (by assumption) ?_
  rotate_left
  · intro oi hoi w hSw; (try dsimp only at hSw); simp only [gA, gB, gC, gG] at hoi; subst hoi; go_simp; try with_reducible rfl
  simp only [Act.put, gD, gE, gF]
  refine wpAnyV_takeD 11 52 (v := ?_) (by kernel_rfl) (by kernel_rfl) (by kernel_rfl) (by kernel_rfl) (fun _ _ _ h => h) (by kernel_rfl) ?_ (by assumption) ?_
  rotate_left
  · intro oi hoi w hSw; (try dsimp only at hSw); simp only [gA, gB, gC, gG] at hoi; subst hoi; go_simp; try with_reducible rfl
  simp only [Act.put, gD, gE, gF]
  refine wpAnyV_takeD 12 53 (v := ?_) (by kernel_rfl) (by kernel_rfl) (by kernel_rfl) (by kernel_rfl) (fun _ _ _ h => h) (by kernel_rfl) ?_ (by assumption) ?_
  rotate_left
  · intro oi hoi w hSw; (try dsimp only at hSw); simp only [gA, gB, gC, gG] at hoi; subst hoi; go_simp; try with_reducible rfl
  simp only [Act.put, gD, gE, gF]
  refine wpAnyV_takeD 13 54 (v := ?_) (by kernel_rfl) (by kernel_rfl) (by kernel_rfl) (by kernel_rfl) (fun _ _ _ h => h) (by kernel_rfl) ?_ (by assumption) ?_
  rotate_left
  · intro oi hoi w hSw; (try dsimp only at hSw); simp only [gA, gB, gC, gG] at hoi; subst hoi; go_simp; try with_reducible rfl
  simp only [Act.put, gD, gE, gF]
  refine wpAnyV_takeD 14 55 (v := ?_) (by kernel_rfl) (by kernel_rfl) (by kernel_rfl) (by kernel_rfl) (fun _ _ _ h => h) (by kernel_rfl) ?_ (by assumption) ?_
  rotate_left
  · intro oi hoi w hSw; (try dsimp only at hSw); simp only [gA, gB, gC, gG] at hoi; subst hoi; go_simp; try with_reducible rfl
  simp only [Act.put, gD, gE, gF]
  refine wpAnyV_takeD 15 56 (v := ?_) (by kernel_rfl) (by kernel_rfl) (by kernel_rfl) (by kernel_rfl) (fun _ _ _ h => h) (by kernel_rfl) ?_ (by assumption) ?_
  rotate_left
  · intro oi hoi w hSw; (try dsimp only at hSw); simp only [gA, gB, gC, gG] at hoi; subst hoi; go_simp; try with_reducible rfl
  simp only [Act.put, gD, gE, gF]
  refine wpAnyV_takeD 16 57 (v := ?_) (by kernel_rfl) (by kernel_rfl) (by kernel_rfl) (by kernel_rfl) (fun _ _ _ h => h) (by kernel_rfl) ?_ (by assumption) ?_
  rotate_left
  · intro oi hoi w hSw; (try dsimp only at hSw); simp only [gA, gB, gC, gG] at hoi; subst hoi; go_simp; try with_reducible rfl
  simp only [Act.put, gD, gE, gF]
  refine wpAnyV_one 17 (by kernel_rfl) (by kernel_rfl) ?_
  intro o ho K hK
  simp only [gA, gB, gC, gG] at ho
  subst ho
  go_simp
  refine ⟨trivial, CallsIn.mono (callsIn_wide.2 (itr_get4 s.l[kb] _)) ?_⟩
  rintro e w1 ⟨rfl, hb⟩
  have H1 := H0.trans (hb.mono H0.size)
  refine hK _ _ (.inr H1) (fun _ => ?_)
  clear hK K hb
  try simp only [Act.put, gD, gE, gF]
  refine wpAnyV_one 18 (by kernel_rfl) (by kernel_rfl) ?_
  intro o ho K hK
  simp only [gA, gB, gC, gG] at ho
  subst ho
  go_simp
  refine ⟨trivial, CallsIn.mono (callsIn_wide.2 (iof_any (s.l[kb].y) _)) ?_⟩
  rintro e w2 ⟨rfl, hb⟩
  have H2 := H1.trans (hb.mono H1.size)
  refine hK _ _ (.inr H2) (fun _ => ?_)
  clear hK K hb
  try simp only [Act.put, gD, gE, gF]
  refine wpAnyV_one 19 (by kernel_rfl) (by kernel_rfl) ?_
  intro o ho K hK
  simp only [gA, gB, gC, gG] at ho
  subst ho
  go_simp
  refine ⟨trivial, CallsIn.mono (callsIn_wide.2 (itr_moved5_1 p g fc _ s (s.l[kb].y) _ (hs.later H2) (hg2 _ H2) hx hd)) ?_⟩
  rintro e w3 ⟨rfl, hb⟩
  have H3 := H2.trans (hb.mono H2.size)
  refine hK _ _ (.inr H3) (fun _ => ?_)
  clear hK K hb
  try simp only [Act.put, gD, gE, gF]
  refine wpAnyV_one 20 (by kernel_rfl) (by kernel_rfl) ?_
  intro o ho K hK
  simp only [gA, gB, gC, gG] at ho
  subst ho
  go_simp
  refine ⟨trivial, CallsIn.mono (callsIn_wide.2 (imeet_any A ((s.l[kb].y).less s.ay) _)) ?_⟩
  rintro e w4 ⟨rfl, hb⟩
  have H4 := H3.trans (hb.mono H3.size)
  refine hK _ _ (.inr H4) (fun _ => ?_)
  clear hK K hb
  try simp only [Act.put, gD, gE, gF]
  have z8 := (H4.block q8 h8l).trans h8
  have k0 := cell_block z8 0
  have k1 := cell_block z8 1
  have f0 := frozen_block z8 0
  have f1 := frozen_block z8 1
  try simp only [gA, gB, gC] at k0 k1
  refine wpAnyV_one 21 (by kernel_rfl) (by kernel_rfl) ?_
  intro o ho K hK
  simp only [gA, gB, gC, gG] at ho
  subst ho
  go_simp
  have zz := block_set (block_set z8 0 (.int .i64 (A.meet ((s.l[kb].y).less s.ay)).lo)) 1 (.int .i64 (A.meet ((s.l[kb].y).less s.ay)).hi)
  simp only [gD, gE, gF] at zz
  have hF := ((H4.mono (Nat.le_of_lt h8l)).setCell (p := ⟨q8, 0, none⟩) (Nat.le_refl _) (.int .i64 (A.meet ((s.l[kb].y).less s.ay)).lo)).setCell (p := ⟨q8, 1, none⟩) (Nat.le_refl _) (.int .i64 (A.meet ((s.l[kb].y).less s.ay)).hi)
  refine hK _ _ (.inl (by kernel_rfl)) (fun _ => ?_)
  clear hK K
  try simp only [Act.put, gD, gE, gF]
  refine wpAnyV_done (by kernel_rfl) ?_ _
  dsimp only [onNormal]
  exact HFIN.out _ _ _ _ _ _ _ _ _ _ _ _ _ _ _ _ _ _ _ _ _ _ zz hF

theorem star_reg9_1_2 (p pt q q8 g fc kb : Nat) (fa : Option Addr) (s : ISheet) (a c : Int) (A : Sp) (wA : World) {z1 z2 z4 z5 z6 z10 z11 z12 z13 z14 z15 z16 z17 z18 z19 z20 z21 z22 z23 z24 z25 z26 z27 z28 z29 z30 z31 z32 z33 z34 z35 z36 z37 z38 z39 z40 z62 z63 z64 z65 z66 z67 z68 z69 z70 z71 z72 z73 z74 z75 z76 z77 z78 z79 z80 z81 z82 z83 z84 z85 z86 z87 z88 z89 z90 z91 z92 z93 z94 z95 z96 z97 z98 z99 z100 z101 z102 z103 z104 z105 z106 z107 z108 z109 z110 z111 z112 z113 z114 z115 z116 z117 z118 z119 z120 z121 z122 z123 z124 z125 z126 z127 z128 : Value} {z41 z42 z43 z44 z45 z46 z47 z48 z49 z50 z51 z52 z53 z54 z55 z56 z57 z58 z59 z60 z61 : Value} (hs : ShAt wA p s fa fc) (hl : ImSl wA fa s.l) (hk : kb < s.l.length)
    (hx : (s.l[kb].y).small) (hd : s.by'.small) (hlim : -4000000 ≤ s.limit ∧ s.limit ≤ 4000000) (hg : wA.cell? ⟨g, 0, none⟩ = some (.func (.func 84) #[] #[]))
    (ht : wA.heap[pt]? = some (.cells #[.int .i64 a, .int .i64 c, .int .i64 kb] 32)) (hq : wA.heap[q]? = some (.cells #[.func (.func 87) #[] #[], .func (.func 88) #[] #[.pointer (some ⟨g, 0, none⟩)]] 122)) (h8 : wA.heap[q8]? = some (.cells #[.int .i64 A.lo, .int .i64 A.hi] 82)) (K : Act → World → Prop) (Q : Exit → Act → World → Prop)
    (hfin : ∀ (s41 s42 s43 s44 s45 s46 s47 s48 s49 s50 s51 s52 s53 s54 s55 s56 s57 s58 s59 s60 s61 : Value) (w3 : World), w3.heap[q8]? = some (.cells #[.int .i64 (A.meet ((s.l[kb].y).less s.by')).lo, .int .i64 (A.meet ((s.l[kb].y).less s.by')).hi] 82) → Below q8 wA w3 → K ⟨((.pointer (some ⟨p, 0, none⟩))::z1::z2::(.pointer (some ⟨pt, 0, none⟩))::z4::z5::z6::(.pointer (some ⟨q, 0, none⟩))::(.pointer (some ⟨q8, 0, none⟩))::(.int .i64 2)::z10::z11::z12::z13::z14::z15::z16::z17::z18::z19::z20::z21::z22::z23::z24::z25::z26::z27::z28::z29::z30::z31::z32::z33::z34::z35::z36::z37::z38::z39::z40::s41::s42::s43::s44::s45::s46::s47::s48::s49::s50::s51::s52::s53::s54::s55::s56::s57::s58::s59::s60::s61::z62::z63::z64::z65::z66::z67::z68::z69::z70::z71::z72::z73::z74::z75::z76::z77::z78::z79::z80::z81::z82::z83::z84::z85::z86::z87::z88::z89::z90::z91::z92::z93::z94::z95::z96::z97::z98::z99::z100::z101::z102::z103::z104::z105::z106::z107::z108::z109::z110::z111::z112::z113::z114::z115::z116::z117::z118::z119::z120::z121::z122::z123::z124::z125::z126::z127::z128 :: []).toArray, []⟩ w3) :
    Code.wp Try.prog (((Try.f42.body.bind (findReg 9)).getD .skip)) (Exit.then K Q) ⟨((.pointer (some ⟨p, 0, none⟩))::z1::z2::(.pointer (some ⟨pt, 0, none⟩))::z4::z5::z6::(.pointer (some ⟨q, 0, none⟩))::(.pointer (some ⟨q8, 0, none⟩))::(.int .i64 2)::z10::z11::z12::z13::z14::z15::z16::z17::z18::z19::z20::z21::z22::z23::z24::z25::z26::z27::z28::z29::z30::z31::z32::z33::z34::z35::z36::z37::z38::z39::z40::z41::z42::z43::z44::z45::z46::z47::z48::z49::z50::z51::z52::z53::z54::z55::z56::z57::z58::z59::z60::z61::z62::z63::z64::z65::z66::z67::z68::z69::z70::z71::z72::z73::z74::z75::z76::z77::z78::z79::z80::z81::z82::z83::z84::z85::z86::z87::z88::z89::z90::z91::z92::z93::z94::z95::z96::z97::z98::z99::z100::z101::z102::z103::z104::z105::z106::z107::z108::z109::z110::z111::z112::z113::z114::z115::z116::z117::z118::z119::z120::z121::z122::z123::z124::z125::z126::z127::z128 :: []).toArray, []⟩ wA := by
  have HFIN := Lib.hid hfin
  obtain ⟨bf, of, rfl, hbf, hE⟩ := hl kb hk
  have hki : (kb : Int) < s.l.length := by omega
  have h8l := (Array.getElem?_eq_some_iff.1 h8).1
  have S14 := iheld hs.c14 (Nat.le_refl _)
  have TE := iheld (cell_block ht 2) (Nat.le_refl _)
  have G0 := iheld (cell_block hq 0) (Nat.le_refl _)
  have G1 := iheld (cell_block hq 1) (Nat.le_refl _)
  have A0 := iheld (cell_block h8 0) (Nat.le_refl _)
  have A1 := iheld (cell_block h8 1) (Nat.le_refl _)
  have hg2 := iheld hg (Nat.le_refl _)
  have E0 := iheld hE.c0 (Nat.le_refl _)
  have E1 := iheld hE.c1 (Nat.le_refl _)
  have E2 := iheld hE.c2 (Nat.le_refl _)
  have E3 := iheld hE.c3 (Nat.le_refl _)
  have E4 := iheld hE.c4 (Nat.le_refl _)
  have E5 := iheld hE.c5 (Nat.le_refl _)
  clear hfin hl hE ht hq hg
  conv => arg 2; whnf
  refine (wpIn_wide (n := 1)).1 ?_
  refine wpIn_region_Vn (B := [21]) (S := Below wA.heap.size wA) 22 (by kernel_rfl) (by kernel_rfl) (below_drew wA) (fun H0 => ?_)
  generalize wA.drew = w0 at H0 ⊢
  refine wpAnyV_takeD 0 41 (v := ?_) (by kernel_rfl) (by kernel_rfl) (by kernel_rfl) (by kernel_rfl) (fun _ _ _ h => h) (by kernel_rfl) ?_ (by assumption) ?_
  rotate_left
  · intro oi hoi w hSw; (try dsimp only at hSw); simp only [gA, gB, gC, gG] at hoi; subst hoi; go_simp; try with_reducible rfl
  simp only [Act.put, gD, gE, gF]
  refine wpAnyV_takeD 1 42 (v := ?_) (by kernel_rfl) (by kernel_rfl) (by kernel_rfl) (by kernel_rfl) (fun _ _ _ h => h) (by kernel_rfl) ?_ (by assumption) ?_
  rotate_left
  · intro oi hoi w hSw; (try dsimp only at hSw); simp only [gA, gB, gC, gG] at hoi; subst hoi; go_simp; try with_reducible rfl
  simp only [Act.put, gD, gE, gF]
  refine wpAnyV_takeD 2 43 (v := ?_) (by kernel_rfl) (by kernel_rfl) (by kernel_rfl) (by kernel_rfl) (fun _ _ _ h => h) (by kernel_rfl) ?_ (by assumption) ?_
  rotate_left
  · intro oi hoi w hSw; (try dsimp only at hSw); simp only [gA, gB, gC, gG] at hoi; subst hoi; go_simp; try with_reducible rfl
  simp only [Act.put, gD, gE, gF]
  refine wpAnyV_takeD 3 44 (v := ?_) (by kernel_rfl) (by kernel_rfl) (by kernel_rfl) (by kernel_rfl) (fun _ _ _ h => h) (by kernel_rfl) ?_ (by assumption) ?_
  rotate_left
  · intro oi hoi w hSw; (try dsimp only at hSw); simp only [gA, gB, gC, gG] at hoi; subst hoi; go_simp; try with_reducible rfl
  simp only [Act.put, gD, gE, gF]
  refine wpAnyV_takeD 4 45 (v := ?_) (by kernel_rfl) (by kernel_rfl) (by kernel_rfl) (by kernel_rfl) (fun _ _ _ h => h) (by kernel_rfl) ?_ (by assumption) ?_
  rotate_left
  · intro oi hoi w hSw; (try dsimp only at hSw); simp only [gA, gB, gC, gG] at hoi; subst hoi; go_simp; try with_reducible rfl
  simp only [Act.put, gD, gE, gF]
  refine wpAnyV_takeD 5 46 (v := ?_) (by kernel_rfl) (by kernel_rfl) (by kernel_rfl) (by kernel_rfl) (fun _ _ _ h => h) (by kernel_rfl) ?_ (by assumption) ?_
  rotate_left
  · intro oi hoi w hSw; (try dsimp only at hSw); simp only [gA, gB, gC, gG] at hoi; subst hoi; go_simp; try with_reducible rfl
  simp only [Act.put, gD, gE, gF]
  refine wpAnyV_takeD 6 47 (v := ?_) (by kernel_rfl) (by kernel_rfl) (by kernel_rfl) (by kernel_rfl) (fun _ _ _ h => h) (by kernel_rfl) ?_ (by assumption) ?_
  rotate_left
  · intro oi hoi w hSw; (try dsimp only at hSw); simp only [gA, gB, gC, gG] at hoi; subst hoi; go_simp; try with_reducible rfl
  simp only [Act.put, gD, gE, gF]
  refine wpAnyV_takeD 7 48 (v := ?_) (by kernel_rfl) (by kernel_rfl) (by kernel_rfl) (by kernel_rfl) (fun _ _ _ h => h) (by kernel_rfl) ?_ (by assumption) ?_
  rotate_left
  · intro oi hoi w hSw; (try dsimp only at hSw); simp only [gA, gB, gC, gG] at hoi; subst hoi; go_simp; try with_reducible rfl
  simp only [Act.put, gD, gE, gF]
  refine wpAnyV_takeD 8 49 (v := ?_) (by kernel_rfl) (by kernel_rfl) (by kernel_rfl) (by kernel_rfl) (fun _ _ _ h => h) (by kernel_rfl) ?_ (by assumption) ?_
  rotate_left
  · intro oi hoi w hSw; (try dsimp only at hSw); simp only [gA, gB, gC, gG] at hoi; subst hoi; go_simp; try with_reducible rfl
  simp only [Act.put, gD, gE, gF]
  refine wpAnyV_takeD 9 50 (v := ?_) (by kernel_rfl) (by kernel_rfl) (by kernel_rfl) (by kernel_rfl) (fun _ _ _ h => h) (by kernel_rfl) ?_ (by assumption) ?_
  rotate_left
  · intro oi hoi w hSw; (try dsimp only at hSw); simp only [gA, gB, gC, gG] at hoi; subst hoi; go_simp; try with_reducible rfl
  simp only [Act.put, gD, gE, gF]
  refine wpAnyV_takeD 10 51 (v := ?_) (by kernel_rfl) (by kernel_rfl) (by kernel_rfl) (by kernel_rfl) (fun _ _ _ h => h) (by kernel_rfl) ?_ (by assumption) ?_
  rotate_left
  · intro oi hoi w hSw; (try dsimp only at hSw); simp only [gA, gB, gC, gG] at hoi; subst hoi; go_simp; try with_reducible rfl
  simp only [Act.put, gD, gE, gF]
  refine wpAnyV_takeD 11 52 (v := ?_) (by kernel_rfl) (by kernel_rfl) (by kernel_rfl) (by kernel_rfl) (fun _ _ _ h => h) (by kernel_rfl) ?_ (by assumption) ?_
  rotate_left
  · intro oi hoi w hSw; (try dsimp only at hSw); simp only [gA, gB, gC, gG] at hoi; subst hoi; go_simp; try with_reducible rfl
  simp only [Act.put, gD, gE, gF]
  refine wpAnyV_takeD 12 53 (v := ?_) (by kernel_rfl) (by kernel_rfl) (by kernel_rfl) (by kernel_rfl) (fun _ _ _ h => h) (by kernel_rfl) ?_ (by assumption) ?_
  rotate_left
  · intro oi hoi w hSw; (try dsimp only at hSw); simp only [gA, gB, gC, gG] at hoi; subst hoi; go_simp; try with_reducible rfl
  simp only [Act.put, gD, gE, gF]
  refine wpAnyV_takeD 13 54 (v := ?_) (by kernel_rfl) (by kernel_rfl) (by kernel_rfl) (by kernel_rfl) (fun _ _ _ h => h) (by kernel_rfl) ?_ (by assumption) ?_
  rotate_left
  · intro oi hoi w hSw; (try dsimp only at hSw); simp only [gA, gB, gC, gG] at hoi; subst hoi; go_simp; try with_reducible rfl
  simp only [Act.put, gD, gE, gF]
  refine wpAnyV_takeD 14 55 (v := ?_) (by kernel_rfl) (by kernel_rfl) (by kernel_rfl) (by kernel_rfl) (fun _ _ _ h => h) (by kernel_rfl) ?_ (by assumption) ?_
  rotate_left
  · intro oi hoi w hSw; (try dsimp only at hSw); simp only [gA, gB, gC, gG] at hoi; subst hoi; go_simp; try with_reducible rfl
  simp only [Act.put, gD, gE, gF]
  refine wpAnyV_takeD 15 56 (v := ?_) (by kernel_rfl) (by kernel_rfl) (by kernel_rfl) (by kernel_rfl) (fun _ _ _ h => h) (by kernel_rfl) ?_ (by assumption) ?_
  rotate_left
  · intro oi hoi w hSw; (try dsimp only at hSw); simp only [gA, gB, gC, gG] at hoi; subst hoi; go_simp; try with_reducible rfl
  simp only [Act.put, gD, gE, gF]
  refine wpAnyV_takeD 16 57 (v := ?_) (by kernel_rfl) (by kernel_rfl) (by kernel_rfl) (by kernel_rfl) (fun _ _ _ h => h) (by kernel_rfl) ?_ (by assumption) ?_
  rotate_left
  · intro oi hoi w hSw; (try dsimp only at hSw); simp only [gA, gB, gC, gG] at hoi; subst hoi; go_simp; try with_reducible rfl
  simp only [Act.put, gD, gE, gF]
  refine wpAnyV_one 17 (by kernel_rfl) (by kernel_rfl) ?_
  intro o ho K hK
  simp only [gA, gB, gC, gG] at ho
  subst ho
  go_simp
  refine ⟨trivial, CallsIn.mono (callsIn_wide.2 (itr_get4 s.l[kb] _)) ?_⟩
  rintro e w1 ⟨rfl, hb⟩
  have H1 := H0.trans (hb.mono H0.size)
  refine hK _ _ (.inr H1) (fun _ => ?_)
  clear hK K hb
  try simp only [Act.put, gD, gE, gF]
  refine wpAnyV_one 18 (by kernel_rfl) (by kernel_rfl) ?_
  intro o ho K hK
  simp only [gA, gB, gC, gG] at ho
  subst ho
  go_simp
  refine ⟨trivial, CallsIn.mono (callsIn_wide.2 (iof_any (s.l[kb].y) _)) ?_⟩
  rintro e w2 ⟨rfl, hb⟩
  have H2 := H1.trans (hb.mono H1.size)
  refine hK _ _ (.inr H2) (fun _ => ?_)
  clear hK K hb
  try simp only [Act.put, gD, gE, gF]
  refine wpAnyV_one 19 (by kernel_rfl) (by kernel_rfl) ?_
  intro o ho K hK
  simp only [gA, gB, gC, gG] at ho
  subst ho
  go_simp
  refine ⟨trivial, CallsIn.mono (callsIn_wide.2 (itr_moved5_2 p g fc _ s (s.l[kb].y) _ (hs.later H2) (hg2 _ H2) hx hd)) ?_⟩
  rintro e w3 ⟨rfl, hb⟩
  have H3 := H2.trans (hb.mono H2.size)
  refine hK _ _ (.inr H3) (fun _ => ?_)
  clear hK K hb
  try simp only [Act.put, gD, gE, gF]
  refine wpAnyV_one 20 (by kernel_rfl) (by kernel_rfl) ?_
  intro o ho K hK
  simp only [gA, gB, gC, gG] at ho
  subst ho
  go_simp
  refine ⟨trivial, CallsIn.mono (callsIn_wide.2 (imeet_any A ((s.l[kb].y).less s.by') _)) ?_⟩
  rintro e w4 ⟨rfl, hb⟩
  have H4 := H3.trans (hb.mono H3.size)
  refine hK _ _ (.inr H4) (fun _ => ?_)
  clear hK K hb
  try simp only [Act.put, gD, gE, gF]
  have z8 := (H4.block q8 h8l).trans h8
  have k0 := cell_block z8 0
  have k1 := cell_block z8 1
  have f0 := frozen_block z8 0
  have f1 := frozen_block z8 1
  try simp only [gA, gB, gC] at k0 k1
  refine wpAnyV_one 21 (by kernel_rfl) (by kernel_rfl) ?_
  intro o ho K hK
  simp only [gA, gB, gC, gG] at ho
  subst ho
  go_simp
  have zz := block_set (block_set z8 0 (.int .i64 (A.meet ((s.l[kb].y).less s.by')).lo)) 1 (.int .i64 (A.meet ((s.l[kb].y).less s.by')).hi)
  simp only [gD, gE, gF] at zz
  have hF := ((H4.mono (Nat.le_of_lt h8l)).setCell (p := ⟨q8, 0, none⟩) (Nat.le_refl _) (.int .i64 (A.meet ((s.l[kb].y).less s.by')).lo)).setCell (p := ⟨q8, 1, none⟩) (Nat.le_refl _) (.int .i64 (A.meet ((s.l[kb].y).less s.by')).hi)
  refine hK _ _ (.inl (by kernel_rfl)) (fun _ => ?_)
  clear hK K
  try simp only [Act.put, gD, gE, gF]
  refine wpAnyV_done (by kernel_rfl) ?_ _
  dsimp only [onNormal]
  exact HFIN.out _ _ _ _ _ _ _ _ _ _ _ _ _ _ _ _ _ _ _ _ _ _ zz hF

theorem star_reg9_2_1 (p pt q q8 g fc kb : Nat) (fa : Option Addr) (s : ISheet) (a c : Int) (A : Sp) (wA : World) {z1 z2 z4 z5 z6 z10 z11 z12 z13 z14 z15 z16 z17 z18 z19 z20 z21 z22 z23 z24 z25 z26 z27 z28 z29 z30 z31 z32 z33 z34 z35 z36 z37 z38 z39 z40 z62 z63 z64 z65 z66 z67 z68 z69 z70 z71 z72 z73 z74 z75 z76 z77 z78 z79 z80 z81 z82 z83 z84 z85 z86 z87 z88 z89 z90 z91 z92 z93 z94 z95 z96 z97 z98 z99 z100 z101 z102 z103 z104 z105 z106 z107 z108 z109 z110 z111 z112 z113 z114 z115 z116 z117 z118 z119 z120 z121 z122 z123 z124 z125 z126 z127 z128 : Value} {z41 z42 z43 z44 z45 z46 z47 z48 z49 z50 z51 z52 z53 z54 z55 z56 z57 z58 z59 z60 z61 : Value} (hs : ShAt wA p s fa fc) (hl : ImSl wA fa s.l) (hk : kb < s.l.length)
    (hx : (s.l[kb].s).small) (hd : s.f.small) (hlim : -4000000 ≤ s.limit ∧ s.limit ≤ 4000000) (hg : wA.cell? ⟨g, 0, none⟩ = some (.func (.func 84) #[] #[]))
    (ht : wA.heap[pt]? = some (.cells #[.int .i64 a, .int .i64 kb, .int .i64 c] 32)) (hq : wA.heap[q]? = some (.cells #[.func (.func 89) #[] #[], .func (.func 90) #[] #[]] 122)) (h8 : wA.heap[q8]? = some (.cells #[.int .i64 A.lo, .int .i64 A.hi] 82)) (K : Act → World → Prop) (Q : Exit → Act → World → Prop)
    (hfin : ∀ (s41 s42 s43 s44 s45 s46 s47 s48 s49 s50 s51 s52 s53 s54 s55 s56 s57 s58 s59 s60 s61 : Value) (w3 : World), w3.heap[q8]? = some (.cells #[.int .i64 (A.meet (sizeBack s (s.l[kb].s) s.f)).lo, .int .i64 (A.meet (sizeBack s (s.l[kb].s) s.f)).hi] 82) → Below q8 wA w3 → K ⟨((.pointer (some ⟨p, 0, none⟩))::z1::z2::(.pointer (some ⟨pt, 0, none⟩))::z4::z5::z6::(.pointer (some ⟨q, 0, none⟩))::(.pointer (some ⟨q8, 0, none⟩))::(.int .i64 1)::z10::z11::z12::z13::z14::z15::z16::z17::z18::z19::z20::z21::z22::z23::z24::z25::z26::z27::z28::z29::z30::z31::z32::z33::z34::z35::z36::z37::z38::z39::z40::s41::s42::s43::s44::s45::s46::s47::s48::s49::s50::s51::s52::s53::s54::s55::s56::s57::s58::s59::s60::s61::z62::z63::z64::z65::z66::z67::z68::z69::z70::z71::z72::z73::z74::z75::z76::z77::z78::z79::z80::z81::z82::z83::z84::z85::z86::z87::z88::z89::z90::z91::z92::z93::z94::z95::z96::z97::z98::z99::z100::z101::z102::z103::z104::z105::z106::z107::z108::z109::z110::z111::z112::z113::z114::z115::z116::z117::z118::z119::z120::z121::z122::z123::z124::z125::z126::z127::z128 :: []).toArray, []⟩ w3) :
    Code.wp Try.prog (((Try.f42.body.bind (findReg 9)).getD .skip)) (Exit.then K Q) ⟨((.pointer (some ⟨p, 0, none⟩))::z1::z2::(.pointer (some ⟨pt, 0, none⟩))::z4::z5::z6::(.pointer (some ⟨q, 0, none⟩))::(.pointer (some ⟨q8, 0, none⟩))::(.int .i64 1)::z10::z11::z12::z13::z14::z15::z16::z17::z18::z19::z20::z21::z22::z23::z24::z25::z26::z27::z28::z29::z30::z31::z32::z33::z34::z35::z36::z37::z38::z39::z40::z41::z42::z43::z44::z45::z46::z47::z48::z49::z50::z51::z52::z53::z54::z55::z56::z57::z58::z59::z60::z61::z62::z63::z64::z65::z66::z67::z68::z69::z70::z71::z72::z73::z74::z75::z76::z77::z78::z79::z80::z81::z82::z83::z84::z85::z86::z87::z88::z89::z90::z91::z92::z93::z94::z95::z96::z97::z98::z99::z100::z101::z102::z103::z104::z105::z106::z107::z108::z109::z110::z111::z112::z113::z114::z115::z116::z117::z118::z119::z120::z121::z122::z123::z124::z125::z126::z127::z128 :: []).toArray, []⟩ wA := by
  have HFIN := Lib.hid hfin
  obtain ⟨bf, of, rfl, hbf, hE⟩ := hl kb hk
  have hki : (kb : Int) < s.l.length := by omega
  have h8l := (Array.getElem?_eq_some_iff.1 h8).1
  have S14 := iheld hs.c14 (Nat.le_refl _)
  have TE := iheld (cell_block ht 1) (Nat.le_refl _)
  have G0 := iheld (cell_block hq 0) (Nat.le_refl _)
  have G1 := iheld (cell_block hq 1) (Nat.le_refl _)
  have A0 := iheld (cell_block h8 0) (Nat.le_refl _)
  have A1 := iheld (cell_block h8 1) (Nat.le_refl _)
  have hg2 := iheld hg (Nat.le_refl _)
  have E0 := iheld hE.c0 (Nat.le_refl _)
  have E1 := iheld hE.c1 (Nat.le_refl _)
  have E2 := iheld hE.c2 (Nat.le_refl _)
  have E3 := iheld hE.c3 (Nat.le_refl _)
  have E4 := iheld hE.c4 (Nat.le_refl _)
  have E5 := iheld hE.c5 (Nat.le_refl _)
  clear hfin hl hE ht hq hg
  conv => arg 2; whnf
  refine (wpIn_wide (n := 1)).1 ?_
  refine wpIn_region_Vn (B := [21]) (S := Below wA.heap.size wA) 22 (by kernel_rfl) (by kernel_rfl) (below_drew wA) (fun H0 => ?_)
  generalize wA.drew = w0 at H0 ⊢
  refine wpAnyV_takeD 0 41 (v := ?_) (by kernel_rfl) (by kernel_rfl) (by kernel_rfl) (by kernel_rfl) (fun _ _ _ h => h) (by kernel_rfl) ?_ (by assumption) ?_
  rotate_left
  · intro oi hoi w hSw; (try dsimp only at hSw); simp only [gA, gB, gC, gG] at hoi; subst hoi; go_simp; try with_reducible rfl
  simp only [Act.put, gD, gE, gF]
  refine wpAnyV_takeD 1 42 (v := ?_) (by kernel_rfl) (by kernel_rfl) (by kernel_rfl) (by kernel_rfl) (fun _ _ _ h => h) (by kernel_rfl) ?_ (by assumption) ?_
  rotate_left
  · intro oi hoi w hSw; (try dsimp only at hSw); simp only [gA, gB, gC, gG] at hoi; subst hoi; go_simp; try with_reducible rfl
  simp only [Act.put, gD, gE, gF]
  refine wpAnyV_takeD 2 43 (v := ?_) (by kernel_rfl) (by kernel_rfl) (by kernel_rfl) (by kernel_rfl) (fun _ _ _ h => h) (by kernel_rfl) ?_ (by assumption) ?_
  rotate_left
  · intro oi hoi w hSw; (try dsimp only at hSw); simp only [gA, gB, gC, gG] at hoi; subst hoi; go_simp; try with_reducible rfl
  simp only [Act.put, gD, gE, gF]
  refine wpAnyV_takeD 3 44 (v := ?_) (by kernel_rfl) (by kernel_rfl) (by kernel_rfl) (by kernel_rfl) (fun _ _ _ h => h) (by kernel_rfl) ?_ (by assumption) ?_
  rotate_left
  · intro oi hoi w hSw; (try dsimp only at hSw); simp only [gA, gB, gC, gG] at hoi; subst hoi; go_simp; try with_reducible rfl
  simp only [Act.put, gD, gE, gF]
  refine wpAnyV_takeD 4 45 (v := ?_) (by kernel_rfl) (by kernel_rfl) (by kernel_rfl) (by kernel_rfl) (fun _ _ _ h => h) (by kernel_rfl) ?_ (by assumption) ?_
  rotate_left
  · intro oi hoi w hSw; (try dsimp only at hSw); simp only [gA, gB, gC, gG] at hoi; subst hoi; go_simp; try with_reducible rfl
  simp only [Act.put, gD, gE, gF]
  refine wpAnyV_takeD 5 46 (v := ?_) (by kernel_rfl) (by kernel_rfl) (by kernel_rfl) (by kernel_rfl) (fun _ _ _ h => h) (by kernel_rfl) ?_ (by assumption) ?_
  rotate_left
  · intro oi hoi w hSw; (try dsimp only at hSw); simp only [gA, gB, gC, gG] at hoi; subst hoi; go_simp; try with_reducible rfl
  simp only [Act.put, gD, gE, gF]
  refine wpAnyV_takeD 6 47 (v := ?_) (by kernel_rfl) (by kernel_rfl) (by kernel_rfl) (by kernel_rfl) (fun _ _ _ h => h) (by kernel_rfl) ?_ (by assumption) ?_
  rotate_left
  · intro oi hoi w hSw; (try dsimp only at hSw); simp only [gA, gB, gC, gG] at hoi; subst hoi; go_simp; try with_reducible rfl
  simp only [Act.put, gD, gE, gF]
  refine wpAnyV_takeD 7 48 (v := ?_) (by kernel_rfl) (by kernel_rfl) (by kernel_rfl) (by kernel_rfl) (fun _ _ _ h => h) (by kernel_rfl) ?_ (by assumption) ?_
  rotate_left
  · intro oi hoi w hSw; (try dsimp only at hSw); simp only [gA, gB, gC, gG] at hoi; subst hoi; go_simp; try with_reducible rfl
  simp only [Act.put, gD, gE, gF]
  refine wpAnyV_takeD 8 49 (v := ?_) (by kernel_rfl) (by kernel_rfl) (by kernel_rfl) (by kernel_rfl) (fun _ _ _ h => h) (by kernel_rfl) ?_ (by assumption) ?_
  rotate_left
  · intro oi hoi w hSw; (try dsimp only at hSw); simp only [gA, gB, gC, gG] at hoi; subst hoi; go_simp; try with_reducible rfl
  simp only [Act.put, gD, gE, gF]
  refine wpAnyV_takeD 9 50 (v := ?_) (by kernel_rfl) (by kernel_rfl) (by kernel_rfl) (by kernel_rfl) (fun _ _ _ h => h) (by kernel_rfl) ?_ (by assumption) ?_
  rotate_left
  · intro oi hoi w hSw; (try dsimp only at hSw); simp only [gA, gB, gC, gG] at hoi; subst hoi; go_simp; try with_reducible rfl
  simp only [Act.put, gD, gE, gF]
  refine wpAnyV_takeD 10 51 (v := ?_) (by kernel_rfl) (by kernel_rfl) (by kernel_rfl) (by kernel_rfl) (fun _ _ _ h => h) (by kernel_rfl) ?_ (by assumption) ?_
  rotate_left
  · intro oi hoi w hSw; (try dsimp only at hSw); simp only [gA, gB, gC, gG] at hoi; subst hoi; go_simp; try with_reducible rfl
  simp only [Act.put, gD, gE, gF]
  refine wpAnyV_takeD 11 52 (v := ?_) (by kernel_rfl) (by kernel_rfl) (by kernel_rfl) (by kernel_rfl) (fun _ _ _ h => h) (by kernel_rfl) ?_ (by assumption) ?_
  rotate_left
  · intro oi hoi w hSw; (try dsimp only at hSw); simp only [gA, gB, gC, gG] at hoi; subst hoi; go_simp; try with_reducible rfl
  simp only [Act.put, gD, gE, gF]
  refine wpAnyV_takeD 12 53 (v := ?_) (by kernel_rfl) (by kernel_rfl) (by kernel_rfl) (by kernel_rfl) (fun _ _ _ h => h) (by kernel_rfl) ?_ (by assumption) ?_
  rotate_left
  · intro oi hoi w hSw; (try dsimp only at hSw); simp only [gA, gB, gC, gG] at hoi; subst hoi; go_simp; try with_reducible rfl
  simp only [Act.put, gD, gE, gF]
  refine wpAnyV_takeD 13 54 (v := ?_) (by kernel_rfl) (by kernel_rfl) (by kernel_rfl) (by kernel_rfl) (fun _ _ _ h => h) (by kernel_rfl) ?_ (by assumption) ?_
  rotate_left
  · intro oi hoi w hSw; (try dsimp only at hSw); simp only [gA, gB, gC, gG] at hoi; subst hoi; go_simp; try with_reducible rfl
  simp only [Act.put, gD, gE, gF]
  refine wpAnyV_takeD 14 55 (v := ?_) (by kernel_rfl) (by kernel_rfl) (by kernel_rfl) (by kernel_rfl) (fun _ _ _ h => h) (by kernel_rfl) ?_ (by assumption) ?_
  rotate_left
  · intro oi hoi w hSw; (try dsimp only at hSw); simp only [gA, gB, gC, gG] at hoi; subst hoi; go_simp; try with_reducible rfl
  simp only [Act.put, gD, gE, gF]
  refine wpAnyV_takeD 15 56 (v := ?_) (by kernel_rfl) (by kernel_rfl) (by kernel_rfl) (by kernel_rfl) (fun _ _ _ h => h) (by kernel_rfl) ?_ (by assumption) ?_
  rotate_left
  · intro oi hoi w hSw; (try dsimp only at hSw); simp only [gA, gB, gC, gG] at hoi; subst hoi; go_simp; try with_reducible rfl
  simp only [Act.put, gD, gE, gF]
  refine wpAnyV_takeD 16 57 (v := ?_) (by kernel_rfl) (by kernel_rfl) (by kernel_rfl) (by kernel_rfl) (fun _ _ _ h => h) (by kernel_rfl) ?_ (by assumption) ?_
  rotate_left
  · intro oi hoi w hSw; (try dsimp only at hSw); simp only [gA, gB, gC, gG] at hoi; subst hoi; go_simp; try with_reducible rfl
  simp only [Act.put, gD, gE, gF]
  refine wpAnyV_one 17 (by kernel_rfl) (by kernel_rfl) ?_
  intro o ho K hK
  simp only [gA, gB, gC, gG] at ho
  subst ho
  go_simp
  refine ⟨trivial, CallsIn.mono (callsIn_wide.2 (itr_get6 s.l[kb] _)) ?_⟩
  rintro e w1 ⟨rfl, hb⟩
  have H1 := H0.trans (hb.mono H0.size)
  refine hK _ _ (.inr H1) (fun _ => ?_)
  clear hK K hb
  try simp only [Act.put, gD, gE, gF]
  refine wpAnyV_one 18 (by kernel_rfl) (by kernel_rfl) ?_
  intro o ho K hK
  simp only [gA, gB, gC, gG] at ho
  subst ho
  go_simp
  refine ⟨trivial, CallsIn.mono (callsIn_wide.2 (iof_any (s.l[kb].s) _)) ?_⟩
  rintro e w2 ⟨rfl, hb⟩
  have H2 := H1.trans (hb.mono H1.size)
  refine hK _ _ (.inr H2) (fun _ => ?_)
  clear hK K hb
  try simp only [Act.put, gD, gE, gF]
  refine wpAnyV_one 19 (by kernel_rfl) (by kernel_rfl) ?_
  intro o ho K hK
  simp only [gA, gB, gC, gG] at ho
  subst ho
  go_simp
  refine ⟨trivial, CallsIn.mono (callsIn_wide.2 (itr_moved7_1 p fc _ s (s.l[kb].s) _ (hs.later H2) hx hd hlim)) ?_⟩
  rintro e w3 ⟨rfl, hb⟩
  have H3 := H2.trans (hb.mono H2.size)
  refine hK _ _ (.inr H3) (fun _ => ?_)
  clear hK K hb
  try simp only [Act.put, gD, gE, gF]
  refine wpAnyV_one 20 (by kernel_rfl) (by kernel_rfl) ?_
  intro o ho K hK
  simp only [gA, gB, gC, gG] at ho
  subst ho
  go_simp
  refine ⟨trivial, CallsIn.mono (callsIn_wide.2 (imeet_any A (sizeBack s (s.l[kb].s) s.f) _)) ?_⟩
  rintro e w4 ⟨rfl, hb⟩
  have H4 := H3.trans (hb.mono H3.size)
  refine hK _ _ (.inr H4) (fun _ => ?_)
  clear hK K hb
  try simp only [Act.put, gD, gE, gF]
  have z8 := (H4.block q8 h8l).trans h8
  have k0 := cell_block z8 0
  have k1 := cell_block z8 1
  have f0 := frozen_block z8 0
  have f1 := frozen_block z8 1
  try simp only [gA, gB, gC] at k0 k1
  refine wpAnyV_one 21 (by kernel_rfl) (by kernel_rfl) ?_
  intro o ho K hK
  simp only [gA, gB, gC, gG] at ho
  subst ho
  go_simp
  have zz := block_set (block_set z8 0 (.int .i64 (A.meet (sizeBack s (s.l[kb].s) s.f)).lo)) 1 (.int .i64 (A.meet (sizeBack s (s.l[kb].s) s.f)).hi)
  simp only [gD, gE, gF] at zz
  have hF := ((H4.mono (Nat.le_of_lt h8l)).setCell (p := ⟨q8, 0, none⟩) (Nat.le_refl _) (.int .i64 (A.meet (sizeBack s (s.l[kb].s) s.f)).lo)).setCell (p := ⟨q8, 1, none⟩) (Nat.le_refl _) (.int .i64 (A.meet (sizeBack s (s.l[kb].s) s.f)).hi)
  refine hK _ _ (.inl (by kernel_rfl)) (fun _ => ?_)
  clear hK K
  try simp only [Act.put, gD, gE, gF]
  refine wpAnyV_done (by kernel_rfl) ?_ _
  dsimp only [onNormal]
  exact HFIN.out _ _ _ _ _ _ _ _ _ _ _ _ _ _ _ _ _ _ _ _ _ _ zz hF

theorem star_reg9_2_2 (p pt q q8 g fc kb : Nat) (fa : Option Addr) (s : ISheet) (a c : Int) (A : Sp) (wA : World) {z1 z2 z4 z5 z6 z10 z11 z12 z13 z14 z15 z16 z17 z18 z19 z20 z21 z22 z23 z24 z25 z26 z27 z28 z29 z30 z31 z32 z33 z34 z35 z36 z37 z38 z39 z40 z62 z63 z64 z65 z66 z67 z68 z69 z70 z71 z72 z73 z74 z75 z76 z77 z78 z79 z80 z81 z82 z83 z84 z85 z86 z87 z88 z89 z90 z91 z92 z93 z94 z95 z96 z97 z98 z99 z100 z101 z102 z103 z104 z105 z106 z107 z108 z109 z110 z111 z112 z113 z114 z115 z116 z117 z118 z119 z120 z121 z122 z123 z124 z125 z126 z127 z128 : Value} {z41 z42 z43 z44 z45 z46 z47 z48 z49 z50 z51 z52 z53 z54 z55 z56 z57 z58 z59 z60 z61 : Value} (hs : ShAt wA p s fa fc) (hl : ImSl wA fa s.l) (hk : kb < s.l.length)
    (hx : (s.l[kb].s).small) (hd : s.g.small) (hlim : -4000000 ≤ s.limit ∧ s.limit ≤ 4000000) (hg : wA.cell? ⟨g, 0, none⟩ = some (.func (.func 84) #[] #[]))
    (ht : wA.heap[pt]? = some (.cells #[.int .i64 a, .int .i64 c, .int .i64 kb] 32)) (hq : wA.heap[q]? = some (.cells #[.func (.func 89) #[] #[], .func (.func 90) #[] #[]] 122)) (h8 : wA.heap[q8]? = some (.cells #[.int .i64 A.lo, .int .i64 A.hi] 82)) (K : Act → World → Prop) (Q : Exit → Act → World → Prop)
    (hfin : ∀ (s41 s42 s43 s44 s45 s46 s47 s48 s49 s50 s51 s52 s53 s54 s55 s56 s57 s58 s59 s60 s61 : Value) (w3 : World), w3.heap[q8]? = some (.cells #[.int .i64 (A.meet (sizeBack s (s.l[kb].s) s.g)).lo, .int .i64 (A.meet (sizeBack s (s.l[kb].s) s.g)).hi] 82) → Below q8 wA w3 → K ⟨((.pointer (some ⟨p, 0, none⟩))::z1::z2::(.pointer (some ⟨pt, 0, none⟩))::z4::z5::z6::(.pointer (some ⟨q, 0, none⟩))::(.pointer (some ⟨q8, 0, none⟩))::(.int .i64 2)::z10::z11::z12::z13::z14::z15::z16::z17::z18::z19::z20::z21::z22::z23::z24::z25::z26::z27::z28::z29::z30::z31::z32::z33::z34::z35::z36::z37::z38::z39::z40::s41::s42::s43::s44::s45::s46::s47::s48::s49::s50::s51::s52::s53::s54::s55::s56::s57::s58::s59::s60::s61::z62::z63::z64::z65::z66::z67::z68::z69::z70::z71::z72::z73::z74::z75::z76::z77::z78::z79::z80::z81::z82::z83::z84::z85::z86::z87::z88::z89::z90::z91::z92::z93::z94::z95::z96::z97::z98::z99::z100::z101::z102::z103::z104::z105::z106::z107::z108::z109::z110::z111::z112::z113::z114::z115::z116::z117::z118::z119::z120::z121::z122::z123::z124::z125::z126::z127::z128 :: []).toArray, []⟩ w3) :
    Code.wp Try.prog (((Try.f42.body.bind (findReg 9)).getD .skip)) (Exit.then K Q) ⟨((.pointer (some ⟨p, 0, none⟩))::z1::z2::(.pointer (some ⟨pt, 0, none⟩))::z4::z5::z6::(.pointer (some ⟨q, 0, none⟩))::(.pointer (some ⟨q8, 0, none⟩))::(.int .i64 2)::z10::z11::z12::z13::z14::z15::z16::z17::z18::z19::z20::z21::z22::z23::z24::z25::z26::z27::z28::z29::z30::z31::z32::z33::z34::z35::z36::z37::z38::z39::z40::z41::z42::z43::z44::z45::z46::z47::z48::z49::z50::z51::z52::z53::z54::z55::z56::z57::z58::z59::z60::z61::z62::z63::z64::z65::z66::z67::z68::z69::z70::z71::z72::z73::z74::z75::z76::z77::z78::z79::z80::z81::z82::z83::z84::z85::z86::z87::z88::z89::z90::z91::z92::z93::z94::z95::z96::z97::z98::z99::z100::z101::z102::z103::z104::z105::z106::z107::z108::z109::z110::z111::z112::z113::z114::z115::z116::z117::z118::z119::z120::z121::z122::z123::z124::z125::z126::z127::z128 :: []).toArray, []⟩ wA := by
  have HFIN := Lib.hid hfin
  obtain ⟨bf, of, rfl, hbf, hE⟩ := hl kb hk
  have hki : (kb : Int) < s.l.length := by omega
  have h8l := (Array.getElem?_eq_some_iff.1 h8).1
  have S14 := iheld hs.c14 (Nat.le_refl _)
  have TE := iheld (cell_block ht 2) (Nat.le_refl _)
  have G0 := iheld (cell_block hq 0) (Nat.le_refl _)
  have G1 := iheld (cell_block hq 1) (Nat.le_refl _)
  have A0 := iheld (cell_block h8 0) (Nat.le_refl _)
  have A1 := iheld (cell_block h8 1) (Nat.le_refl _)
  have hg2 := iheld hg (Nat.le_refl _)
  have E0 := iheld hE.c0 (Nat.le_refl _)
  have E1 := iheld hE.c1 (Nat.le_refl _)
  have E2 := iheld hE.c2 (Nat.le_refl _)
  have E3 := iheld hE.c3 (Nat.le_refl _)
  have E4 := iheld hE.c4 (Nat.le_refl _)
  have E5 := iheld hE.c5 (Nat.le_refl _)
  clear hfin hl hE ht hq hg
  conv => arg 2; whnf
  refine (wpIn_wide (n := 1)).1 ?_
  refine wpIn_region_Vn (B := [21]) (S := Below wA.heap.size wA) 22 (by kernel_rfl) (by kernel_rfl) (below_drew wA) (fun H0 => ?_)
  generalize wA.drew = w0 at H0 ⊢
  refine wpAnyV_takeD 0 41 (v := ?_) (by kernel_rfl) (by kernel_rfl) (by kernel_rfl) (by kernel_rfl) (fun _ _ _ h => h) (by kernel_rfl) ?_ (by assumption) ?_
  rotate_left
  · intro oi hoi w hSw; (try dsimp only at hSw); simp only [gA, gB, gC, gG] at hoi; subst hoi; go_simp; try with_reducible rfl
  simp only [Act.put, gD, gE, gF]
  refine wpAnyV_takeD 1 42 (v := ?_) (by kernel_rfl) (by kernel_rfl) (by kernel_rfl) (by kernel_rfl) (fun _ _ _ h => h) (by kernel_rfl) ?_ (by assumption) ?_
  rotate_left
  · intro oi hoi w hSw; (try dsimp only at hSw); simp only [gA, gB, gC, gG] at hoi; subst hoi; go_simp; try with_reducible rfl
  simp only [Act.put, gD, gE, gF]
  refine wpAnyV_takeD 2 43 (v := ?_) (by kernel_rfl) (by kernel_rfl) (by kernel_rfl) (by kernel_rfl) (fun _ _ _ h => h) (by kernel_rfl) ?_ (by assumption) ?_
  rotate_left
  · intro oi hoi w hSw; (try dsimp only at hSw); simp only [gA, gB, gC, gG] at hoi; subst hoi; go_simp; try with_reducible rfl
  simp only [Act.put, gD, gE, gF]
  refine wpAnyV_takeD 3 44 (v := ?_) (by kernel_rfl) (by kernel_rfl) (by kernel_rfl) (by kernel_rfl) (fun _ _ _ h => h) (by kernel_rfl) ?_ (by assumption) ?_
  rotate_left
  · intro oi hoi w hSw; (try dsimp only at hSw); simp only [gA, gB, gC, gG] at hoi; subst hoi; go_simp; try with_reducible rfl
  simp only [Act.put, gD, gE, gF]
  refine wpAnyV_takeD 4 45 (v := ?_) (by kernel_rfl) (by kernel_rfl) (by kernel_rfl) (by kernel_rfl) (fun _ _ _ h => h) (by kernel_rfl) ?_ (by assumption) ?_
  rotate_left
  · intro oi hoi w hSw; (try dsimp only at hSw); simp only [gA, gB, gC, gG] at hoi; subst hoi; go_simp; try with_reducible rfl
  simp only [Act.put, gD, gE, gF]
  refine wpAnyV_takeD 5 46 (v := ?_) (by kernel_rfl) (by kernel_rfl) (by kernel_rfl) (by kernel_rfl) (fun _ _ _ h => h) (by kernel_rfl) ?_ (by assumption) ?_
  rotate_left
  · intro oi hoi w hSw; (try dsimp only at hSw); simp only [gA, gB, gC, gG] at hoi; subst hoi; go_simp; try with_reducible rfl
  simp only [Act.put, gD, gE, gF]
  refine wpAnyV_takeD 6 47 (v := ?_) (by kernel_rfl) (by kernel_rfl) (by kernel_rfl) (by kernel_rfl) (fun _ _ _ h => h) (by kernel_rfl) ?_ (by assumption) ?_
  rotate_left
  · intro oi hoi w hSw; (try dsimp only at hSw); simp only [gA, gB, gC, gG] at hoi; subst hoi; go_simp; try with_reducible rfl
  simp only [Act.put, gD, gE, gF]
  refine wpAnyV_takeD 7 48 (v := ?_) (by kernel_rfl) (by kernel_rfl) (by kernel_rfl) (by kernel_rfl) (fun _ _ _ h => h) (by kernel_rfl) ?_ (by assumption) ?_
  rotate_left
  · intro oi hoi w hSw; (try dsimp only at hSw); simp only [gA, gB, gC, gG] at hoi; subst hoi; go_simp; try with_reducible rfl
  simp only [Act.put, gD, gE, gF]
  refine wpAnyV_takeD 8 49 (v := ?_) (by kernel_rfl) (by kernel_rfl) (by kernel_rfl) (by kernel_rfl) (fun _ _ _ h => h) (by kernel_rfl) ?_ (by assumption) ?_
  rotate_left
  · intro oi hoi w hSw; (try dsimp only at hSw); simp only [gA, gB, gC, gG] at hoi; subst hoi; go_simp; try with_reducible rfl
  simp only [Act.put, gD, gE, gF]
  refine wpAnyV_takeD 9 50 (v := ?_) (by kernel_rfl) (by kernel_rfl) (by kernel_rfl) (by kernel_rfl) (fun _ _ _ h => h) (by kernel_rfl) ?_ (by assumption) ?_
  rotate_left
  · intro oi hoi w hSw; (try dsimp only at hSw); simp only [gA, gB, gC, gG] at hoi; subst hoi; go_simp; try with_reducible rfl
  simp only [Act.put, gD, gE, gF]
  refine wpAnyV_takeD 10 51 (v := ?_) (by kernel_rfl) (by kernel_rfl) (by kernel_rfl) (by kernel_rfl) (fun _ _ _ h => h) (by kernel_rfl) ?_ (by assumption) ?_
  rotate_left
  · intro oi hoi w hSw; (try dsimp only at hSw); simp only [gA, gB, gC, gG] at hoi; subst hoi; go_simp; try with_reducible rfl
  simp only [Act.put, gD, gE, gF]
  refine wpAnyV_takeD 11 52 (v := ?_) (by kernel_rfl) (by kernel_rfl) (by kernel_rfl) (by kernel_rfl) (fun _ _ _ h => h) (by kernel_rfl) ?_ (by assumption) ?_
  rotate_left
  · intro oi hoi w hSw; (try dsimp only at hSw); simp only [gA, gB, gC, gG] at hoi; subst hoi; go_simp; try with_reducible rfl
  simp only [Act.put, gD, gE, gF]
  refine wpAnyV_takeD 12 53 (v := ?_) (by kernel_rfl) (by kernel_rfl) (by kernel_rfl) (by kernel_rfl) (fun _ _ _ h => h) (by kernel_rfl) ?_ (by assumption) ?_
  rotate_left
  · intro oi hoi w hSw; (try dsimp only at hSw); simp only [gA, gB, gC, gG] at hoi; subst hoi; go_simp; try with_reducible rfl
  simp only [Act.put, gD, gE, gF]
  refine wpAnyV_takeD 13 54 (v := ?_) (by kernel_rfl) (by kernel_rfl) (by kernel_rfl) (by kernel_rfl) (fun _ _ _ h => h) (by kernel_rfl) ?_ (by assumption) ?_
  rotate_left
  · intro oi hoi w hSw; (try dsimp only at hSw); simp only [gA, gB, gC, gG] at hoi; subst hoi; go_simp; try with_reducible rfl
  simp only [Act.put, gD, gE, gF]
  refine wpAnyV_takeD 14 55 (v := ?_) (by kernel_rfl) (by kernel_rfl) (by kernel_rfl) (by kernel_rfl) (fun _ _ _ h => h) (by kernel_rfl) ?_ (by assumption) ?_
  rotate_left
  · intro oi hoi w hSw; (try dsimp only at hSw); simp only [gA, gB, gC, gG] at hoi; subst hoi; go_simp; try with_reducible rfl
  simp only [Act.put, gD, gE, gF]
  refine wpAnyV_takeD 15 56 (v := ?_) (by kernel_rfl) (by kernel_rfl) (by kernel_rfl) (by kernel_rfl) (fun _ _ _ h => h) (by kernel_rfl) ?_ (by assumption) ?_
  rotate_left
  · intro oi hoi w hSw; (try dsimp only at hSw); simp only [gA, gB, gC, gG] at hoi; subst hoi; go_simp; try with_reducible rfl
  simp only [Act.put, gD, gE, gF]
  refine wpAnyV_takeD 16 57 (v := ?_) (by kernel_rfl) (by kernel_rfl) (by kernel_rfl) (by kernel_rfl) (fun _ _ _ h => h) (by kernel_rfl) ?_ (by assumption) ?_
  rotate_left
  · intro oi hoi w hSw; (try dsimp only at hSw); simp only [gA, gB, gC, gG] at hoi; subst hoi; go_simp; try with_reducible rfl
  simp only [Act.put, gD, gE, gF]
  refine wpAnyV_one 17 (by kernel_rfl) (by kernel_rfl) ?_
  intro o ho K hK
  simp only [gA, gB, gC, gG] at ho
  subst ho
  go_simp
  refine ⟨trivial, CallsIn.mono (callsIn_wide.2 (itr_get6 s.l[kb] _)) ?_⟩
  rintro e w1 ⟨rfl, hb⟩
  have H1 := H0.trans (hb.mono H0.size)
  refine hK _ _ (.inr H1) (fun _ => ?_)
  clear hK K hb
  try simp only [Act.put, gD, gE, gF]
  refine wpAnyV_one 18 (by kernel_rfl) (by kernel_rfl) ?_
  intro o ho K hK
  simp only [gA, gB, gC, gG] at ho
  subst ho
  go_simp
  refine ⟨trivial, CallsIn.mono (callsIn_wide.2 (iof_any (s.l[kb].s) _)) ?_⟩
  rintro e w2 ⟨rfl, hb⟩
  have H2 := H1.trans (hb.mono H1.size)
  refine hK _ _ (.inr H2) (fun _ => ?_)
  clear hK K hb
  try simp only [Act.put, gD, gE, gF]
  refine wpAnyV_one 19 (by kernel_rfl) (by kernel_rfl) ?_
  intro o ho K hK
  simp only [gA, gB, gC, gG] at ho
  subst ho
  go_simp
  refine ⟨trivial, CallsIn.mono (callsIn_wide.2 (itr_moved7_2 p fc _ s (s.l[kb].s) _ (hs.later H2) hx hd hlim)) ?_⟩
  rintro e w3 ⟨rfl, hb⟩
  have H3 := H2.trans (hb.mono H2.size)
  refine hK _ _ (.inr H3) (fun _ => ?_)
  clear hK K hb
  try simp only [Act.put, gD, gE, gF]
  refine wpAnyV_one 20 (by kernel_rfl) (by kernel_rfl) ?_
  intro o ho K hK
  simp only [gA, gB, gC, gG] at ho
  subst ho
  go_simp
  refine ⟨trivial, CallsIn.mono (callsIn_wide.2 (imeet_any A (sizeBack s (s.l[kb].s) s.g) _)) ?_⟩
  rintro e w4 ⟨rfl, hb⟩
  have H4 := H3.trans (hb.mono H3.size)
  refine hK _ _ (.inr H4) (fun _ => ?_)
  clear hK K hb
  try simp only [Act.put, gD, gE, gF]
  have z8 := (H4.block q8 h8l).trans h8
  have k0 := cell_block z8 0
  have k1 := cell_block z8 1
  have f0 := frozen_block z8 0
  have f1 := frozen_block z8 1
  try simp only [gA, gB, gC] at k0 k1
  refine wpAnyV_one 21 (by kernel_rfl) (by kernel_rfl) ?_
  intro o ho K hK
  simp only [gA, gB, gC, gG] at ho
  subst ho
  go_simp
  have zz := block_set (block_set z8 0 (.int .i64 (A.meet (sizeBack s (s.l[kb].s) s.g)).lo)) 1 (.int .i64 (A.meet (sizeBack s (s.l[kb].s) s.g)).hi)
  simp only [gD, gE, gF] at zz
  have hF := ((H4.mono (Nat.le_of_lt h8l)).setCell (p := ⟨q8, 0, none⟩) (Nat.le_refl _) (.int .i64 (A.meet (sizeBack s (s.l[kb].s) s.g)).lo)).setCell (p := ⟨q8, 1, none⟩) (Nat.le_refl _) (.int .i64 (A.meet (sizeBack s (s.l[kb].s) s.g)).hi)
  refine hK _ _ (.inl (by kernel_rfl)) (fun _ => ?_)
  clear hK K
  try simp only [Act.put, gD, gE, gF]
  refine wpAnyV_done (by kernel_rfl) ?_ _
  dsimp only [onNormal]
  exact HFIN.out _ _ _ _ _ _ _ _ _ _ _ _ _ _ _ _ _ _ _ _ _ _ zz hF
end Go.Proofs.Ytacioedolmaofaa
