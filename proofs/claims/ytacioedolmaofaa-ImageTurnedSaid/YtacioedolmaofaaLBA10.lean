/- Regions of star. -/
import Derived.Test.YtacioedolmaofaaLBA9
namespace Go.Proofs.Ytacioedolmaofaa
open Go.RowKit Go.Shelf
set_option maxHeartbeats 6400000
set_option maxRecDepth 100000
set_option linter.unusedSimpArgs false
set_option linter.unusedVariables false

theorem star_reg4_0 (p pt q g fc ka : Nat) (fa : Option Addr) (s : ISheet) (b c : Int) (wA : World) {z1 z2 z4 z5 z6 z9 z10 z11 z12 z13 z14 z15 z16 z17 z18 z19 z33 z34 z35 z36 z37 z38 z39 z40 z41 z42 z43 z44 z45 z46 z47 z48 z49 z50 z51 z52 z53 z54 z55 z56 z57 z58 z59 z60 z61 z62 z63 z64 z65 z66 z67 z68 z69 z70 z71 z72 z73 z74 z75 z76 z77 z78 z79 z80 z81 z82 z83 z84 z85 z86 z87 z88 z89 z90 z91 z92 z93 z94 z95 z96 z97 z98 z99 z100 z101 z102 z103 z104 z105 z106 z107 z108 z109 z110 z111 z112 z113 z114 z115 z116 z117 z118 z119 z120 z121 z122 z123 z124 z125 z126 z127 z128 : Value} {z8 z20 z21 z22 z23 z24 z25 z26 z27 z28 z29 z30 z31 z32 : Value} (hs : ShAt wA p s fa fc) (hl : ImSl wA fa s.l) (hk : ka < s.l.length)
    (ht : wA.heap[pt]? = some (.cells #[.int .i64 ka, .int .i64 b, .int .i64 c] 32)) (hq : wA.heap[q]? = some (.cells #[.func (.func 85) #[] #[], .func (.func 86) #[] #[.pointer (some ⟨g, 0, none⟩)]] 122)) (K : Act → World → Prop) (Q : Exit → Act → World → Prop)
    (hfin : ∀ (s20 s21 s22 s23 s24 s25 s26 s27 s28 s29 s30 s31 s32 : Value) (q8 : Nat) (w3 : World), w3.heap[q8]? = some (.cells #[.int .i64 (s.l[ka].x).lo, .int .i64 (s.l[ka].x).hi] 82) → wA.heap.size ≤ q8 → Below wA.heap.size wA w3 → K ⟨((.pointer (some ⟨p, 0, none⟩))::z1::z2::(.pointer (some ⟨pt, 0, none⟩))::z4::z5::z6::(.pointer (some ⟨q, 0, none⟩))::(.pointer (some ⟨q8, 0, none⟩))::z9::z10::z11::z12::z13::z14::z15::z16::z17::z18::z19::s20::s21::s22::s23::s24::s25::s26::s27::s28::s29::s30::s31::s32::z33::z34::z35::z36::z37::z38::z39::z40::z41::z42::z43::z44::z45::z46::z47::z48::z49::z50::z51::z52::z53::z54::z55::z56::z57::z58::z59::z60::z61::z62::z63::z64::z65::z66::z67::z68::z69::z70::z71::z72::z73::z74::z75::z76::z77::z78::z79::z80::z81::z82::z83::z84::z85::z86::z87::z88::z89::z90::z91::z92::z93::z94::z95::z96::z97::z98::z99::z100::z101::z102::z103::z104::z105::z106::z107::z108::z109::z110::z111::z112::z113::z114::z115::z116::z117::z118::z119::z120::z121::z122::z123::z124::z125::z126::z127::z128 :: []).toArray, []⟩ w3) :
    Code.wp Try.prog (((Try.f42.body.bind (findReg 4)).getD .skip)) (Exit.then K Q) ⟨((.pointer (some ⟨p, 0, none⟩))::z1::z2::(.pointer (some ⟨pt, 0, none⟩))::z4::z5::z6::(.pointer (some ⟨q, 0, none⟩))::z8::z9::z10::z11::z12::z13::z14::z15::z16::z17::z18::z19::z20::z21::z22::z23::z24::z25::z26::z27::z28::z29::z30::z31::z32::z33::z34::z35::z36::z37::z38::z39::z40::z41::z42::z43::z44::z45::z46::z47::z48::z49::z50::z51::z52::z53::z54::z55::z56::z57::z58::z59::z60::z61::z62::z63::z64::z65::z66::z67::z68::z69::z70::z71::z72::z73::z74::z75::z76::z77::z78::z79::z80::z81::z82::z83::z84::z85::z86::z87::z88::z89::z90::z91::z92::z93::z94::z95::z96::z97::z98::z99::z100::z101::z102::z103::z104::z105::z106::z107::z108::z109::z110::z111::z112::z113::z114::z115::z116::z117::z118::z119::z120::z121::z122::z123::z124::z125::z126::z127::z128 :: []).toArray, []⟩ wA := by
  have HFIN := Lib.hid hfin
  obtain ⟨bf, of, rfl, hbf, hE⟩ := hl ka hk
  have hki : (ka : Int) < s.l.length := by omega
  have S14 := iheld hs.c14 (Nat.le_refl _)
  have T0 := iheld (cell_block ht 0) (Nat.le_refl _)
  have G0 := iheld (cell_block hq 0) (Nat.le_refl _)
  try simp only [List.getElem?_toArray, List.getElem?_cons_zero] at T0 G0
  have E0 := iheld hE.c0 (Nat.le_refl _)
  have E1 := iheld hE.c1 (Nat.le_refl _)
  have E2 := iheld hE.c2 (Nat.le_refl _)
  have E3 := iheld hE.c3 (Nat.le_refl _)
  have E4 := iheld hE.c4 (Nat.le_refl _)
  have E5 := iheld hE.c5 (Nat.le_refl _)
  clear hfin hl hE hs ht hq
  conv => arg 2; whnf
  refine (wpIn_wide (n := 1)).1 ?_
  refine wpIn_region_Wn (S := Below wA.heap.size wA) 15 (by kernel_rfl) (by kernel_rfl) (below_drew wA) (fun H0 => ?_)
  generalize wA.drew = w0 at H0 ⊢
  refine wTk 0 20 ?_ ?_ ?_
  rotate_left
  · intro o h w k; (try dsimp only at k); simp only [gA, gB, gC, gG] at h; subst h; go_simp; try with_reducible rfl
  simp only [Act.put, gD, gE, gF]
  refine wTk 1 21 ?_ ?_ ?_
  rotate_left
  · intro o h w k; (try dsimp only at k); simp only [gA, gB, gC, gG] at h; subst h; go_simp; try with_reducible rfl
  simp only [Act.put, gD, gE, gF]
  refine wTk 2 22 ?_ ?_ ?_
  rotate_left
  · intro o h w k; (try dsimp only at k); simp only [gA, gB, gC, gG] at h; subst h; go_simp; try with_reducible rfl
  simp only [Act.put, gD, gE, gF]
  refine wTk 3 23 ?_ ?_ ?_
  rotate_left
  · intro o h w k; (try dsimp only at k); simp only [gA, gB, gC, gG] at h; subst h; go_simp; try with_reducible rfl
  simp only [Act.put, gD, gE, gF]
  refine wTk 4 24 ?_ ?_ ?_
  rotate_left
  · intro o h w k; (try dsimp only at k); simp only [gA, gB, gC, gG] at h; subst h; go_simp; try with_reducible rfl
  simp only [Act.put, gD, gE, gF]
  refine wTk 5 25 ?_ ?_ ?_
  rotate_left
  · intro o h w k; (try dsimp only at k); simp only [gA, gB, gC, gG] at h; subst h; go_simp; try with_reducible rfl
  simp only [Act.put, gD, gE, gF]
  refine wTk 6 26 ?_ ?_ ?_
  rotate_left
  · intro o h w k; (try dsimp only at k); simp only [gA, gB, gC, gG] at h; subst h; go_simp; try with_reducible rfl
  simp only [Act.put, gD, gE, gF]
  refine wTk 7 27 ?_ ?_ ?_
  rotate_left
  · intro o h w k; (try dsimp only at k); simp only [gA, gB, gC, gG] at h; subst h; go_simp; try with_reducible rfl
  simp only [Act.put, gD, gE, gF]
  refine wTk 8 28 ?_ ?_ ?_
  rotate_left
  · intro o h w k; (try dsimp only at k); simp only [gA, gB, gC, gG] at h; subst h; go_simp; try with_reducible rfl
  simp only [Act.put, gD, gE, gF]
  refine wTk 9 29 ?_ ?_ ?_
  rotate_left
  · intro o h w k; (try dsimp only at k); simp only [gA, gB, gC, gG] at h; subst h; go_simp; try with_reducible rfl
  simp only [Act.put, gD, gE, gF]
  refine wTk 10 30 ?_ ?_ ?_
  rotate_left
  · intro o h w k; (try dsimp only at k); simp only [gA, gB, gC, gG] at h; subst h; go_simp; try with_reducible rfl
  simp only [Act.put, gD, gE, gF]
  refine wpAnyW_two 11 13 (by kernel_rfl) ⟨by kernel_rfl, by kernel_rfl⟩ ?_ ?_
  ·
    intro o ho K hK
    simp only [gA, gB, gC, gG] at ho
    subst ho
    go_simp
    refine ⟨trivial, CallsIn.mono (callsIn_wide.2 (itr_get2 s.l[ka] _)) ?_⟩
    rintro e w1 ⟨rfl, hb⟩
    have H1 := H0.trans (hb.mono H0.size)
    refine hK _ _ H1 (fun _ => ?_)
    clear hK K
    try simp only [Act.put, gD, gE, gF]
    refine wpAnyW_two 12 13 (by kernel_rfl) ⟨by kernel_rfl, by kernel_rfl⟩ ?_ ?_
    ·
      intro o ho K hK
      simp only [gA, gB, gC, gG] at ho
      subst ho
      go_simp
      refine ⟨trivial, CallsIn.mono (callsIn_wide.2 (iof_any (s.l[ka].x) _)) ?_⟩
      rintro e w2 ⟨rfl, hb⟩
      have H2 := H1.trans (hb.mono H1.size)
      refine hK _ _ H2 (fun _ => ?_)
      clear hK K
      try simp only [Act.put, gD, gE, gF]
      refine wpAnyW_one 13 (by kernel_rfl) (by kernel_rfl) ?_
      intro o ho K hK
      simp only [gA, gB, gC, gG] at ho
      subst ho
      go_simp
      have hb := below_alloc w2 (.cells #[.int .i64 0, .int .i64 0] 82)
      have z8_3 := obj_new w2 (.cells #[.int .i64 0, .int .i64 0] 82)
      have H3 := H2.trans (hb.mono H2.size)
      have hq8 : wA.heap.size ≤ w2.heap.size := H2.size
      refine hK _ _ H3 (fun _ => ?_)
      clear hK K
      try simp only [Act.put, gD, gE, gF]
      obtain ⟨q8, hq8e⟩ : ∃ q, w2.heap.size = q := ⟨_, rfl⟩
      rw [hq8e] at z8_3 hq8
      try rw [hq8e]
      clear hq8e
      generalize (w2.alloc (.cells #[.int .i64 0, .int .i64 0] 82)) = w3 at z8_3 H3 hb ⊢
      have k0 := cell_block z8_3 0
      have k1 := cell_block z8_3 1
      have f0 := frozen_block z8_3 0
      have f1 := frozen_block z8_3 1
      simp only [gA, gB, gC] at k0 k1
      refine wpAnyW_one 14 (by kernel_rfl) (by kernel_rfl) ?_
      intro o ho K hK
      simp only [gA, gB, gC, gG] at ho
      subst ho
      go_simp
      have zz := block_set (block_set z8_3 0 (.int .i64 (s.l[ka].x).lo)) 1 (.int .i64 (s.l[ka].x).hi)
      simp only [gD, gE, gF] at zz
      refine hK _ _ ((H3.setCell (p := ⟨q8, 0, none⟩) hq8 (.int .i64 (s.l[ka].x).lo)).setCell (p := ⟨q8, 1, none⟩) hq8 (.int .i64 (s.l[ka].x).hi)) (fun hF => ?_)
      clear hK K
      try simp only [Act.put, gD, gE, gF]
      refine wpAnyW_done (by kernel_rfl) ?_ _
      dsimp only [onNormal]
      exact HFIN.out _ _ _ _ _ _ _ _ _ _ _ _ _ q8 _ zz hq8 hF
    ·
      intro o ho K hK
      simp only [gA, gB, gC, gG] at ho
      subst ho
      go_simp
      have hb := below_alloc w1 (.cells #[.int .i64 0, .int .i64 0] 82)
      have z8_2 := obj_new w1 (.cells #[.int .i64 0, .int .i64 0] 82)
      have H2 := H1.trans (hb.mono H1.size)
      have hq8 : wA.heap.size ≤ w1.heap.size := H1.size
      refine hK _ _ H2 (fun _ => ?_)
      clear hK K
      try simp only [Act.put, gD, gE, gF]
      obtain ⟨q8, hq8e⟩ : ∃ q, w1.heap.size = q := ⟨_, rfl⟩
      rw [hq8e] at z8_2 hq8
      try rw [hq8e]
      clear hq8e
      generalize (w1.alloc (.cells #[.int .i64 0, .int .i64 0] 82)) = w2 at z8_2 H2 hb ⊢
      refine wpAnyW_one 12 (by kernel_rfl) (by kernel_rfl) ?_
      intro o ho K hK
      simp only [gA, gB, gC, gG] at ho
      subst ho
      go_simp
      refine ⟨trivial, CallsIn.mono (callsIn_wide.2 (iof_any (s.l[ka].x) _)) ?_⟩
      rintro e w3 ⟨rfl, hb⟩
      have H3 := H2.trans (hb.mono H2.size)
      have z8_3 := obj_later hb z8_2
      refine hK _ _ H3 (fun _ => ?_)
      clear hK K
      try simp only [Act.put, gD, gE, gF]
      have k0 := cell_block z8_3 0
      have k1 := cell_block z8_3 1
      have f0 := frozen_block z8_3 0
      have f1 := frozen_block z8_3 1
      simp only [gA, gB, gC] at k0 k1
      refine wpAnyW_one 14 (by kernel_rfl) (by kernel_rfl) ?_
      intro o ho K hK
      simp only [gA, gB, gC, gG] at ho
      subst ho
      go_simp
      have zz := block_set (block_set z8_3 0 (.int .i64 (s.l[ka].x).lo)) 1 (.int .i64 (s.l[ka].x).hi)
      simp only [gD, gE, gF] at zz
      refine hK _ _ ((H3.setCell (p := ⟨q8, 0, none⟩) hq8 (.int .i64 (s.l[ka].x).lo)).setCell (p := ⟨q8, 1, none⟩) hq8 (.int .i64 (s.l[ka].x).hi)) (fun hF => ?_)
      clear hK K
      try simp only [Act.put, gD, gE, gF]
      refine wpAnyW_done (by kernel_rfl) ?_ _
      dsimp only [onNormal]
      exact HFIN.out _ _ _ _ _ _ _ _ _ _ _ _ _ q8 _ zz hq8 hF
  ·
    intro o ho K hK
    simp only [gA, gB, gC, gG] at ho
    subst ho
    go_simp
    have hb := below_alloc w0 (.cells #[.int .i64 0, .int .i64 0] 82)
    have z8_1 := obj_new w0 (.cells #[.int .i64 0, .int .i64 0] 82)
    have H1 := H0.trans (hb.mono H0.size)
    have hq8 : wA.heap.size ≤ w0.heap.size := H0.size
    refine hK _ _ H1 (fun _ => ?_)
    clear hK K
    try simp only [Act.put, gD, gE, gF]
    obtain ⟨q8, hq8e⟩ : ∃ q, w0.heap.size = q := ⟨_, rfl⟩
    rw [hq8e] at z8_1 hq8
    try rw [hq8e]
    clear hq8e
    generalize (w0.alloc (.cells #[.int .i64 0, .int .i64 0] 82)) = w1 at z8_1 H1 hb ⊢
    refine wpAnyW_one 11 (by kernel_rfl) (by kernel_rfl) ?_
    intro o ho K hK
    simp only [gA, gB, gC, gG] at ho
    subst ho
    go_simp
    refine ⟨trivial, CallsIn.mono (callsIn_wide.2 (itr_get2 s.l[ka] _)) ?_⟩
    rintro e w2 ⟨rfl, hb⟩
    have H2 := H1.trans (hb.mono H1.size)
    have z8_2 := obj_later hb z8_1
    refine hK _ _ H2 (fun _ => ?_)
    clear hK K
    try simp only [Act.put, gD, gE, gF]
    refine wpAnyW_one 12 (by kernel_rfl) (by kernel_rfl) ?_
    intro o ho K hK
    simp only [gA, gB, gC, gG] at ho
    subst ho
    go_simp
    refine ⟨trivial, CallsIn.mono (callsIn_wide.2 (iof_any (s.l[ka].x) _)) ?_⟩
    rintro e w3 ⟨rfl, hb⟩
    have H3 := H2.trans (hb.mono H2.size)
    have z8_3 := obj_later hb z8_2
    refine hK _ _ H3 (fun _ => ?_)
    clear hK K
    try simp only [Act.put, gD, gE, gF]
    have k0 := cell_block z8_3 0
    have k1 := cell_block z8_3 1
    have f0 := frozen_block z8_3 0
    have f1 := frozen_block z8_3 1
    simp only [gA, gB, gC] at k0 k1
    refine wpAnyW_one 14 (by kernel_rfl) (by kernel_rfl) ?_
    intro o ho K hK
    simp only [gA, gB, gC, gG] at ho
    subst ho
    go_simp
    have zz := block_set (block_set z8_3 0 (.int .i64 (s.l[ka].x).lo)) 1 (.int .i64 (s.l[ka].x).hi)
    simp only [gD, gE, gF] at zz
    refine hK _ _ ((H3.setCell (p := ⟨q8, 0, none⟩) hq8 (.int .i64 (s.l[ka].x).lo)).setCell (p := ⟨q8, 1, none⟩) hq8 (.int .i64 (s.l[ka].x).hi)) (fun hF => ?_)
    clear hK K
    try simp only [Act.put, gD, gE, gF]
    refine wpAnyW_done (by kernel_rfl) ?_ _
    dsimp only [onNormal]
    exact HFIN.out _ _ _ _ _ _ _ _ _ _ _ _ _ q8 _ zz hq8 hF

theorem star_reg4_1 (p pt q g fc ka : Nat) (fa : Option Addr) (s : ISheet) (b c : Int) (wA : World) {z1 z2 z4 z5 z6 z9 z10 z11 z12 z13 z14 z15 z16 z17 z18 z19 z33 z34 z35 z36 z37 z38 z39 z40 z41 z42 z43 z44 z45 z46 z47 z48 z49 z50 z51 z52 z53 z54 z55 z56 z57 z58 z59 z60 z61 z62 z63 z64 z65 z66 z67 z68 z69 z70 z71 z72 z73 z74 z75 z76 z77 z78 z79 z80 z81 z82 z83 z84 z85 z86 z87 z88 z89 z90 z91 z92 z93 z94 z95 z96 z97 z98 z99 z100 z101 z102 z103 z104 z105 z106 z107 z108 z109 z110 z111 z112 z113 z114 z115 z116 z117 z118 z119 z120 z121 z122 z123 z124 z125 z126 z127 z128 : Value} {z8 z20 z21 z22 z23 z24 z25 z26 z27 z28 z29 z30 z31 z32 : Value} (hs : ShAt wA p s fa fc) (hl : ImSl wA fa s.l) (hk : ka < s.l.length)
    (ht : wA.heap[pt]? = some (.cells #[.int .i64 ka, .int .i64 b, .int .i64 c] 32)) (hq : wA.heap[q]? = some (.cells #[.func (.func 87) #[] #[], .func (.func 88) #[] #[.pointer (some ⟨g, 0, none⟩)]] 122)) (K : Act → World → Prop) (Q : Exit → Act → World → Prop)
    (hfin : ∀ (s20 s21 s22 s23 s24 s25 s26 s27 s28 s29 s30 s31 s32 : Value) (q8 : Nat) (w3 : World), w3.heap[q8]? = some (.cells #[.int .i64 (s.l[ka].y).lo, .int .i64 (s.l[ka].y).hi] 82) → wA.heap.size ≤ q8 → Below wA.heap.size wA w3 → K ⟨((.pointer (some ⟨p, 0, none⟩))::z1::z2::(.pointer (some ⟨pt, 0, none⟩))::z4::z5::z6::(.pointer (some ⟨q, 0, none⟩))::(.pointer (some ⟨q8, 0, none⟩))::z9::z10::z11::z12::z13::z14::z15::z16::z17::z18::z19::s20::s21::s22::s23::s24::s25::s26::s27::s28::s29::s30::s31::s32::z33::z34::z35::z36::z37::z38::z39::z40::z41::z42::z43::z44::z45::z46::z47::z48::z49::z50::z51::z52::z53::z54::z55::z56::z57::z58::z59::z60::z61::z62::z63::z64::z65::z66::z67::z68::z69::z70::z71::z72::z73::z74::z75::z76::z77::z78::z79::z80::z81::z82::z83::z84::z85::z86::z87::z88::z89::z90::z91::z92::z93::z94::z95::z96::z97::z98::z99::z100::z101::z102::z103::z104::z105::z106::z107::z108::z109::z110::z111::z112::z113::z114::z115::z116::z117::z118::z119::z120::z121::z122::z123::z124::z125::z126::z127::z128 :: []).toArray, []⟩ w3) :
    Code.wp Try.prog (((Try.f42.body.bind (findReg 4)).getD .skip)) (Exit.then K Q) ⟨((.pointer (some ⟨p, 0, none⟩))::z1::z2::(.pointer (some ⟨pt, 0, none⟩))::z4::z5::z6::(.pointer (some ⟨q, 0, none⟩))::z8::z9::z10::z11::z12::z13::z14::z15::z16::z17::z18::z19::z20::z21::z22::z23::z24::z25::z26::z27::z28::z29::z30::z31::z32::z33::z34::z35::z36::z37::z38::z39::z40::z41::z42::z43::z44::z45::z46::z47::z48::z49::z50::z51::z52::z53::z54::z55::z56::z57::z58::z59::z60::z61::z62::z63::z64::z65::z66::z67::z68::z69::z70::z71::z72::z73::z74::z75::z76::z77::z78::z79::z80::z81::z82::z83::z84::z85::z86::z87::z88::z89::z90::z91::z92::z93::z94::z95::z96::z97::z98::z99::z100::z101::z102::z103::z104::z105::z106::z107::z108::z109::z110::z111::z112::z113::z114::z115::z116::z117::z118::z119::z120::z121::z122::z123::z124::z125::z126::z127::z128 :: []).toArray, []⟩ wA := by
  have HFIN := Lib.hid hfin
  obtain ⟨bf, of, rfl, hbf, hE⟩ := hl ka hk
  have hki : (ka : Int) < s.l.length := by omega
  have S14 := iheld hs.c14 (Nat.le_refl _)
  have T0 := iheld (cell_block ht 0) (Nat.le_refl _)
  have G0 := iheld (cell_block hq 0) (Nat.le_refl _)
  try simp only [List.getElem?_toArray, List.getElem?_cons_zero] at T0 G0
  have E0 := iheld hE.c0 (Nat.le_refl _)
  have E1 := iheld hE.c1 (Nat.le_refl _)
  have E2 := iheld hE.c2 (Nat.le_refl _)
  have E3 := iheld hE.c3 (Nat.le_refl _)
  have E4 := iheld hE.c4 (Nat.le_refl _)
  have E5 := iheld hE.c5 (Nat.le_refl _)
  clear hfin hl hE hs ht hq
  conv => arg 2; whnf
  refine (wpIn_wide (n := 1)).1 ?_
  refine wpIn_region_Wn (S := Below wA.heap.size wA) 15 (by kernel_rfl) (by kernel_rfl) (below_drew wA) (fun H0 => ?_)
  generalize wA.drew = w0 at H0 ⊢
  refine wTk 0 20 ?_ ?_ ?_
  rotate_left
  · intro o h w k; (try dsimp only at k); simp only [gA, gB, gC, gG] at h; subst h; go_simp; try with_reducible rfl
  simp only [Act.put, gD, gE, gF]
  refine wTk 1 21 ?_ ?_ ?_
  rotate_left
  · intro o h w k; (try dsimp only at k); simp only [gA, gB, gC, gG] at h; subst h; go_simp; try with_reducible rfl
  simp only [Act.put, gD, gE, gF]
  refine wTk 2 22 ?_ ?_ ?_
  rotate_left
  · intro o h w k; (try dsimp only at k); simp only [gA, gB, gC, gG] at h; subst h; go_simp; try with_reducible rfl
  simp only [Act.put, gD, gE, gF]
  refine wTk 3 23 ?_ ?_ ?_
  rotate_left
  · intro o h w k; (try dsimp only at k); simp only [gA, gB, gC, gG] at h; subst h; go_simp; try with_reducible rfl
  simp only [Act.put, gD, gE, gF]
  refine wTk 4 24 ?_ ?_ ?_
  rotate_left
  · intro o h w k; (try dsimp only at k); simp only [gA, gB, gC, gG] at h; subst h; go_simp; try with_reducible rfl
  simp only [Act.put, gD, gE, gF]
  refine wTk 5 25 ?_ ?_ ?_
  rotate_left
  · intro o h w k; (try dsimp only at k); simp only [gA, gB, gC, gG] at h; subst h; go_simp; try with_reducible rfl
  simp only [Act.put, gD, gE, gF]
  refine wTk 6 26 ?_ ?_ ?_
  rotate_left
  · intro o h w k; (try dsimp only at k); simp only [gA, gB, gC, gG] at h; subst h; go_simp; try with_reducible rfl
  simp only [Act.put, gD, gE, gF]
  refine wTk 7 27 ?_ ?_ ?_
  rotate_left
  · intro o h w k; (try dsimp only at k); simp only [gA, gB, gC, gG] at h; subst h; go_simp; try with_reducible rfl
  simp only [Act.put, gD, gE, gF]
  refine wTk 8 28 ?_ ?_ ?_
  rotate_left
  · intro o h w k; (try dsimp only at k); simp only [gA, gB, gC, gG] at h; subst h; go_simp; try with_reducible rfl
  simp only [Act.put, gD, gE, gF]
  refine wTk 9 29 ?_ ?_ ?_
  rotate_left
  · intro o h w k; (try dsimp only at k); simp only [gA, gB, gC, gG] at h; subst h; go_simp; try with_reducible rfl
  simp only [Act.put, gD, gE, gF]
  refine wTk 10 30 ?_ ?_ ?_
  rotate_left
  · intro o h w k; (try dsimp only at k); simp only [gA, gB, gC, gG] at h; subst h; go_simp; try with_reducible rfl
  simp only [Act.put, gD, gE, gF]
  refine wpAnyW_two 11 13 (by kernel_rfl) ⟨by kernel_rfl, by kernel_rfl⟩ ?_ ?_
  ·
    intro o ho K hK
    simp only [gA, gB, gC, gG] at ho
    subst ho
    go_simp
    refine ⟨trivial, CallsIn.mono (callsIn_wide.2 (itr_get4 s.l[ka] _)) ?_⟩
    rintro e w1 ⟨rfl, hb⟩
    have H1 := H0.trans (hb.mono H0.size)
    refine hK _ _ H1 (fun _ => ?_)
    clear hK K
    try simp only [Act.put, gD, gE, gF]
    refine wpAnyW_two 12 13 (by kernel_rfl) ⟨by kernel_rfl, by kernel_rfl⟩ ?_ ?_
    ·
      intro o ho K hK
      simp only [gA, gB, gC, gG] at ho
      subst ho
      go_simp
      refine ⟨trivial, CallsIn.mono (callsIn_wide.2 (iof_any (s.l[ka].y) _)) ?_⟩
      rintro e w2 ⟨rfl, hb⟩
      have H2 := H1.trans (hb.mono H1.size)
      refine hK _ _ H2 (fun _ => ?_)
      clear hK K
      try simp only [Act.put, gD, gE, gF]
      refine wpAnyW_one 13 (by kernel_rfl) (by kernel_rfl) ?_
      intro o ho K hK
      simp only [gA, gB, gC, gG] at ho
      subst ho
      go_simp
      have hb := below_alloc w2 (.cells #[.int .i64 0, .int .i64 0] 82)
      have z8_3 := obj_new w2 (.cells #[.int .i64 0, .int .i64 0] 82)
      have H3 := H2.trans (hb.mono H2.size)
      have hq8 : wA.heap.size ≤ w2.heap.size := H2.size
      refine hK _ _ H3 (fun _ => ?_)
      clear hK K
      try simp only [Act.put, gD, gE, gF]
      obtain ⟨q8, hq8e⟩ : ∃ q, w2.heap.size = q := ⟨_, rfl⟩
      rw [hq8e] at z8_3 hq8
      try rw [hq8e]
      clear hq8e
      generalize (w2.alloc (.cells #[.int .i64 0, .int .i64 0] 82)) = w3 at z8_3 H3 hb ⊢
      have k0 := cell_block z8_3 0
      have k1 := cell_block z8_3 1
      have f0 := frozen_block z8_3 0
      have f1 := frozen_block z8_3 1
      simp only [gA, gB, gC] at k0 k1
      refine wpAnyW_one 14 (by kernel_rfl) (by kernel_rfl) ?_
      intro o ho K hK
      simp only [gA, gB, gC, gG] at ho
      subst ho
      go_simp
      have zz := block_set (block_set z8_3 0 (.int .i64 (s.l[ka].y).lo)) 1 (.int .i64 (s.l[ka].y).hi)
      simp only [gD, gE, gF] at zz
      refine hK _ _ ((H3.setCell (p := ⟨q8, 0, none⟩) hq8 (.int .i64 (s.l[ka].y).lo)).setCell (p := ⟨q8, 1, none⟩) hq8 (.int .i64 (s.l[ka].y).hi)) (fun hF => ?_)
      clear hK K
      try simp only [Act.put, gD, gE, gF]
      refine wpAnyW_done (by kernel_rfl) ?_ _
      dsimp only [onNormal]
      exact HFIN.out _ _ _ _ _ _ _ _ _ _ _ _ _ q8 _ zz hq8 hF
    ·
      intro o ho K hK
      simp only [gA, gB, gC, gG] at ho
      subst ho
      go_simp
      have hb := below_alloc w1 (.cells #[.int .i64 0, .int .i64 0] 82)
      have z8_2 := obj_new w1 (.cells #[.int .i64 0, .int .i64 0] 82)
      have H2 := H1.trans (hb.mono H1.size)
      have hq8 : wA.heap.size ≤ w1.heap.size := H1.size
      refine hK _ _ H2 (fun _ => ?_)
      clear hK K
      try simp only [Act.put, gD, gE, gF]
      obtain ⟨q8, hq8e⟩ : ∃ q, w1.heap.size = q := ⟨_, rfl⟩
      rw [hq8e] at z8_2 hq8
      try rw [hq8e]
      clear hq8e
      generalize (w1.alloc (.cells #[.int .i64 0, .int .i64 0] 82)) = w2 at z8_2 H2 hb ⊢
      refine wpAnyW_one 12 (by kernel_rfl) (by kernel_rfl) ?_
      intro o ho K hK
      simp only [gA, gB, gC, gG] at ho
      subst ho
      go_simp
      refine ⟨trivial, CallsIn.mono (callsIn_wide.2 (iof_any (s.l[ka].y) _)) ?_⟩
      rintro e w3 ⟨rfl, hb⟩
      have H3 := H2.trans (hb.mono H2.size)
      have z8_3 := obj_later hb z8_2
      refine hK _ _ H3 (fun _ => ?_)
      clear hK K
      try simp only [Act.put, gD, gE, gF]
      have k0 := cell_block z8_3 0
      have k1 := cell_block z8_3 1
      have f0 := frozen_block z8_3 0
      have f1 := frozen_block z8_3 1
      simp only [gA, gB, gC] at k0 k1
      refine wpAnyW_one 14 (by kernel_rfl) (by kernel_rfl) ?_
      intro o ho K hK
      simp only [gA, gB, gC, gG] at ho
      subst ho
      go_simp
      have zz := block_set (block_set z8_3 0 (.int .i64 (s.l[ka].y).lo)) 1 (.int .i64 (s.l[ka].y).hi)
      simp only [gD, gE, gF] at zz
      refine hK _ _ ((H3.setCell (p := ⟨q8, 0, none⟩) hq8 (.int .i64 (s.l[ka].y).lo)).setCell (p := ⟨q8, 1, none⟩) hq8 (.int .i64 (s.l[ka].y).hi)) (fun hF => ?_)
      clear hK K
      try simp only [Act.put, gD, gE, gF]
      refine wpAnyW_done (by kernel_rfl) ?_ _
      dsimp only [onNormal]
      exact HFIN.out _ _ _ _ _ _ _ _ _ _ _ _ _ q8 _ zz hq8 hF
  ·
    intro o ho K hK
    simp only [gA, gB, gC, gG] at ho
    subst ho
    go_simp
    have hb := below_alloc w0 (.cells #[.int .i64 0, .int .i64 0] 82)
    have z8_1 := obj_new w0 (.cells #[.int .i64 0, .int .i64 0] 82)
    have H1 := H0.trans (hb.mono H0.size)
    have hq8 : wA.heap.size ≤ w0.heap.size := H0.size
    refine hK _ _ H1 (fun _ => ?_)
    clear hK K
    try simp only [Act.put, gD, gE, gF]
    obtain ⟨q8, hq8e⟩ : ∃ q, w0.heap.size = q := ⟨_, rfl⟩
    rw [hq8e] at z8_1 hq8
    try rw [hq8e]
    clear hq8e
    generalize (w0.alloc (.cells #[.int .i64 0, .int .i64 0] 82)) = w1 at z8_1 H1 hb ⊢
    refine wpAnyW_one 11 (by kernel_rfl) (by kernel_rfl) ?_
    intro o ho K hK
    simp only [gA, gB, gC, gG] at ho
    subst ho
    go_simp
    refine ⟨trivial, CallsIn.mono (callsIn_wide.2 (itr_get4 s.l[ka] _)) ?_⟩
    rintro e w2 ⟨rfl, hb⟩
    have H2 := H1.trans (hb.mono H1.size)
    have z8_2 := obj_later hb z8_1
    refine hK _ _ H2 (fun _ => ?_)
    clear hK K
    try simp only [Act.put, gD, gE, gF]
    refine wpAnyW_one 12 (by kernel_rfl) (by kernel_rfl) ?_
    intro o ho K hK
    simp only [gA, gB, gC, gG] at ho
    subst ho
    go_simp
    refine ⟨trivial, CallsIn.mono (callsIn_wide.2 (iof_any (s.l[ka].y) _)) ?_⟩
    rintro e w3 ⟨rfl, hb⟩
    have H3 := H2.trans (hb.mono H2.size)
    have z8_3 := obj_later hb z8_2
    refine hK _ _ H3 (fun _ => ?_)
    clear hK K
    try simp only [Act.put, gD, gE, gF]
    have k0 := cell_block z8_3 0
    have k1 := cell_block z8_3 1
    have f0 := frozen_block z8_3 0
    have f1 := frozen_block z8_3 1
    simp only [gA, gB, gC] at k0 k1
    refine wpAnyW_one 14 (by kernel_rfl) (by kernel_rfl) ?_
    intro o ho K hK
    simp only [gA, gB, gC, gG] at ho
    subst ho
    go_simp
    have zz := block_set (block_set z8_3 0 (.int .i64 (s.l[ka].y).lo)) 1 (.int .i64 (s.l[ka].y).hi)
    simp only [gD, gE, gF] at zz
    refine hK _ _ ((H3.setCell (p := ⟨q8, 0, none⟩) hq8 (.int .i64 (s.l[ka].y).lo)).setCell (p := ⟨q8, 1, none⟩) hq8 (.int .i64 (s.l[ka].y).hi)) (fun hF => ?_)
    clear hK K
    try simp only [Act.put, gD, gE, gF]
    refine wpAnyW_done (by kernel_rfl) ?_ _
    dsimp only [onNormal]
    exact HFIN.out _ _ _ _ _ _ _ _ _ _ _ _ _ q8 _ zz hq8 hF

theorem star_reg4_2 (p pt q g fc ka : Nat) (fa : Option Addr) (s : ISheet) (b c : Int) (wA : World) {z1 z2 z4 z5 z6 z9 z10 z11 z12 z13 z14 z15 z16 z17 z18 z19 z33 z34 z35 z36 z37 z38 z39 z40 z41 z42 z43 z44 z45 z46 z47 z48 z49 z50 z51 z52 z53 z54 z55 z56 z57 z58 z59 z60 z61 z62 z63 z64 z65 z66 z67 z68 z69 z70 z71 z72 z73 z74 z75 z76 z77 z78 z79 z80 z81 z82 z83 z84 z85 z86 z87 z88 z89 z90 z91 z92 z93 z94 z95 z96 z97 z98 z99 z100 z101 z102 z103 z104 z105 z106 z107 z108 z109 z110 z111 z112 z113 z114 z115 z116 z117 z118 z119 z120 z121 z122 z123 z124 z125 z126 z127 z128 : Value} {z8 z20 z21 z22 z23 z24 z25 z26 z27 z28 z29 z30 z31 z32 : Value} (hs : ShAt wA p s fa fc) (hl : ImSl wA fa s.l) (hk : ka < s.l.length)
    (ht : wA.heap[pt]? = some (.cells #[.int .i64 ka, .int .i64 b, .int .i64 c] 32)) (hq : wA.heap[q]? = some (.cells #[.func (.func 89) #[] #[], .func (.func 90) #[] #[]] 122)) (K : Act → World → Prop) (Q : Exit → Act → World → Prop)
    (hfin : ∀ (s20 s21 s22 s23 s24 s25 s26 s27 s28 s29 s30 s31 s32 : Value) (q8 : Nat) (w3 : World), w3.heap[q8]? = some (.cells #[.int .i64 (s.l[ka].s).lo, .int .i64 (s.l[ka].s).hi] 82) → wA.heap.size ≤ q8 → Below wA.heap.size wA w3 → K ⟨((.pointer (some ⟨p, 0, none⟩))::z1::z2::(.pointer (some ⟨pt, 0, none⟩))::z4::z5::z6::(.pointer (some ⟨q, 0, none⟩))::(.pointer (some ⟨q8, 0, none⟩))::z9::z10::z11::z12::z13::z14::z15::z16::z17::z18::z19::s20::s21::s22::s23::s24::s25::s26::s27::s28::s29::s30::s31::s32::z33::z34::z35::z36::z37::z38::z39::z40::z41::z42::z43::z44::z45::z46::z47::z48::z49::z50::z51::z52::z53::z54::z55::z56::z57::z58::z59::z60::z61::z62::z63::z64::z65::z66::z67::z68::z69::z70::z71::z72::z73::z74::z75::z76::z77::z78::z79::z80::z81::z82::z83::z84::z85::z86::z87::z88::z89::z90::z91::z92::z93::z94::z95::z96::z97::z98::z99::z100::z101::z102::z103::z104::z105::z106::z107::z108::z109::z110::z111::z112::z113::z114::z115::z116::z117::z118::z119::z120::z121::z122::z123::z124::z125::z126::z127::z128 :: []).toArray, []⟩ w3) :
    Code.wp Try.prog (((Try.f42.body.bind (findReg 4)).getD .skip)) (Exit.then K Q) ⟨((.pointer (some ⟨p, 0, none⟩))::z1::z2::(.pointer (some ⟨pt, 0, none⟩))::z4::z5::z6::(.pointer (some ⟨q, 0, none⟩))::z8::z9::z10::z11::z12::z13::z14::z15::z16::z17::z18::z19::z20::z21::z22::z23::z24::z25::z26::z27::z28::z29::z30::z31::z32::z33::z34::z35::z36::z37::z38::z39::z40::z41::z42::z43::z44::z45::z46::z47::z48::z49::z50::z51::z52::z53::z54::z55::z56::z57::z58::z59::z60::z61::z62::z63::z64::z65::z66::z67::z68::z69::z70::z71::z72::z73::z74::z75::z76::z77::z78::z79::z80::z81::z82::z83::z84::z85::z86::z87::z88::z89::z90::z91::z92::z93::z94::z95::z96::z97::z98::z99::z100::z101::z102::z103::z104::z105::z106::z107::z108::z109::z110::z111::z112::z113::z114::z115::z116::z117::z118::z119::z120::z121::z122::z123::z124::z125::z126::z127::z128 :: []).toArray, []⟩ wA := by
  have HFIN := Lib.hid hfin
  obtain ⟨bf, of, rfl, hbf, hE⟩ := hl ka hk
  have hki : (ka : Int) < s.l.length := by omega
  have S14 := iheld hs.c14 (Nat.le_refl _)
  have T0 := iheld (cell_block ht 0) (Nat.le_refl _)
  have G0 := iheld (cell_block hq 0) (Nat.le_refl _)
  try simp only [List.getElem?_toArray, List.getElem?_cons_zero] at T0 G0
  have E0 := iheld hE.c0 (Nat.le_refl _)
  have E1 := iheld hE.c1 (Nat.le_refl _)
  have E2 := iheld hE.c2 (Nat.le_refl _)
  have E3 := iheld hE.c3 (Nat.le_refl _)
  have E4 := iheld hE.c4 (Nat.le_refl _)
  have E5 := iheld hE.c5 (Nat.le_refl _)
  clear hfin hl hE hs ht hq
  conv => arg 2; whnf
  refine (wpIn_wide (n := 1)).1 ?_
  refine wpIn_region_Wn (S := Below wA.heap.size wA) 15 (by kernel_rfl) (by kernel_rfl) (below_drew wA) (fun H0 => ?_)
  generalize wA.drew = w0 at H0 ⊢
  refine wTk 0 20 ?_ ?_ ?_
  rotate_left
  · intro o h w k; (try dsimp only at k); simp only [gA, gB, gC, gG] at h; subst h; go_simp; try with_reducible rfl
  simp only [Act.put, gD, gE, gF]
  refine wTk 1 21 ?_ ?_ ?_
  rotate_left
  · intro o h w k; (try dsimp only at k); simp only [gA, gB, gC, gG] at h; subst h; go_simp; try with_reducible rfl
  simp only [Act.put, gD, gE, gF]
  refine wTk 2 22 ?_ ?_ ?_
  rotate_left
  · intro o h w k; (try dsimp only at k); simp only [gA, gB, gC, gG] at h; subst h; go_simp; try with_reducible rfl
  simp only [Act.put, gD, gE, gF]
  refine wTk 3 23 ?_ ?_ ?_
  rotate_left
  · intro o h w k; (try dsimp only at k); simp only [gA, gB, gC, gG] at h; subst h; go_simp; try with_reducible rfl
  simp only [Act.put, gD, gE, gF]
  refine wTk 4 24 ?_ ?_ ?_
  rotate_left
  · intro o h w k; (try dsimp only at k); simp only [gA, gB, gC, gG] at h; subst h; go_simp; try with_reducible rfl
  simp only [Act.put, gD, gE, gF]
  refine wTk 5 25 ?_ ?_ ?_
  rotate_left
  · intro o h w k; (try dsimp only at k); simp only [gA, gB, gC, gG] at h; subst h; go_simp; try with_reducible rfl
  simp only [Act.put, gD, gE, gF]
  refine wTk 6 26 ?_ ?_ ?_
  rotate_left
  · intro o h w k; (try dsimp only at k); simp only [gA, gB, gC, gG] at h; subst h; go_simp; try with_reducible rfl
  simp only [Act.put, gD, gE, gF]
  refine wTk 7 27 ?_ ?_ ?_
  rotate_left
  · intro o h w k; (try dsimp only at k); simp only [gA, gB, gC, gG] at h; subst h; go_simp; try with_reducible rfl
  simp only [Act.put, gD, gE, gF]
  refine wTk 8 28 ?_ ?_ ?_
  rotate_left
  · intro o h w k; (try dsimp only at k); simp only [gA, gB, gC, gG] at h; subst h; go_simp; try with_reducible rfl
  simp only [Act.put, gD, gE, gF]
  refine wTk 9 29 ?_ ?_ ?_
  rotate_left
  · intro o h w k; (try dsimp only at k); simp only [gA, gB, gC, gG] at h; subst h; go_simp; try with_reducible rfl
  simp only [Act.put, gD, gE, gF]
  refine wTk 10 30 ?_ ?_ ?_
  rotate_left
  · intro o h w k; (try dsimp only at k); simp only [gA, gB, gC, gG] at h; subst h; go_simp; try with_reducible rfl
  simp only [Act.put, gD, gE, gF]
  refine wpAnyW_two 11 13 (by kernel_rfl) ⟨by kernel_rfl, by kernel_rfl⟩ ?_ ?_
  ·
    intro o ho K hK
    simp only [gA, gB, gC, gG] at ho
    subst ho
    go_simp
    refine ⟨trivial, CallsIn.mono (callsIn_wide.2 (itr_get6 s.l[ka] _)) ?_⟩
    rintro e w1 ⟨rfl, hb⟩
    have H1 := H0.trans (hb.mono H0.size)
    refine hK _ _ H1 (fun _ => ?_)
    clear hK K
    try simp only [Act.put, gD, gE, gF]
    refine wpAnyW_two 12 13 (by kernel_rfl) ⟨by kernel_rfl, by kernel_rfl⟩ ?_ ?_
    ·
      intro o ho K hK
      simp only [gA, gB, gC, gG] at ho
      subst ho
      go_simp
      refine ⟨trivial, CallsIn.mono (callsIn_wide.2 (iof_any (s.l[ka].s) _)) ?_⟩
      rintro e w2 ⟨rfl, hb⟩
      have H2 := H1.trans (hb.mono H1.size)
      refine hK _ _ H2 (fun _ => ?_)
      clear hK K
      try simp only [Act.put, gD, gE, gF]
      refine wpAnyW_one 13 (by kernel_rfl) (by kernel_rfl) ?_
      intro o ho K hK
      simp only [gA, gB, gC, gG] at ho
      subst ho
      go_simp
      have hb := below_alloc w2 (.cells #[.int .i64 0, .int .i64 0] 82)
      have z8_3 := obj_new w2 (.cells #[.int .i64 0, .int .i64 0] 82)
      have H3 := H2.trans (hb.mono H2.size)
      have hq8 : wA.heap.size ≤ w2.heap.size := H2.size
      refine hK _ _ H3 (fun _ => ?_)
      clear hK K
      try simp only [Act.put, gD, gE, gF]
      obtain ⟨q8, hq8e⟩ : ∃ q, w2.heap.size = q := ⟨_, rfl⟩
      rw [hq8e] at z8_3 hq8
      try rw [hq8e]
      clear hq8e
      generalize (w2.alloc (.cells #[.int .i64 0, .int .i64 0] 82)) = w3 at z8_3 H3 hb ⊢
      have k0 := cell_block z8_3 0
      have k1 := cell_block z8_3 1
      have f0 := frozen_block z8_3 0
      have f1 := frozen_block z8_3 1
      simp only [gA, gB, gC] at k0 k1
      refine wpAnyW_one 14 (by kernel_rfl) (by kernel_rfl) ?_
      intro o ho K hK
      simp only [gA, gB, gC, gG] at ho
      subst ho
      go_simp
      have zz := block_set (block_set z8_3 0 (.int .i64 (s.l[ka].s).lo)) 1 (.int .i64 (s.l[ka].s).hi)
      simp only [gD, gE, gF] at zz
      refine hK _ _ ((H3.setCell (p := ⟨q8, 0, none⟩) hq8 (.int .i64 (s.l[ka].s).lo)).setCell (p := ⟨q8, 1, none⟩) hq8 (.int .i64 (s.l[ka].s).hi)) (fun hF => ?_)
      clear hK K
      try simp only [Act.put, gD, gE, gF]
      refine wpAnyW_done (by kernel_rfl) ?_ _
      dsimp only [onNormal]
      exact HFIN.out _ _ _ _ _ _ _ _ _ _ _ _ _ q8 _ zz hq8 hF
    ·
      intro o ho K hK
      simp only [gA, gB, gC, gG] at ho
      subst ho
      go_simp
      have hb := below_alloc w1 (.cells #[.int .i64 0, .int .i64 0] 82)
      have z8_2 := obj_new w1 (.cells #[.int .i64 0, .int .i64 0] 82)
      have H2 := H1.trans (hb.mono H1.size)
      have hq8 : wA.heap.size ≤ w1.heap.size := H1.size
      refine hK _ _ H2 (fun _ => ?_)
      clear hK K
      try simp only [Act.put, gD, gE, gF]
      obtain ⟨q8, hq8e⟩ : ∃ q, w1.heap.size = q := ⟨_, rfl⟩
      rw [hq8e] at z8_2 hq8
      try rw [hq8e]
      clear hq8e
      generalize (w1.alloc (.cells #[.int .i64 0, .int .i64 0] 82)) = w2 at z8_2 H2 hb ⊢
      refine wpAnyW_one 12 (by kernel_rfl) (by kernel_rfl) ?_
      intro o ho K hK
      simp only [gA, gB, gC, gG] at ho
      subst ho
      go_simp
      refine ⟨trivial, CallsIn.mono (callsIn_wide.2 (iof_any (s.l[ka].s) _)) ?_⟩
      rintro e w3 ⟨rfl, hb⟩
      have H3 := H2.trans (hb.mono H2.size)
      have z8_3 := obj_later hb z8_2
      refine hK _ _ H3 (fun _ => ?_)
      clear hK K
      try simp only [Act.put, gD, gE, gF]
      have k0 := cell_block z8_3 0
      have k1 := cell_block z8_3 1
      have f0 := frozen_block z8_3 0
      have f1 := frozen_block z8_3 1
      simp only [gA, gB, gC] at k0 k1
      refine wpAnyW_one 14 (by kernel_rfl) (by kernel_rfl) ?_
      intro o ho K hK
      simp only [gA, gB, gC, gG] at ho
      subst ho
      go_simp
      have zz := block_set (block_set z8_3 0 (.int .i64 (s.l[ka].s).lo)) 1 (.int .i64 (s.l[ka].s).hi)
      simp only [gD, gE, gF] at zz
      refine hK _ _ ((H3.setCell (p := ⟨q8, 0, none⟩) hq8 (.int .i64 (s.l[ka].s).lo)).setCell (p := ⟨q8, 1, none⟩) hq8 (.int .i64 (s.l[ka].s).hi)) (fun hF => ?_)
      clear hK K
      try simp only [Act.put, gD, gE, gF]
      refine wpAnyW_done (by kernel_rfl) ?_ _
      dsimp only [onNormal]
      exact HFIN.out _ _ _ _ _ _ _ _ _ _ _ _ _ q8 _ zz hq8 hF
  ·
    intro o ho K hK
    simp only [gA, gB, gC, gG] at ho
    subst ho
    go_simp
    have hb := below_alloc w0 (.cells #[.int .i64 0, .int .i64 0] 82)
    have z8_1 := obj_new w0 (.cells #[.int .i64 0, .int .i64 0] 82)
    have H1 := H0.trans (hb.mono H0.size)
    have hq8 : wA.heap.size ≤ w0.heap.size := H0.size
    refine hK _ _ H1 (fun _ => ?_)
    clear hK K
    try simp only [Act.put, gD, gE, gF]
    obtain ⟨q8, hq8e⟩ : ∃ q, w0.heap.size = q := ⟨_, rfl⟩
    rw [hq8e] at z8_1 hq8
    try rw [hq8e]
    clear hq8e
    generalize (w0.alloc (.cells #[.int .i64 0, .int .i64 0] 82)) = w1 at z8_1 H1 hb ⊢
    refine wpAnyW_one 11 (by kernel_rfl) (by kernel_rfl) ?_
    intro o ho K hK
    simp only [gA, gB, gC, gG] at ho
    subst ho
    go_simp
    refine ⟨trivial, CallsIn.mono (callsIn_wide.2 (itr_get6 s.l[ka] _)) ?_⟩
    rintro e w2 ⟨rfl, hb⟩
    have H2 := H1.trans (hb.mono H1.size)
    have z8_2 := obj_later hb z8_1
    refine hK _ _ H2 (fun _ => ?_)
    clear hK K
    try simp only [Act.put, gD, gE, gF]
    refine wpAnyW_one 12 (by kernel_rfl) (by kernel_rfl) ?_
    intro o ho K hK
    simp only [gA, gB, gC, gG] at ho
    subst ho
    go_simp
    refine ⟨trivial, CallsIn.mono (callsIn_wide.2 (iof_any (s.l[ka].s) _)) ?_⟩
    rintro e w3 ⟨rfl, hb⟩
    have H3 := H2.trans (hb.mono H2.size)
    have z8_3 := obj_later hb z8_2
    refine hK _ _ H3 (fun _ => ?_)
    clear hK K
    try simp only [Act.put, gD, gE, gF]
    have k0 := cell_block z8_3 0
    have k1 := cell_block z8_3 1
    have f0 := frozen_block z8_3 0
    have f1 := frozen_block z8_3 1
    simp only [gA, gB, gC] at k0 k1
    refine wpAnyW_one 14 (by kernel_rfl) (by kernel_rfl) ?_
    intro o ho K hK
    simp only [gA, gB, gC, gG] at ho
    subst ho
    go_simp
    have zz := block_set (block_set z8_3 0 (.int .i64 (s.l[ka].s).lo)) 1 (.int .i64 (s.l[ka].s).hi)
    simp only [gD, gE, gF] at zz
    refine hK _ _ ((H3.setCell (p := ⟨q8, 0, none⟩) hq8 (.int .i64 (s.l[ka].s).lo)).setCell (p := ⟨q8, 1, none⟩) hq8 (.int .i64 (s.l[ka].s).hi)) (fun hF => ?_)
    clear hK K
    try simp only [Act.put, gD, gE, gF]
    refine wpAnyW_done (by kernel_rfl) ?_ _
    dsimp only [onNormal]
    exact HFIN.out _ _ _ _ _ _ _ _ _ _ _ _ _ q8 _ zz hq8 hF
end Go.Proofs.Ytacioedolmaofaa
