/- ImageTrail, walked: the trails with an image less, and with another one. ImageTrail, walked: its loop. ImageTrail, walked: its end. -/
import Derived.Test.YtacioedolmaofaaLBT3
namespace Go.Proofs.Ytacioedolmaofaa
open Go.RowKit Go.Shelf
set_option maxHeartbeats 12800000
set_option maxRecDepth 100000
set_option linter.unusedSimpArgs false
set_option linter.unusedVariables false

theorem ltr_reg25 (q : Nat) (t : ITr) (wA : World) {z0 z1 z2 z3 z4 z5 z6 z7 z8 z9 z10 z12 z13 z14 z15 z16 z17 z18 z21 z22 z23 z24 z25 z26 z27 z28 z29 z30 z31 z32 z33 z34 z35 z36 z37 z38 z39 z40 z41 z42 z43 z44 z45 z46 z47 z48 z49 z50 z51 z52 z53 z54 z55 z56 z57 z58 z59 z60 z61 z62 z63 z64 z65 z66 z67 z68 z69 z70 z71 z72 z73 z74 z75 z76 z77 z78 z79 z80 z81 z82 z83 z84 z85 z86 z87 z88 z89 z90 z91 z92 z93 z94 z95 z96 z97 z98 z99 z100 z101 z102 z103 z104 z105 z106 z107 z108 z109 z110 z111 z112 z113 z114 z115 z116 z117 z118 z119 z120 z121 z122 z123 z124 z125 z126 z127 z128 z129 z132 z133 z134 z135 z136 z137 z138 z139 z140 z141 z142 z143 z144 z145 z146 z147 z148 z149 z150 z151 z152 z153 z154 z155 z156 z157 z158 z159 z160 z161 z162 z163 z164 z165 z166 z167 z168 z169 z170 z171 : Value} {z19 z20 z130 z131 : Value} (gt : wA.heap[q]? = some (.cells #[.int .i64 t.a, .int .i64 t.b, .int .i64 t.c] 32)) (K : Act → World → Prop) (Q : Exit → Act → World → Prop)
    (hfin : ∀ (s130 s131 : Value) (qu qv : Nat) (w3 : World), (w3.heap[qu]? = some (.cells #[.int .i64 t.a, .int .i64 t.b, .int .i64 t.c] 32) ∧ w3.heap[qv]? = some (.cells #[.int .i64 t.a, .int .i64 t.b, .int .i64 t.c] 32) ∧ qu ≠ qv ∧ wA.heap.size ≤ qu ∧ wA.heap.size ≤ qv ∧ Below wA.heap.size wA w3) → K ⟨(z0::z1::z2::z3::z4::z5::z6::z7::z8::z9::z10::(.pointer (some ⟨q, 0, none⟩))::z12::z13::z14::z15::z16::z17::z18::(.pointer (some ⟨qu, 0, none⟩))::(.pointer (some ⟨qv, 0, none⟩))::z21::z22::z23::z24::z25::z26::z27::z28::z29::z30::z31::z32::z33::z34::z35::z36::z37::z38::z39::z40::z41::z42::z43::z44::z45::z46::z47::z48::z49::z50::z51::z52::z53::z54::z55::z56::z57::z58::z59::z60::z61::z62::z63::z64::z65::z66::z67::z68::z69::z70::z71::z72::z73::z74::z75::z76::z77::z78::z79::z80::z81::z82::z83::z84::z85::z86::z87::z88::z89::z90::z91::z92::z93::z94::z95::z96::z97::z98::z99::z100::z101::z102::z103::z104::z105::z106::z107::z108::z109::z110::z111::z112::z113::z114::z115::z116::z117::z118::z119::z120::z121::z122::z123::z124::z125::z126::z127::z128::z129::s130::s131::z132::z133::z134::z135::z136::z137::z138::z139::z140::z141::z142::z143::z144::z145::z146::z147::z148::z149::z150::z151::z152::z153::z154::z155::z156::z157::z158::z159::z160::z161::z162::z163::z164::z165::z166::z167::z168::z169::z170::z171 :: []).toArray, []⟩ w3) :
    Code.wp Try.prog ((Try.f6.body.bind (findReg 25)).getD .skip) (Exit.then K Q) ⟨(z0::z1::z2::z3::z4::z5::z6::z7::z8::z9::z10::(.pointer (some ⟨q, 0, none⟩))::z12::z13::z14::z15::z16::z17::z18::z19::z20::z21::z22::z23::z24::z25::z26::z27::z28::z29::z30::z31::z32::z33::z34::z35::z36::z37::z38::z39::z40::z41::z42::z43::z44::z45::z46::z47::z48::z49::z50::z51::z52::z53::z54::z55::z56::z57::z58::z59::z60::z61::z62::z63::z64::z65::z66::z67::z68::z69::z70::z71::z72::z73::z74::z75::z76::z77::z78::z79::z80::z81::z82::z83::z84::z85::z86::z87::z88::z89::z90::z91::z92::z93::z94::z95::z96::z97::z98::z99::z100::z101::z102::z103::z104::z105::z106::z107::z108::z109::z110::z111::z112::z113::z114::z115::z116::z117::z118::z119::z120::z121::z122::z123::z124::z125::z126::z127::z128::z129::z130::z131::z132::z133::z134::z135::z136::z137::z138::z139::z140::z141::z142::z143::z144::z145::z146::z147::z148::z149::z150::z151::z152::z153::z154::z155::z156::z157::z158::z159::z160::z161::z162::z163::z164::z165::z166::z167::z168::z169::z170::z171 :: []).toArray, []⟩ wA := by
  have HFIN := Lib.hid hfin
  clear hfin
  have c0 := cell_block gt 0
  have c1 := cell_block gt 1
  have c2 := cell_block gt 2
  simp only [gA, gB, gC] at c0 c1 c2
  have k0 := iheld c0 (Nat.le_refl _)
  have k1 := iheld c1 (Nat.le_refl _)
  have k2 := iheld c2 (Nat.le_refl _)
  clear c0 c1 c2 gt
  conv => arg 2; whnf
  refine (wpIn_wide (n := 1)).1 ?_
  refine wpIn_region_Wn (S := Below wA.heap.size wA) 6 (by kernel_rfl) (by kernel_rfl) (below_drew wA) (fun hHeld => ?_)
  refine wTk 0 130 ?_ ?_ ?_
  rotate_left
  · intro o h w k; (try dsimp only at k); simp only [gA, gB, gC, gG] at h; subst h; go_simp; try with_reducible rfl
  simp only [Act.put, gD, gE, gF]
  refine wTk 1 131 ?_ ?_ ?_
  rotate_left
  · intro o h w k; (try dsimp only at k); simp only [gA, gB, gC, gG] at h; subst h; go_simp; try with_reducible rfl
  simp only [Act.put, gD, gE, gF]
  clear k0 k1 k2 hHeld
  have H0 := below_drew wA
  have hs0 : wA.heap.size ≤ wA.drew.heap.size := Nat.le_refl _
  generalize wA.drew = wD at H0 hs0 ⊢
  refine wpAnyW_two 2 3 (by kernel_rfl) ⟨by kernel_rfl, by kernel_rfl⟩ ?_ ?_
  · intro o ho K hK
    simp only [gA, gB, gC, gG] at ho
    subst ho
    go_simp
    have A1 := obj_new wD (.cells #[.int .i64 0, .int .i64 0, .int .i64 0] 32)
    have b1 := below_alloc wD (.cells #[.int .i64 0, .int .i64 0, .int .i64 0] 32)
    have H1 := H0.trans (b1.mono H0.size)
    have HZ := Lib.hid (World.size_alloc wD (.cells #[.int .i64 0, .int .i64 0, .int .i64 0] 32))
    refine hK _ _ H1 (fun _ => ?_)
    clear hK K
    try simp only [Act.put, gD, gE, gF]
    generalize wD.alloc (.cells #[.int .i64 0, .int .i64 0, .int .i64 0] 32) = w1 at A1 b1 H1 HZ ⊢
    obtain ⟨qu, equ⟩ : ∃ q, wD.heap.size = q := ⟨_, rfl⟩
    rw [equ] at A1 HZ hs0 ⊢
    refine wpAnyW_one 3 (by kernel_rfl) (by kernel_rfl) ?_
    intro o ho K hK
    simp only [gA, gB, gC, gG] at ho
    subst ho
    go_simp
    have A2 := obj_new w1 (.cells #[.int .i64 0, .int .i64 0, .int .i64 0] 32)
    have b2 := below_alloc w1 (.cells #[.int .i64 0, .int .i64 0, .int .i64 0] 32)
    have H2 := H1.trans (b2.mono H1.size)
    replace A1 := obj_later b2 A1
    refine hK _ _ H2 (fun _ => ?_)
    clear hK K
    try simp only [Act.put, gD, gE, gF]
    generalize w1.alloc (.cells #[.int .i64 0, .int .i64 0, .int .i64 0] 32) = w2 at A1 A2 b2 H2 ⊢
    obtain ⟨qv, eqv⟩ : ∃ q, w1.heap.size = q := ⟨_, rfl⟩
    rw [eqv] at A2 HZ ⊢
    have hz := HZ.out
    have hne : qu ≠ qv := by omega
    have h9 : wA.heap.size ≤ qu := by omega
    have h10 : wA.heap.size ≤ qv := by omega
    clear b1 b2 equ eqv hz HZ H1
    refine wpAnyW_one 4 (by kernel_rfl) (by kernel_rfl) ?_
    have c0 := cell_block A1 0
    have f0 := frozen_block A1 0
    have c1 := cell_block A1 1
    have f1 := frozen_block A1 1
    have c2 := cell_block A1 2
    have f2 := frozen_block A1 2
    simp only [gA, gB, gC] at c0 c1 c2
    intro o ho K hK
    simp only [gA, gB, gC, gG] at ho
    subst ho
    go_simp
    have zz3 := three_same (.int .i64 t.a) (.int .i64 t.b) (.int .i64 t.c) A1
    have st3 : Steps (fun j => j = qu) w2 (((w2.setCell ⟨qu, 0, none⟩ (.int .i64 t.a)).setCell ⟨qu, 1, none⟩ (.int .i64 t.b)).setCell ⟨qu, 2, none⟩ (.int .i64 t.c)) := ((Steps.setCell (own := fun j => j = qu) w2 (p := ⟨qu, 0, none⟩) rfl (.int .i64 t.a)).trans (Steps.setCell (own := fun j => j = qu) _ (p := ⟨qu, 1, none⟩) rfl (.int .i64 t.b)) (fun _ _ h => h)).trans (Steps.setCell (own := fun j => j = qu) _ (p := ⟨qu, 2, none⟩) rfl (.int .i64 t.c)) (fun _ _ h => h)
    generalize (((w2.setCell ⟨qu, 0, none⟩ (.int .i64 t.a)).setCell ⟨qu, 1, none⟩ (.int .i64 t.b)).setCell ⟨qu, 2, none⟩ (.int .i64 t.c)) = v3 at zz3 st3 ⊢
    clear c0 c1 c2 f0 f1 f2
    have H3 := H2.trans (st3.below (B := wA.heap.size) H2.size (fun k _ h => by omega))
    have B10 := st3.obj (k := qv) (by omega) A2
    refine hK _ _ H3 (fun _ => ?_)
    clear hK K
    try simp only [Act.put, gD, gE, gF]
    clear A1 A2 st3 H2
    refine wpAnyW_one 5 (by kernel_rfl) (by kernel_rfl) ?_
    have c0 := cell_block B10 0
    have f0 := frozen_block B10 0
    have c1 := cell_block B10 1
    have f1 := frozen_block B10 1
    have c2 := cell_block B10 2
    have f2 := frozen_block B10 2
    simp only [gA, gB, gC] at c0 c1 c2
    intro o ho K hK
    simp only [gA, gB, gC, gG] at ho
    subst ho
    go_simp
    have zz4 := three_same (.int .i64 t.a) (.int .i64 t.b) (.int .i64 t.c) B10
    have st4 : Steps (fun j => j = qv) v3 (((v3.setCell ⟨qv, 0, none⟩ (.int .i64 t.a)).setCell ⟨qv, 1, none⟩ (.int .i64 t.b)).setCell ⟨qv, 2, none⟩ (.int .i64 t.c)) := ((Steps.setCell (own := fun j => j = qv) v3 (p := ⟨qv, 0, none⟩) rfl (.int .i64 t.a)).trans (Steps.setCell (own := fun j => j = qv) _ (p := ⟨qv, 1, none⟩) rfl (.int .i64 t.b)) (fun _ _ h => h)).trans (Steps.setCell (own := fun j => j = qv) _ (p := ⟨qv, 2, none⟩) rfl (.int .i64 t.c)) (fun _ _ h => h)
    generalize (((v3.setCell ⟨qv, 0, none⟩ (.int .i64 t.a)).setCell ⟨qv, 1, none⟩ (.int .i64 t.b)).setCell ⟨qv, 2, none⟩ (.int .i64 t.c)) = v4 at zz4 st4 ⊢
    clear c0 c1 c2 f0 f1 f2
    have H4 := H3.trans (st4.below (B := wA.heap.size) H3.size (fun k _ h => by omega))
    have B9 := st4.obj (k := qu) (by omega) zz3
    refine hK _ _ H4 (fun _ => ?_)
    clear hK K
    try simp only [Act.put, gD, gE, gF]
    refine wpAnyW_done (by kernel_rfl) ?_ _
    dsimp only [onNormal]
    exact HFIN.out _ _ qu qv v4 ⟨B9, zz4, hne, h9, h10, H4⟩
  · intro o ho K hK
    simp only [gA, gB, gC, gG] at ho
    subst ho
    go_simp
    have A1 := obj_new wD (.cells #[.int .i64 0, .int .i64 0, .int .i64 0] 32)
    have b1 := below_alloc wD (.cells #[.int .i64 0, .int .i64 0, .int .i64 0] 32)
    have H1 := H0.trans (b1.mono H0.size)
    have HZ := Lib.hid (World.size_alloc wD (.cells #[.int .i64 0, .int .i64 0, .int .i64 0] 32))
    refine hK _ _ H1 (fun _ => ?_)
    clear hK K
    try simp only [Act.put, gD, gE, gF]
    generalize wD.alloc (.cells #[.int .i64 0, .int .i64 0, .int .i64 0] 32) = w1 at A1 b1 H1 HZ ⊢
    obtain ⟨qv, eqv⟩ : ∃ q, wD.heap.size = q := ⟨_, rfl⟩
    rw [eqv] at A1 HZ hs0 ⊢
    refine wpAnyW_one 2 (by kernel_rfl) (by kernel_rfl) ?_
    intro o ho K hK
    simp only [gA, gB, gC, gG] at ho
    subst ho
    go_simp
    have A2 := obj_new w1 (.cells #[.int .i64 0, .int .i64 0, .int .i64 0] 32)
    have b2 := below_alloc w1 (.cells #[.int .i64 0, .int .i64 0, .int .i64 0] 32)
    have H2 := H1.trans (b2.mono H1.size)
    replace A1 := obj_later b2 A1
    refine hK _ _ H2 (fun _ => ?_)
    clear hK K
    try simp only [Act.put, gD, gE, gF]
    generalize w1.alloc (.cells #[.int .i64 0, .int .i64 0, .int .i64 0] 32) = w2 at A1 A2 b2 H2 ⊢
    obtain ⟨qu, equ⟩ : ∃ q, w1.heap.size = q := ⟨_, rfl⟩
    rw [equ] at A2 HZ ⊢
    have hz := HZ.out
    have hne : qu ≠ qv := by omega
    have h9 : wA.heap.size ≤ qu := by omega
    have h10 : wA.heap.size ≤ qv := by omega
    clear b1 b2 eqv equ hz HZ H1
    refine wpAnyW_one 4 (by kernel_rfl) (by kernel_rfl) ?_
    have c0 := cell_block A2 0
    have f0 := frozen_block A2 0
    have c1 := cell_block A2 1
    have f1 := frozen_block A2 1
    have c2 := cell_block A2 2
    have f2 := frozen_block A2 2
    simp only [gA, gB, gC] at c0 c1 c2
    intro o ho K hK
    simp only [gA, gB, gC, gG] at ho
    subst ho
    go_simp
    have zz3 := three_same (.int .i64 t.a) (.int .i64 t.b) (.int .i64 t.c) A2
    have st3 : Steps (fun j => j = qu) w2 (((w2.setCell ⟨qu, 0, none⟩ (.int .i64 t.a)).setCell ⟨qu, 1, none⟩ (.int .i64 t.b)).setCell ⟨qu, 2, none⟩ (.int .i64 t.c)) := ((Steps.setCell (own := fun j => j = qu) w2 (p := ⟨qu, 0, none⟩) rfl (.int .i64 t.a)).trans (Steps.setCell (own := fun j => j = qu) _ (p := ⟨qu, 1, none⟩) rfl (.int .i64 t.b)) (fun _ _ h => h)).trans (Steps.setCell (own := fun j => j = qu) _ (p := ⟨qu, 2, none⟩) rfl (.int .i64 t.c)) (fun _ _ h => h)
    generalize (((w2.setCell ⟨qu, 0, none⟩ (.int .i64 t.a)).setCell ⟨qu, 1, none⟩ (.int .i64 t.b)).setCell ⟨qu, 2, none⟩ (.int .i64 t.c)) = v3 at zz3 st3 ⊢
    clear c0 c1 c2 f0 f1 f2
    have H3 := H2.trans (st3.below (B := wA.heap.size) H2.size (fun k _ h => by omega))
    have B10 := st3.obj (k := qv) (by omega) A1
    refine hK _ _ H3 (fun _ => ?_)
    clear hK K
    try simp only [Act.put, gD, gE, gF]
    clear A1 A2 st3 H2
    refine wpAnyW_one 5 (by kernel_rfl) (by kernel_rfl) ?_
    have c0 := cell_block B10 0
    have f0 := frozen_block B10 0
    have c1 := cell_block B10 1
    have f1 := frozen_block B10 1
    have c2 := cell_block B10 2
    have f2 := frozen_block B10 2
    simp only [gA, gB, gC] at c0 c1 c2
    intro o ho K hK
    simp only [gA, gB, gC, gG] at ho
    subst ho
    go_simp
    have zz4 := three_same (.int .i64 t.a) (.int .i64 t.b) (.int .i64 t.c) B10
    have st4 : Steps (fun j => j = qv) v3 (((v3.setCell ⟨qv, 0, none⟩ (.int .i64 t.a)).setCell ⟨qv, 1, none⟩ (.int .i64 t.b)).setCell ⟨qv, 2, none⟩ (.int .i64 t.c)) := ((Steps.setCell (own := fun j => j = qv) v3 (p := ⟨qv, 0, none⟩) rfl (.int .i64 t.a)).trans (Steps.setCell (own := fun j => j = qv) _ (p := ⟨qv, 1, none⟩) rfl (.int .i64 t.b)) (fun _ _ h => h)).trans (Steps.setCell (own := fun j => j = qv) _ (p := ⟨qv, 2, none⟩) rfl (.int .i64 t.c)) (fun _ _ h => h)
    generalize (((v3.setCell ⟨qv, 0, none⟩ (.int .i64 t.a)).setCell ⟨qv, 1, none⟩ (.int .i64 t.b)).setCell ⟨qv, 2, none⟩ (.int .i64 t.c)) = v4 at zz4 st4 ⊢
    clear c0 c1 c2 f0 f1 f2
    have H4 := H3.trans (st4.below (B := wA.heap.size) H3.size (fun k _ h => by omega))
    have B9 := st4.obj (k := qu) (by omega) zz3
    refine hK _ _ H4 (fun _ => ?_)
    clear hK K
    try simp only [Act.put, gD, gE, gF]
    refine wpAnyW_done (by kernel_rfl) ?_ _
    dsimp only [onNormal]
    exact HFIN.out _ _ qu qv v4 ⟨B9, zz4, hne, h9, h10, H4⟩

theorem ltr_reg26_1 (p qu qv n fc : Nat) (fa : Option Addr) (t : ITr) (wA : World) {z0 z1 z2 z3 z4 z5 z7 z8 z9 z10 z11 z12 z13 z14 z15 z16 z17 z21 z22 z23 z24 z25 z26 z27 z28 z29 z30 z31 z32 z33 z34 z35 z36 z37 z38 z39 z40 z41 z42 z43 z44 z45 z46 z47 z48 z49 z50 z51 z52 z53 z54 z55 z56 z57 z58 z59 z60 z61 z62 z63 z64 z65 z66 z67 z68 z69 z70 z71 z72 z73 z74 z75 z76 z77 z78 z79 z80 z81 z82 z83 z84 z85 z86 z87 z88 z89 z90 z91 z92 z93 z94 z95 z96 z97 z98 z99 z100 z101 z102 z103 z104 z105 z106 z107 z108 z109 z110 z111 z112 z113 z114 z115 z116 z117 z118 z119 z120 z121 z122 z123 z124 z125 z126 z127 z128 z129 z130 z131 z140 z141 z142 z143 z144 z145 z146 z147 z148 z149 z150 z151 z152 z153 z154 z155 z156 z157 z158 z159 z160 z161 z162 z163 z164 z165 z166 z167 z168 z169 z170 z171 : Value} {z132 z133 z134 z135 z136 z137 z138 z139 : Value} (hn : 0 < n) (hn9 : n ≤ 100) (hc : wA.cell? ⟨p, 14, none⟩ = some (.slice fa n fc)) (hpl : p < wA.heap.size) (hpu : p < qu) (hpv : p < qv) (huv : qu ≠ qv) (gu : wA.heap[qu]? = some (.cells #[.int .i64 t.a, .int .i64 t.b, .int .i64 t.c] 32)) (gv : wA.heap[qv]? = some (.cells #[.int .i64 t.a, .int .i64 t.b, .int .i64 t.c] 32)) (K : Act → World → Prop) (Q : Exit → Act → World → Prop)
    (hfin : ∀ (s132 s133 s134 s135 s136 s137 s138 s139 : Value) (w3 : World), (w3.heap[qu]? = some (.cells #[.int .i64 t.a, .int .i64 (-1), .int .i64 t.c] 32) ∧ w3.heap[qv]? = some (.cells #[.int .i64 t.a, .int .i64 ((n : Int) - 1), .int .i64 t.c] 32) ∧ Steps (fun j => j = qu ∨ j = qv) wA w3) → K ⟨(z0::z1::z2::z3::z4::z5::(.pointer (some ⟨p, 0, none⟩))::z7::z8::z9::z10::z11::z12::z13::z14::z15::z16::z17::(.int .i64 1)::(.pointer (some ⟨qu, 0, none⟩))::(.pointer (some ⟨qv, 0, none⟩))::z21::z22::z23::z24::z25::z26::z27::z28::z29::z30::z31::z32::z33::z34::z35::z36::z37::z38::z39::z40::z41::z42::z43::z44::z45::z46::z47::z48::z49::z50::z51::z52::z53::z54::z55::z56::z57::z58::z59::z60::z61::z62::z63::z64::z65::z66::z67::z68::z69::z70::z71::z72::z73::z74::z75::z76::z77::z78::z79::z80::z81::z82::z83::z84::z85::z86::z87::z88::z89::z90::z91::z92::z93::z94::z95::z96::z97::z98::z99::z100::z101::z102::z103::z104::z105::z106::z107::z108::z109::z110::z111::z112::z113::z114::z115::z116::z117::z118::z119::z120::z121::z122::z123::z124::z125::z126::z127::z128::z129::z130::z131::s132::s133::s134::s135::s136::s137::s138::s139::z140::z141::z142::z143::z144::z145::z146::z147::z148::z149::z150::z151::z152::z153::z154::z155::z156::z157::z158::z159::z160::z161::z162::z163::z164::z165::z166::z167::z168::z169::z170::z171 :: []).toArray, []⟩ w3) :
    Code.wp Try.prog ((Try.f6.body.bind (findReg 26)).getD .skip) (Exit.then K Q) ⟨(z0::z1::z2::z3::z4::z5::(.pointer (some ⟨p, 0, none⟩))::z7::z8::z9::z10::z11::z12::z13::z14::z15::z16::z17::(.int .i64 1)::(.pointer (some ⟨qu, 0, none⟩))::(.pointer (some ⟨qv, 0, none⟩))::z21::z22::z23::z24::z25::z26::z27::z28::z29::z30::z31::z32::z33::z34::z35::z36::z37::z38::z39::z40::z41::z42::z43::z44::z45::z46::z47::z48::z49::z50::z51::z52::z53::z54::z55::z56::z57::z58::z59::z60::z61::z62::z63::z64::z65::z66::z67::z68::z69::z70::z71::z72::z73::z74::z75::z76::z77::z78::z79::z80::z81::z82::z83::z84::z85::z86::z87::z88::z89::z90::z91::z92::z93::z94::z95::z96::z97::z98::z99::z100::z101::z102::z103::z104::z105::z106::z107::z108::z109::z110::z111::z112::z113::z114::z115::z116::z117::z118::z119::z120::z121::z122::z123::z124::z125::z126::z127::z128::z129::z130::z131::z132::z133::z134::z135::z136::z137::z138::z139::z140::z141::z142::z143::z144::z145::z146::z147::z148::z149::z150::z151::z152::z153::z154::z155::z156::z157::z158::z159::z160::z161::z162::z163::z164::z165::z166::z167::z168::z169::z170::z171 :: []).toArray, []⟩ wA := by
  have HFIN := Lib.hid hfin
  clear hfin
  have k14 : ∀ W' : World, W'.heap[p]? = wA.heap[p]? → W'.cell? ⟨p, 14, none⟩ = some (.slice fa n fc) := fun W' h => (World.cell?_of_block h).trans hc
  have e1 : IntKind.i64.wrap ((n : Int) - 1) = (n : Int) - 1 := by rw [IntKind.wrap_i64]; omega
  have h10 : wA.drew.heap[p]? = wA.heap[p]? := (below_drew wA).block p hpl
  have hu0 := obj_later (below_drew wA) gu
  have hv0 := obj_later (below_drew wA) gv
  have st0 : Steps (fun j => j = qu ∨ j = qv) wA wA.drew := (Steps.refl _ wA).drew
  clear hc gu gv
  conv => arg 2; whnf
  refine (wpIn_wide (n := 1)).1 ?_
  refine wpIn_region_Wn (S := fun W' => W'.heap[p]? = wA.heap[p]?) 10 (by kernel_rfl) (by kernel_rfl) (by exact h10) (fun hHeld => ?_)
  clear h10
  generalize wA.drew = W0 at hHeld hu0 hv0 st0 ⊢
  have f1 := frozen_block hu0 1
  have c1 := cell_block hu0 1
  simp only [gA, gB, gC] at c1
  refine wTk 0 132 ?_ ?_ ?_
  rotate_left
  · intro o h w k; (try dsimp only at k); simp only [gA, gB, gC, gG] at h; subst h; go_simp; try with_reducible rfl
  simp only [Act.put, gD, gE, gF]
  refine wTk 1 133 ?_ ?_ ?_
  rotate_left
  · intro o h w k; (try dsimp only at k); simp only [gA, gB, gC, gG] at h; subst h; go_simp; try with_reducible rfl
  simp only [Act.put, gD, gE, gF]
  refine wTk 2 134 ?_ ?_ ?_
  rotate_left
  · intro o h w k; (try dsimp only at k); simp only [gA, gB, gC, gG] at h; subst h; go_simp; try with_reducible rfl
  simp only [Act.put, gD, gE, gF]
  refine wTk 3 135 ?_ ?_ ?_
  rotate_left
  · intro o h w k; (try dsimp only at k); simp only [gA, gB, gC, gG] at h; subst h; go_simp; try with_reducible rfl
  simp only [Act.put, gD, gE, gF]
  refine wTk 4 136 ?_ ?_ ?_
  rotate_left
  · intro o h w k; (try dsimp only at k); simp only [gA, gB, gC, gG] at h; subst h; go_simp; try with_reducible rfl
  simp only [Act.put, gD, gE, gF]
  refine wTk 5 137 ?_ ?_ ?_
  rotate_left
  · intro o h w k; (try dsimp only at k); simp only [gA, gB, gC, gG] at h; subst h; go_simp; try with_reducible rfl
  simp only [Act.put, gD, gE, gF]
  refine wTk 6 138 ?_ ?_ ?_
  rotate_left
  · intro o h w k; (try dsimp only at k); simp only [gA, gB, gC, gG] at h; subst h; go_simp; try with_reducible rfl
  simp only [Act.put, gD, gE, gF]
  clear k14
  refine wpAnyW_one 7 (by kernel_rfl) (by kernel_rfl) ?_
  intro o ho K hK
  simp only [gA, gB, gC, gG] at ho
  subst ho
  go_simp
  have z1 := block_set hu0 1 (.int .i64 (-1))
  have s1 := Steps.setCell (own := fun j => j = qu ∨ j = qv) W0 (p := ⟨qu, 1, none⟩) (.inl rfl) (.int .i64 (-1))
  have x1 := Steps.setCell (own := fun j => j = qu) W0 (p := ⟨qu, 1, none⟩) rfl (.int .i64 (-1))
  have hH1 := (x1.block p (by have := st0.size; omega) (fun e => by omega)).trans hHeld
  have v1 := x1.obj (k := qv) (fun e => huv e.symm) hv0
  refine hK _ _ hH1 (fun _ => ?_)
  clear hK K c1 f1 x1
  try simp only [Act.put, gD, gE, gF]
  generalize W0.setCell ⟨qu, 1, none⟩ (.int .i64 (-1)) = W1 at z1 s1 hH1 v1 ⊢
  have f1 := frozen_block v1 1
  have c1 := cell_block v1 1
  simp only [gA, gB, gC] at c1
  refine wTk 8 139 ?_ ?_ ?_
  rotate_left
  · intro o h w k; (try dsimp only at k); simp only [gA, gB, gC, gG] at h; subst h; go_simp; try with_reducible rfl
  simp only [Act.put, gD, gE, gF]
  refine wpAnyW_one 9 (by kernel_rfl) (by kernel_rfl) ?_
  intro o ho K hK
  simp only [gA, gB, gC, gG] at ho
  subst ho
  go_simp
  have z2 := block_set v1 1 (.int .i64 ((n : Int) - 1))
  have s2 := Steps.setCell (own := fun j => j = qu ∨ j = qv) W1 (p := ⟨qv, 1, none⟩) (.inr rfl) (.int .i64 ((n : Int) - 1))
  have x2 := Steps.setCell (own := fun j => j = qv) W1 (p := ⟨qv, 1, none⟩) rfl (.int .i64 ((n : Int) - 1))
  have hH2 := (x2.block p (by have := st0.size; have := s1.size; omega) (fun e => by omega)).trans hH1
  have u2 := x2.obj (k := qu) huv z1
  refine hK _ _ hH2 (fun _ => ?_)
  clear hK K c1 f1 x2
  try simp only [Act.put, gD, gE, gF]
  refine wpAnyW_done (by kernel_rfl) ?_ _
  dsimp only [onNormal]
  exact HFIN.out _ _ _ _ _ _ _ _ _ ⟨u2.trans (by simp), z2.trans (by simp), (st0.trans s1 (fun _ _ h => h)).trans s2 (fun _ _ h => h)⟩

theorem ltr_reg26_2 (p qu qv n fc : Nat) (fa : Option Addr) (t : ITr) (wA : World) {z0 z1 z2 z3 z4 z5 z7 z8 z9 z10 z11 z12 z13 z14 z15 z16 z17 z21 z22 z23 z24 z25 z26 z27 z28 z29 z30 z31 z32 z33 z34 z35 z36 z37 z38 z39 z40 z41 z42 z43 z44 z45 z46 z47 z48 z49 z50 z51 z52 z53 z54 z55 z56 z57 z58 z59 z60 z61 z62 z63 z64 z65 z66 z67 z68 z69 z70 z71 z72 z73 z74 z75 z76 z77 z78 z79 z80 z81 z82 z83 z84 z85 z86 z87 z88 z89 z90 z91 z92 z93 z94 z95 z96 z97 z98 z99 z100 z101 z102 z103 z104 z105 z106 z107 z108 z109 z110 z111 z112 z113 z114 z115 z116 z117 z118 z119 z120 z121 z122 z123 z124 z125 z126 z127 z128 z129 z130 z131 z140 z141 z142 z143 z144 z145 z146 z147 z148 z149 z150 z151 z152 z153 z154 z155 z156 z157 z158 z159 z160 z161 z162 z163 z164 z165 z166 z167 z168 z169 z170 z171 : Value} {z132 z133 z134 z135 z136 z137 z138 z139 : Value} (hn : 0 < n) (hn9 : n ≤ 100) (hc : wA.cell? ⟨p, 14, none⟩ = some (.slice fa n fc)) (hpl : p < wA.heap.size) (hpu : p < qu) (hpv : p < qv) (huv : qu ≠ qv) (gu : wA.heap[qu]? = some (.cells #[.int .i64 t.a, .int .i64 t.b, .int .i64 t.c] 32)) (gv : wA.heap[qv]? = some (.cells #[.int .i64 t.a, .int .i64 t.b, .int .i64 t.c] 32)) (K : Act → World → Prop) (Q : Exit → Act → World → Prop)
    (hfin : ∀ (s132 s133 s134 s135 s136 s137 s138 s139 : Value) (w3 : World), (w3.heap[qu]? = some (.cells #[.int .i64 t.a, .int .i64 t.b, .int .i64 (-1)] 32) ∧ w3.heap[qv]? = some (.cells #[.int .i64 t.a, .int .i64 t.b, .int .i64 ((n : Int) - 1)] 32) ∧ Steps (fun j => j = qu ∨ j = qv) wA w3) → K ⟨(z0::z1::z2::z3::z4::z5::(.pointer (some ⟨p, 0, none⟩))::z7::z8::z9::z10::z11::z12::z13::z14::z15::z16::z17::(.int .i64 2)::(.pointer (some ⟨qu, 0, none⟩))::(.pointer (some ⟨qv, 0, none⟩))::z21::z22::z23::z24::z25::z26::z27::z28::z29::z30::z31::z32::z33::z34::z35::z36::z37::z38::z39::z40::z41::z42::z43::z44::z45::z46::z47::z48::z49::z50::z51::z52::z53::z54::z55::z56::z57::z58::z59::z60::z61::z62::z63::z64::z65::z66::z67::z68::z69::z70::z71::z72::z73::z74::z75::z76::z77::z78::z79::z80::z81::z82::z83::z84::z85::z86::z87::z88::z89::z90::z91::z92::z93::z94::z95::z96::z97::z98::z99::z100::z101::z102::z103::z104::z105::z106::z107::z108::z109::z110::z111::z112::z113::z114::z115::z116::z117::z118::z119::z120::z121::z122::z123::z124::z125::z126::z127::z128::z129::z130::z131::s132::s133::s134::s135::s136::s137::s138::s139::z140::z141::z142::z143::z144::z145::z146::z147::z148::z149::z150::z151::z152::z153::z154::z155::z156::z157::z158::z159::z160::z161::z162::z163::z164::z165::z166::z167::z168::z169::z170::z171 :: []).toArray, []⟩ w3) :
    Code.wp Try.prog ((Try.f6.body.bind (findReg 26)).getD .skip) (Exit.then K Q) ⟨(z0::z1::z2::z3::z4::z5::(.pointer (some ⟨p, 0, none⟩))::z7::z8::z9::z10::z11::z12::z13::z14::z15::z16::z17::(.int .i64 2)::(.pointer (some ⟨qu, 0, none⟩))::(.pointer (some ⟨qv, 0, none⟩))::z21::z22::z23::z24::z25::z26::z27::z28::z29::z30::z31::z32::z33::z34::z35::z36::z37::z38::z39::z40::z41::z42::z43::z44::z45::z46::z47::z48::z49::z50::z51::z52::z53::z54::z55::z56::z57::z58::z59::z60::z61::z62::z63::z64::z65::z66::z67::z68::z69::z70::z71::z72::z73::z74::z75::z76::z77::z78::z79::z80::z81::z82::z83::z84::z85::z86::z87::z88::z89::z90::z91::z92::z93::z94::z95::z96::z97::z98::z99::z100::z101::z102::z103::z104::z105::z106::z107::z108::z109::z110::z111::z112::z113::z114::z115::z116::z117::z118::z119::z120::z121::z122::z123::z124::z125::z126::z127::z128::z129::z130::z131::z132::z133::z134::z135::z136::z137::z138::z139::z140::z141::z142::z143::z144::z145::z146::z147::z148::z149::z150::z151::z152::z153::z154::z155::z156::z157::z158::z159::z160::z161::z162::z163::z164::z165::z166::z167::z168::z169::z170::z171 :: []).toArray, []⟩ wA := by
  have HFIN := Lib.hid hfin
  clear hfin
  have k14 : ∀ W' : World, W'.heap[p]? = wA.heap[p]? → W'.cell? ⟨p, 14, none⟩ = some (.slice fa n fc) := fun W' h => (World.cell?_of_block h).trans hc
  have e1 : IntKind.i64.wrap ((n : Int) - 1) = (n : Int) - 1 := by rw [IntKind.wrap_i64]; omega
  have h10 : wA.drew.heap[p]? = wA.heap[p]? := (below_drew wA).block p hpl
  have hu0 := obj_later (below_drew wA) gu
  have hv0 := obj_later (below_drew wA) gv
  have st0 : Steps (fun j => j = qu ∨ j = qv) wA wA.drew := (Steps.refl _ wA).drew
  clear hc gu gv
  conv => arg 2; whnf
  refine (wpIn_wide (n := 1)).1 ?_
  refine wpIn_region_Wn (S := fun W' => W'.heap[p]? = wA.heap[p]?) 10 (by kernel_rfl) (by kernel_rfl) (by exact h10) (fun hHeld => ?_)
  clear h10
  generalize wA.drew = W0 at hHeld hu0 hv0 st0 ⊢
  have f1 := frozen_block hu0 2
  have c1 := cell_block hu0 2
  simp only [gA, gB, gC] at c1
  refine wTk 0 132 ?_ ?_ ?_
  rotate_left
  · intro o h w k; (try dsimp only at k); simp only [gA, gB, gC, gG] at h; subst h; go_simp; try with_reducible rfl
  simp only [Act.put, gD, gE, gF]
  refine wTk 1 133 ?_ ?_ ?_
  rotate_left
  · intro o h w k; (try dsimp only at k); simp only [gA, gB, gC, gG] at h; subst h; go_simp; try with_reducible rfl
  simp only [Act.put, gD, gE, gF]
  refine wTk 2 134 ?_ ?_ ?_
  rotate_left
  · intro o h w k; (try dsimp only at k); simp only [gA, gB, gC, gG] at h; subst h; go_simp; try with_reducible rfl
  simp only [Act.put, gD, gE, gF]
  refine wTk 3 135 ?_ ?_ ?_
  rotate_left
  · intro o h w k; (try dsimp only at k); simp only [gA, gB, gC, gG] at h; subst h; go_simp; try with_reducible rfl
  simp only [Act.put, gD, gE, gF]
  refine wTk 4 136 ?_ ?_ ?_
  rotate_left
  · intro o h w k; (try dsimp only at k); simp only [gA, gB, gC, gG] at h; subst h; go_simp; try with_reducible rfl
  simp only [Act.put, gD, gE, gF]
  refine wTk 5 137 ?_ ?_ ?_
  rotate_left
  · intro o h w k; (try dsimp only at k); simp only [gA, gB, gC, gG] at h; subst h; go_simp; try with_reducible rfl
  simp only [Act.put, gD, gE, gF]
  refine wTk 6 138 ?_ ?_ ?_
  rotate_left
  · intro o h w k; (try dsimp only at k); simp only [gA, gB, gC, gG] at h; subst h; go_simp; try with_reducible rfl
  simp only [Act.put, gD, gE, gF]
  clear k14
  refine wpAnyW_one 7 (by kernel_rfl) (by kernel_rfl) ?_
  intro o ho K hK
  simp only [gA, gB, gC, gG] at ho
  subst ho
  go_simp
  have z1 := block_set hu0 2 (.int .i64 (-1))
  have s1 := Steps.setCell (own := fun j => j = qu ∨ j = qv) W0 (p := ⟨qu, 2, none⟩) (.inl rfl) (.int .i64 (-1))
  have x1 := Steps.setCell (own := fun j => j = qu) W0 (p := ⟨qu, 2, none⟩) rfl (.int .i64 (-1))
  have hH1 := (x1.block p (by have := st0.size; omega) (fun e => by omega)).trans hHeld
  have v1 := x1.obj (k := qv) (fun e => huv e.symm) hv0
  refine hK _ _ hH1 (fun _ => ?_)
  clear hK K c1 f1 x1
  try simp only [Act.put, gD, gE, gF]
  generalize W0.setCell ⟨qu, 2, none⟩ (.int .i64 (-1)) = W1 at z1 s1 hH1 v1 ⊢
  have f1 := frozen_block v1 2
  have c1 := cell_block v1 2
  simp only [gA, gB, gC] at c1
  refine wTk 8 139 ?_ ?_ ?_
  rotate_left
  · intro o h w k; (try dsimp only at k); simp only [gA, gB, gC, gG] at h; subst h; go_simp; try with_reducible rfl
  simp only [Act.put, gD, gE, gF]
  refine wpAnyW_one 9 (by kernel_rfl) (by kernel_rfl) ?_
  intro o ho K hK
  simp only [gA, gB, gC, gG] at ho
  subst ho
  go_simp
  have z2 := block_set v1 2 (.int .i64 ((n : Int) - 1))
  have s2 := Steps.setCell (own := fun j => j = qu ∨ j = qv) W1 (p := ⟨qv, 2, none⟩) (.inr rfl) (.int .i64 ((n : Int) - 1))
  have x2 := Steps.setCell (own := fun j => j = qv) W1 (p := ⟨qv, 2, none⟩) rfl (.int .i64 ((n : Int) - 1))
  have hH2 := (x2.block p (by have := st0.size; have := s1.size; omega) (fun e => by omega)).trans hH1
  have u2 := x2.obj (k := qu) huv z1
  refine hK _ _ hH2 (fun _ => ?_)
  clear hK K c1 f1 x2
  try simp only [Act.put, gD, gE, gF]
  refine wpAnyW_done (by kernel_rfl) ?_ _
  dsimp only [onNormal]
  exact HFIN.out _ _ _ _ _ _ _ _ _ ⟨u2.trans (by simp), z2.trans (by simp), (st0.trans s1 (fun _ _ h => h)).trans s2 (fun _ _ h => h)⟩
end Go.Proofs.Ytacioedolmaofaa
namespace Go.Proofs.Ytacioedolmaofaa
open Go.RowKit Go.Shelf
set_option maxHeartbeats 12800000
set_option maxRecDepth 100000
set_option linter.unusedSimpArgs false
set_option linter.unusedVariables false

/-- What has been made behind so many exposures. -/
def TrP (lim x y z : Int) : Nat → ISheet → ITr → Prop
  | 0, s, t => s = ⟨exSp 0, exSp 0, exSp 0, exSp 0, exSp 0, exSp 0, lim, 0, [exIm x y z]⟩ ∧ t = ⟨0, -1, -1⟩
  | 1, s, t => ∃ a b f, (1 ≤ a ∧ a ≤ 40) ∧ (0 ≤ b ∧ b ≤ 39) ∧ (0 ≤ f ∧ f ≤ 11) ∧ s = ⟨exSp a, exSp b, exSp 0, exSp 0, exSp f, exSp 0, lim, 0, leftL [exIm x y z] lim x y z a b f⟩ ∧ t = ⟨0, leftN [exIm x y z] lim z f, -1⟩
  | _ + 2, s, t => ∃ e : Exact, e.in' ∧ e.lim = lim ∧ e.x = x ∧ e.y = y ∧ e.z = z ∧ s = ⟨exSp e.a, exSp e.b, exSp e.c, exSp e.d, exSp e.f, exSp e.g, e.lim, 0, e.l2⟩ ∧ t = e.tr
theorem leftL_len (l : List ISpot) (lim x y z a b f : Int) : (leftL l lim x y z a b f).length ≤ l.length + 1 := by
  unfold leftL
  split
  · simp
  · omega
theorem TrP.len {lim x y z : Int} {n : Nat} {s : ISheet} {t : ITr} (h : TrP lim x y z n s t) : s.l.length ≤ 3 ∧ s.limit = lim := by
  rcases n with _ | _ | n
  · obtain ⟨rfl, _⟩ := h; exact ⟨by simp, rfl⟩
  · obtain ⟨a, b, f, _, _, _, rfl, _⟩ := h
    exact ⟨by have := leftL_len [exIm x y z] lim x y z a b f; simp only [List.length_cons, List.length_nil] at this; show (leftL _ _ _ _ _ _ _ _).length ≤ 3; omega, rfl⟩
  · obtain ⟨e, _, h1, h2, h3, h4, rfl, _⟩ := h
    refine ⟨?_, h1⟩
    show e.l2.length ≤ 3
    have h1 := leftL_len [exIm e.x e.y e.z] e.lim e.x e.y e.z e.a e.b e.f
    have h2 := leftL_len e.l1 e.lim e.x e.y e.z e.c e.d e.g
    unfold Exact.l2
    unfold Exact.l1 at h2 ⊢
    simp only [List.length_cons, List.length_nil] at h1
    omega
theorem TrP.yes0 {lim x y z a b f : Int} {s : ISheet} {t : ITr} (hr : (10 ≤ lim ∧ lim ≤ 29) ∧ (100 ≤ x ∧ x ≤ 399) ∧ (100 ≤ y ∧ y ≤ 399) ∧ (lim ≤ z ∧ z ≤ lim + 29)) (h : TrP lim x y z 0 s t) (ha : 1 ≤ a ∧ a ≤ 40) (hb : 0 ≤ b ∧ b ≤ 39) (hf : 0 ≤ f ∧ f ≤ 11) (hz : lim ≤ z - f) : TrP lim x y z 1 { { s with ax := exSp a, ay := exSp b, f := exSp f } with l := s.l ++ [exIm (x + a) (y + b) (z - f)] } { t with b := s.l.length } := by
  obtain ⟨rfl, rfl⟩ := h
  exact ⟨a, b, f, ha, hb, hf, by unfold leftL; rw [if_pos hz], by unfold leftN; rw [if_pos hz]⟩
theorem TrP.no0 {lim x y z a b f : Int} {s : ISheet} {t : ITr} (hr : (10 ≤ lim ∧ lim ≤ 29) ∧ (100 ≤ x ∧ x ≤ 399) ∧ (100 ≤ y ∧ y ≤ 399) ∧ (lim ≤ z ∧ z ≤ lim + 29)) (h : TrP lim x y z 0 s t) (ha : 1 ≤ a ∧ a ≤ 40) (hb : 0 ≤ b ∧ b ≤ 39) (hf : 0 ≤ f ∧ f ≤ 11) (hz : z - f < lim) : TrP lim x y z 1 { s with ax := exSp a, ay := exSp b, f := exSp f } t := by
  obtain ⟨rfl, rfl⟩ := h
  exact ⟨a, b, f, ha, hb, hf, by unfold leftL; rw [if_neg (by omega)], by unfold leftN; rw [if_neg (by omega)]⟩
theorem TrP.yes1 {lim x y z a b f : Int} {s : ISheet} {t : ITr} (hr : (10 ≤ lim ∧ lim ≤ 29) ∧ (100 ≤ x ∧ x ≤ 399) ∧ (100 ≤ y ∧ y ≤ 399) ∧ (lim ≤ z ∧ z ≤ lim + 29)) (h : TrP lim x y z 1 s t) (ha : 1 ≤ a ∧ a ≤ 40) (hb : 0 ≤ b ∧ b ≤ 39) (hf : 0 ≤ f ∧ f ≤ 11) (hz : lim ≤ z - f) : TrP lim x y z 2 { { s with bx := exSp a, by' := exSp b, g := exSp f } with l := s.l ++ [exIm (x + a) (y + b) (z - f)] } { t with c := s.l.length } := by
  obtain ⟨a', b', f', ha', hb', hf', rfl, rfl⟩ := h
  exact ⟨⟨lim, x, y, z, a', b', f', a, b, f⟩, ⟨hr.1, hr.2.1, hr.2.2.1, hr.2.2.2, ha', hb', hf', ha, hb, hf⟩, rfl, rfl, rfl, rfl, by unfold Exact.l2 Exact.l1; rw [show leftL (leftL [exIm x y z] lim x y z a' b' f') lim x y z a b f = leftL [exIm x y z] lim x y z a' b' f' ++ [exIm (x + a) (y + b) (z - f)] from if_pos hz], by unfold Exact.tr Exact.l1; rw [show leftN (leftL [exIm x y z] lim x y z a' b' f') lim z f = ((leftL [exIm x y z] lim x y z a' b' f').length : Int) from if_pos hz]⟩
theorem TrP.no1 {lim x y z a b f : Int} {s : ISheet} {t : ITr} (hr : (10 ≤ lim ∧ lim ≤ 29) ∧ (100 ≤ x ∧ x ≤ 399) ∧ (100 ≤ y ∧ y ≤ 399) ∧ (lim ≤ z ∧ z ≤ lim + 29)) (h : TrP lim x y z 1 s t) (ha : 1 ≤ a ∧ a ≤ 40) (hb : 0 ≤ b ∧ b ≤ 39) (hf : 0 ≤ f ∧ f ≤ 11) (hz : z - f < lim) : TrP lim x y z 2 { s with bx := exSp a, by' := exSp b, g := exSp f } t := by
  obtain ⟨a', b', f', ha', hb', hf', rfl, rfl⟩ := h
  exact ⟨⟨lim, x, y, z, a', b', f', a, b, f⟩, ⟨hr.1, hr.2.1, hr.2.2.1, hr.2.2.2, ha', hb', hf', ha, hb, hf⟩, rfl, rfl, rfl, rfl, by unfold Exact.l2 Exact.l1; rw [show leftL (leftL [exIm x y z] lim x y z a' b' f') lim x y z a b f = leftL [exIm x y z] lim x y z a' b' f' from if_neg (by omega)], by unfold Exact.tr Exact.l1; rw [show leftN (leftL [exIm x y z] lim x y z a' b' f') lim z f = -1 from if_neg (by omega)]⟩

theorem ltr_loop (pc pb : Nat) (a : Option Addr) (c : Nat) (xs : List Nat) (p q : Nat) (s0 : ISheet) (fa0 : Option Addr) (fc0 : Nat) (t0 : ITr) (lim x y z : Int) (w : World) {z0 z1 z2 z3 z4 z16 z17 z18 z19 z20 z21 z22 z23 z24 z25 z26 z27 z28 z29 z30 z31 z32 z33 z34 z35 z36 z37 z38 z39 z40 z41 z42 z43 z44 z45 z46 z47 z48 z49 z50 z51 z52 z53 z109 z110 z111 z112 z113 z114 z115 z116 z117 z118 z119 z120 z121 z122 z123 z124 z125 z126 z127 z128 z129 z130 z131 z132 z133 z134 z135 z136 z137 z138 z139 z140 z141 z142 z143 z144 z145 z146 z147 z148 z149 z150 z151 z152 z153 z154 z155 z156 z157 z158 z159 z160 z161 z162 z163 z164 z165 z166 z167 z168 z169 z170 z171 : Value} {z12 z13 z14 z15 z54 z55 z56 z57 z58 z59 z60 z61 z62 z63 z64 z65 z66 z67 z68 z69 z70 z71 z72 z73 z74 z75 z76 z77 z78 z79 z80 z81 z82 z83 z84 z85 z86 z87 z88 z89 z90 z91 z92 z93 z94 z95 z96 z97 z98 z99 z100 z101 z102 z103 z104 z105 z106 z107 z108 : Value} (HX : Hid (NumsOk xs)) (HR : Hid ((10 ≤ lim ∧ lim ≤ 29) ∧ (100 ≤ x ∧ x ≤ 399) ∧ (100 ≤ y ∧ y ≤ 399) ∧ (lim ≤ z ∧ z ≤ lim + 29))) (HPC : Hid (w.heap.size ≤ pc)) (w0 : World) (hb0 : Below w.heap.size w w0) (hT0 : TrM w0 p q pc pb a c xs 4 s0 fa0 fc0 t0) (hP0 : TrP lim x y z 0 s0 t0) (K1 K : Act → World → Prop) (Q : Exit → Act → World → Prop)
    (hK1 : ∀ a w', Code.wp Try.prog (sndC' ((Try.f6.body.bind (findSu 9)).getD .skip)) (Exit.then K Q) a w' → K1 a w')
    (hfin : ∀ (s12 s13 s14 s15 s54 s55 s56 s57 s58 s59 s60 s61 s62 s63 s64 s65 s66 s67 s68 s69 s70 s71 s72 s73 s74 s75 s76 s77 s78 s79 s80 s81 s82 s83 s84 s85 s86 s87 s88 s89 s90 s91 s92 s93 s94 s95 s96 s97 s98 s99 s100 s101 s102 s103 s104 s105 s106 s107 s108 : Value) (fa : Option Addr) (fc k : Nat) (s : ISheet) (t : ITr) (w3 : World), TrP lim x y z 2 s t → TrM w3 p q pc pb a c xs k s fa fc t → Below w.heap.size w w3 → K ⟨(z0::z1::z2::z3::z4::(.func (.func 61) #[] #[.pointer (some ⟨pc, 0, none⟩), .pointer (some ⟨pb, 0, none⟩)])::(.pointer (some ⟨p, 0, none⟩))::(.int .i64 x)::(.int .i64 y)::(.int .i64 z)::(.func (.func 32) #[] #[])::(.pointer (some ⟨q, 0, none⟩))::s12::s13::s14::s15::z16::z17::z18::z19::z20::z21::z22::z23::z24::z25::z26::z27::z28::z29::z30::z31::z32::z33::z34::z35::z36::z37::z38::z39::z40::z41::z42::z43::z44::z45::z46::z47::z48::z49::z50::z51::z52::z53::s54::s55::s56::s57::s58::s59::s60::s61::s62::s63::s64::s65::s66::s67::s68::s69::s70::s71::s72::s73::s74::s75::s76::s77::s78::s79::s80::s81::s82::s83::s84::s85::s86::s87::s88::s89::s90::s91::s92::s93::s94::s95::s96::s97::s98::s99::s100::s101::s102::s103::s104::s105::s106::s107::s108::z109::z110::z111::z112::z113::z114::z115::z116::z117::z118::z119::z120::z121::z122::z123::z124::z125::z126::z127::z128::z129::z130::z131::z132::z133::z134::z135::z136::z137::z138::z139::z140::z141::z142::z143::z144::z145::z146::z147::z148::z149::z150::z151::z152::z153::z154::z155::z156::z157::z158::z159::z160::z161::z162::z163::z164::z165::z166::z167::z168::z169::z170::z171 :: []).toArray, []⟩ w3) :
    Code.wp Try.prog (fstC' ((Try.f6.body.bind (findSu 9)).getD .skip)) (Exit.then K1 (Exit.then K Q)) ⟨(z0::z1::z2::z3::z4::(.func (.func 61) #[] #[.pointer (some ⟨pc, 0, none⟩), .pointer (some ⟨pb, 0, none⟩)])::(.pointer (some ⟨p, 0, none⟩))::(.int .i64 x)::(.int .i64 y)::(.int .i64 z)::(.func (.func 32) #[] #[])::(.pointer (some ⟨q, 0, none⟩))::z12::z13::z14::z15::z16::z17::z18::z19::z20::z21::z22::z23::z24::z25::z26::z27::z28::z29::z30::z31::z32::z33::z34::z35::z36::z37::z38::z39::z40::z41::z42::z43::z44::z45::z46::z47::z48::z49::z50::z51::z52::z53::z54::z55::z56::z57::z58::z59::z60::z61::z62::z63::z64::z65::z66::z67::z68::z69::z70::z71::z72::z73::z74::z75::z76::z77::z78::z79::z80::z81::z82::z83::z84::z85::z86::z87::z88::z89::z90::z91::z92::z93::z94::z95::z96::z97::z98::z99::z100::z101::z102::z103::z104::z105::z106::z107::z108::z109::z110::z111::z112::z113::z114::z115::z116::z117::z118::z119::z120::z121::z122::z123::z124::z125::z126::z127::z128::z129::z130::z131::z132::z133::z134::z135::z136::z137::z138::z139::z140::z141::z142::z143::z144::z145::z146::z147::z148::z149::z150::z151::z152::z153::z154::z155::z156::z157::z158::z159::z160::z161::z162::z163::z164::z165::z166::z167::z168::z169::z170::z171 :: []).toArray, []⟩ w0 := by
  have HFIN := Lib.hid hfin
  have HP0 := Lib.hid hP0
  clear hfin hP0
  conv => arg 2; whnf
  conv at hK1 => enter [a, w', 1, 2]; whnf
  go_wp2_with fail
  go_loopw [54] (fun u wr => ∃ (n k : Nat) (fa : Option Addr) (fc : Nat) (s : ISheet) (t : ITr), n ≤ 2 ∧ k ≤ 4 + 3 * n ∧ u = .int .i64 (n : Int) ∧ TrP lim x y z n s t ∧ TrM wr p q pc pb a c xs k s fa fc t ∧ Below w.heap.size w wr) (fun u _ => 2 - (intOf u).toNat)
  case atStart => exact ⟨0, 4, fa0, fc0, s0, t0, by omega, by omega, rfl, HP0.out, hT0, hb0⟩
  case round =>
    clear hT0 hb0
    obtain ⟨n, k, fa, fc, s, t, hn, hk, rfl, hP, hT, hb⟩ := hrel
    have hPl := hP.len
    have HP := Lib.hid hP
    clear hP
    rcases n with _ | _ | n
    · rw [show ((0 : Nat) : Int) = 0 from rfl]
      go_wp2_with fail
      refine (idraw_any 40 pc pb a c xs (k + 0) HX.out (by omega) (by omega) wr hT.ds).mono ?_
      rintro e w1 ⟨r1, hr1, rfl, hd1, hg1⟩
      have hT1 := hT.draw hd1 hg1
      have hb1 := hb.trans (grown_below hg1 HPC.out hb.size)
      clear hd1 hg1 hT hb
      have e1 : IntKind.i64.wrap (1 + (r1 : Int)) = 1 + (r1 : Int) := by rw [IntKind.wrap_i64]; omega
      go_wp2_with fail
      refine (idraw_any 40 pc pb a c xs (k + 1) HX.out (by omega) (by omega) w1 hT1.ds).mono ?_
      rintro e w2 ⟨r2, hr2, rfl, hd2, hg2⟩
      have hT2 := hT1.draw hd2 hg2
      have hb2 := hb1.trans (grown_below hg2 HPC.out hb1.size)
      clear hd2 hg2 hT1 hb1
      go_wp2_with fail
      refine (idraw_any 12 pc pb a c xs (k + 2) HX.out (by omega) (by omega) w2 hT2.ds).mono ?_
      rintro e w3 ⟨r3, hr3, rfl, hd3, hg3⟩
      have hT3 := hT2.draw hd3 hg3
      have hb3 := hb2.trans (grown_below hg3 HPC.out hb2.size)
      clear hd3 hg3 hT2 hb2
      go_upto_region 13 with fail
      obtain ⟨u, hu⟩ : ∃ u : Int, 1 + (r1 : Int) = u := ⟨_, rfl⟩
      obtain ⟨v, hv⟩ : ∃ v : Int, (r2 : Int) = v := ⟨_, rfl⟩
      obtain ⟨f, hf⟩ : ∃ f : Int, (r3 : Int) = f := ⟨_, rfl⟩
      have hru : 1 ≤ u ∧ u ≤ 40 := by omega
      have hrv : 0 ≤ v ∧ v ≤ 39 := by omega
      have hrf : 0 ≤ f ∧ f ≤ 11 := by omega
      rw [hu, hv, hf]
      clear hu hv hf hr1 hr2 hr3 e1
      have hpc3 := HPC.out
      refine ltr_reg13_0 pc pb a c xs (k + 2 + 1) p q s fa fc t u v f w3 hT3 _ _ ?_
      intro s64 s65 s66 s67 s68 s69 s70 s71 s72 s73 s74 s75 s76 s77 s78 s79 w4 hT4 hb34
      have hb4 := hb3.trans (hb34.mono HPC.out)
      clear hT3 hb3 hb34 hpc3
      have HRU := Lib.hid (And.intro hru (And.intro hrv hrf))
      have hs4 := hT4.sh
      have c12 := cell_block hs4 12
      have c14 := cell_block hs4 14
      simp only [gA, gB, gC] at c12 c14
      rw [hPl.2] at c12
      have W1 : IntKind.i64.wrap (z - f) = z - f := by have := HR.out; rw [IntKind.wrap_i64]; omega
      have WX : IntKind.i64.wrap (x + u) = x + u := by have := HR.out; rw [IntKind.wrap_i64]; omega
      have WY : IntKind.i64.wrap (y + v) = y + v := by have := HR.out; rw [IntKind.wrap_i64]; omega
      clear hru hrv hrf hs4
      by_cases hz : lim ≤ z - f
      · have hd : decide (lim ≤ z - f) = true := decide_eq_true hz
        have HZ := Lib.hid hz
        clear hz
        have tt := hT4.tr
        have f1 := frozen_block tt 1
        have t1 := cell_block tt 1
        simp only [gA, gB, gC] at t1
        go_upto_region 16 with fail
        have z5 := block_set tt 1 (.int .i64 (s.l.length : Int))
        have x5 := Steps.setCell (own := fun j => j = q) w4 (p := ⟨q, 1, none⟩) rfl (.int .i64 (s.l.length : Int))
        generalize w4.setCell ⟨q, 1, none⟩ (.int .i64 (s.l.length : Int)) = w5 at z5 x5 ⊢
        have hT5 := hT4.putT (t' := { t with b := s.l.length }) x5 (z5.trans (by simp))
        have hb5 := hb4.trans (x5.below (B := w.heap.size) hb4.size (fun j _ h => by have := hT4.lq; have := hT4.lp; have := HPC.out; omega))
        clear tt f1 t1 z5 x5 hT4 hb4 c12 c14
        refine wp_last (ltr_reg16 pc pb a c xs (k + 2 + 1) p q _ fa fc _ x y z u v f w5 hT5 (by have := hPl.1; show s.l.length ≤ 100; omega) WX WY W1 _ _ ?_)
        intro s92 s93 s94 s95 s96 s97 s98 s99 s100 s101 s102 s103 s104 s105 s106 s107 fa' fc' w6 hT6 hb56
        have hb6 := hb5.trans (hb56.mono HPC.out)
        clear hT5 hb5 hb56
        go_wp2_with fail
        go_roundw
        case rel => exact ⟨1, k + 2 + 1, fa', fc', _, _, by omega, by omega, rfl, TrP.yes0 HR.out HP.out HRU.out.1 HRU.out.2.1 HRU.out.2.2 HZ.out, hT6, hb6⟩
        case measure => simp [intOf]
      · have hz' : z - f < lim := by omega
        have hd : decide (lim ≤ z - f) = false := decide_eq_false hz
        have HZ := Lib.hid hz'
        clear hz hz'
        go_wp2_with fail
        go_roundw
        case rel => exact ⟨1, k + 2 + 1, fa, fc, _, t, by omega, by omega, rfl, TrP.no0 HR.out HP.out HRU.out.1 HRU.out.2.1 HRU.out.2.2 HZ.out, hT4, hb4⟩
        case measure => simp [intOf]
    · rw [show ((1 : Nat) : Int) = 1 from rfl]
      go_wp2_with fail
      refine (idraw_any 40 pc pb a c xs (k + 0) HX.out (by omega) (by omega) wr hT.ds).mono ?_
      rintro e w1 ⟨r1, hr1, rfl, hd1, hg1⟩
      have hT1 := hT.draw hd1 hg1
      have hb1 := hb.trans (grown_below hg1 HPC.out hb.size)
      clear hd1 hg1 hT hb
      have e1 : IntKind.i64.wrap (1 + (r1 : Int)) = 1 + (r1 : Int) := by rw [IntKind.wrap_i64]; omega
      go_wp2_with fail
      refine (idraw_any 40 pc pb a c xs (k + 1) HX.out (by omega) (by omega) w1 hT1.ds).mono ?_
      rintro e w2 ⟨r2, hr2, rfl, hd2, hg2⟩
      have hT2 := hT1.draw hd2 hg2
      have hb2 := hb1.trans (grown_below hg2 HPC.out hb1.size)
      clear hd2 hg2 hT1 hb1
      go_wp2_with fail
      refine (idraw_any 12 pc pb a c xs (k + 2) HX.out (by omega) (by omega) w2 hT2.ds).mono ?_
      rintro e w3 ⟨r3, hr3, rfl, hd3, hg3⟩
      have hT3 := hT2.draw hd3 hg3
      have hb3 := hb2.trans (grown_below hg3 HPC.out hb2.size)
      clear hd3 hg3 hT2 hb2
      go_upto_region 13 with fail
      obtain ⟨u, hu⟩ : ∃ u : Int, 1 + (r1 : Int) = u := ⟨_, rfl⟩
      obtain ⟨v, hv⟩ : ∃ v : Int, (r2 : Int) = v := ⟨_, rfl⟩
      obtain ⟨f, hf⟩ : ∃ f : Int, (r3 : Int) = f := ⟨_, rfl⟩
      have hru : 1 ≤ u ∧ u ≤ 40 := by omega
      have hrv : 0 ≤ v ∧ v ≤ 39 := by omega
      have hrf : 0 ≤ f ∧ f ≤ 11 := by omega
      rw [hu, hv, hf]
      clear hu hv hf hr1 hr2 hr3 e1
      have hpc3 := HPC.out
      refine ltr_reg13_1 pc pb a c xs (k + 2 + 1) p q s fa fc t u v f w3 hT3 _ _ ?_
      intro s64 s65 s66 s67 s68 s69 s70 s71 s72 s73 s74 s75 s76 s77 s78 s79 w4 hT4 hb34
      have hb4 := hb3.trans (hb34.mono HPC.out)
      clear hT3 hb3 hb34 hpc3
      have HRU := Lib.hid (And.intro hru (And.intro hrv hrf))
      have hs4 := hT4.sh
      have c12 := cell_block hs4 12
      have c14 := cell_block hs4 14
      simp only [gA, gB, gC] at c12 c14
      rw [hPl.2] at c12
      have W1 : IntKind.i64.wrap (z - f) = z - f := by have := HR.out; rw [IntKind.wrap_i64]; omega
      have WX : IntKind.i64.wrap (x + u) = x + u := by have := HR.out; rw [IntKind.wrap_i64]; omega
      have WY : IntKind.i64.wrap (y + v) = y + v := by have := HR.out; rw [IntKind.wrap_i64]; omega
      clear hru hrv hrf hs4
      by_cases hz : lim ≤ z - f
      · have hd : decide (lim ≤ z - f) = true := decide_eq_true hz
        have HZ := Lib.hid hz
        clear hz
        have tt := hT4.tr
        have f1 := frozen_block tt 2
        have t1 := cell_block tt 2
        simp only [gA, gB, gC] at t1
        go_upto_region 16 with fail
        have z5 := block_set tt 2 (.int .i64 (s.l.length : Int))
        have x5 := Steps.setCell (own := fun j => j = q) w4 (p := ⟨q, 2, none⟩) rfl (.int .i64 (s.l.length : Int))
        generalize w4.setCell ⟨q, 2, none⟩ (.int .i64 (s.l.length : Int)) = w5 at z5 x5 ⊢
        have hT5 := hT4.putT (t' := { t with c := s.l.length }) x5 (z5.trans (by simp))
        have hb5 := hb4.trans (x5.below (B := w.heap.size) hb4.size (fun j _ h => by have := hT4.lq; have := hT4.lp; have := HPC.out; omega))
        clear tt f1 t1 z5 x5 hT4 hb4 c12 c14
        refine wp_last (ltr_reg16 pc pb a c xs (k + 2 + 1) p q _ fa fc _ x y z u v f w5 hT5 (by have := hPl.1; show s.l.length ≤ 100; omega) WX WY W1 _ _ ?_)
        intro s92 s93 s94 s95 s96 s97 s98 s99 s100 s101 s102 s103 s104 s105 s106 s107 fa' fc' w6 hT6 hb56
        have hb6 := hb5.trans (hb56.mono HPC.out)
        clear hT5 hb5 hb56
        go_wp2_with fail
        go_roundw
        case rel => exact ⟨2, k + 2 + 1, fa', fc', _, _, by omega, by omega, rfl, TrP.yes1 HR.out HP.out HRU.out.1 HRU.out.2.1 HRU.out.2.2 HZ.out, hT6, hb6⟩
        case measure => simp [intOf]
      · have hz' : z - f < lim := by omega
        have hd : decide (lim ≤ z - f) = false := decide_eq_false hz
        have HZ := Lib.hid hz'
        clear hz hz'
        go_wp2_with fail
        go_roundw
        case rel => exact ⟨2, k + 2 + 1, fa, fc, _, t, by omega, by omega, rfl, TrP.no1 HR.out HP.out HRU.out.1 HRU.out.2.1 HRU.out.2.2 HZ.out, hT4, hb4⟩
        case measure => simp [intOf]
    · obtain rfl : n = 0 := by omega
      rw [show ((0 + 1 + 1 : Nat) : Int) = 2 from rfl]
      go_wp2_with fail
      exact HFIN.out _ _ _ _ _ _ _ _ _ _ _ _ _ _ _ _ _ _ _ _ _ _ _ _ _ _ _ _ _ _ _ _ _ _ _ _ _ _ _ _ _ _ _ _ _ _ _ _ _ _ _ _ _ _ _ _ _ _ _ fa fc k s t wr HP.out hT hb
end Go.Proofs.Ytacioedolmaofaa
namespace Go.Proofs.Ytacioedolmaofaa
open Go.RowKit Go.Shelf
set_option maxHeartbeats 12800000
set_option maxRecDepth 100000
set_option linter.unusedSimpArgs false
set_option linter.unusedVariables false

/-- What is asked of the sheet that was made. -/
structure TrF (s : ISheet) (tb tc : Int) : Prop where
  fits : itFits s ⟨0, tb, tc⟩ = (true, 0)
  ub : itFits s ⟨0, -1, tc⟩ = (decide (tb = -1), 0)
  uc : itFits s ⟨0, tb, -1⟩ = (decide (tc = -1), 0)
  vb : itFits s ⟨0, (s.l.length : Int) - 1, tc⟩ = (false, 0)
  vc : itFits s ⟨0, tb, (s.l.length : Int) - 1⟩ = (false, 0)
  n0 : 0 < s.l.length
  n9 : s.l.length ≤ 9
theorem trF {e : Exact} (h : e.in') : TrF e.sheet e.tr.b e.tr.c := by
  have k := trailIs h
  have h9 := ((iok_iff _).1 (e.sheet_ok h)).2.2.2.2.2.2.2.2.2
  exact ⟨k.fits, k.ub, k.uc, k.vb, k.vc, by show 0 < (e.l2 ++ [exIm 1000 1000 e.z]).length; simp, h9⟩
theorem ttr_eql (a b c d e f : Int) (r : Bool) (h : (a == d && b == e && c == f) = r) (w : World) : (binOp .eql 32 (.agg #[.int .i64 a, .int .i64 b, .int .i64 c]) (.agg #[.int .i64 d, .int .i64 e, .int .i64 f])).run Try.prog w = .ok (.bool r) w := by
  rw [run_eql_struct, tr_eq, h]
  rfl

theorem ltr_end (b : Bool) (p q fc : Nat) (fa : Option Addr) (s : ISheet) (tb tc : Int) (w w2 : World) {z0 z2 z3 z4 z5 z7 z8 z9 z10 z12 z13 z14 z15 z16 z17 z18 z19 z20 z21 z22 z23 z24 z25 z26 z27 z28 z29 z30 z31 z32 z33 z34 z35 z36 z37 z38 z39 z40 z41 z42 z43 z44 z45 z46 z47 z48 z49 z50 z51 z52 z53 z54 z55 z56 z57 z58 z59 z60 z61 z62 z63 z64 z65 z66 z67 z68 z69 z70 z71 z72 z73 z74 z75 z76 z77 z78 z79 z80 z81 z82 z83 z84 z85 z86 z87 z88 z89 z90 z91 z92 z93 z94 z95 z96 z97 z98 z99 z100 z101 z102 z103 z104 z105 z106 z107 z108 z109 z110 z111 z112 z113 z114 z115 z116 z117 z118 z119 z120 z121 z122 z123 z124 z125 z126 z127 z128 z129 z130 z131 z132 z133 z134 z135 z136 z137 z138 z139 z140 z141 z142 z143 z144 z145 z146 z147 z148 z149 z150 z151 z152 z153 z154 z155 z156 z157 z158 z159 z160 z161 z162 z163 z164 z165 z166 z167 z168 z169 z170 z171 : Value} (HF : Hid (TrF s tb tc)) (HLEN : Hid (s.l.length < 9223372036854775807)) (hg2 : w2.heap[p]? = some (.cells #[.int .i64 s.ax.lo, .int .i64 s.ax.hi, .int .i64 s.ay.lo, .int .i64 s.ay.hi, .int .i64 s.bx.lo, .int .i64 s.bx.hi, .int .i64 s.by'.lo, .int .i64 s.by'.hi, .int .i64 s.f.lo, .int .i64 s.f.hi, .int .i64 s.g.lo, .int .i64 s.g.hi, .int .i64 s.limit, .int .i64 s.flaws, .slice fa s.l.length fc] 30)) (gt2 : w2.heap[q]? = some (.cells #[.int .i64 0, .int .i64 tb, .int .i64 tc] 32)) (him2 : ImSl w2 fa s.l) (hB2 : Below w.heap.size w w2) (K : Act → World → Prop)
    (hK : ∀ a w', Code.wp Try.prog (sndC' ((Try.f6.body.bind (findSu 22)).getD .skip)) (bodyPost Try.prog Try.f6 fun e w' => e = .returned (.bool true) ∧ Below w.heap.size w w') a w' → K a w') :
    Code.wp Try.prog (fstC' ((Try.f6.body.bind (findSu 22)).getD .skip)) (Exit.then K (bodyPost Try.prog Try.f6 fun e w' => e = .returned (.bool true) ∧ Below w.heap.size w w')) ⟨(z0::(.bool b)::z2::z3::z4::z5::(.pointer (some ⟨p, 0, none⟩))::z7::z8::z9::z10::(.pointer (some ⟨q, 0, none⟩))::z12::z13::z14::z15::z16::z17::z18::z19::z20::z21::z22::z23::z24::z25::z26::z27::z28::z29::z30::z31::z32::z33::z34::z35::z36::z37::z38::z39::z40::z41::z42::z43::z44::z45::z46::z47::z48::z49::z50::z51::z52::z53::z54::z55::z56::z57::z58::z59::z60::z61::z62::z63::z64::z65::z66::z67::z68::z69::z70::z71::z72::z73::z74::z75::z76::z77::z78::z79::z80::z81::z82::z83::z84::z85::z86::z87::z88::z89::z90::z91::z92::z93::z94::z95::z96::z97::z98::z99::z100::z101::z102::z103::z104::z105::z106::z107::z108::z109::z110::z111::z112::z113::z114::z115::z116::z117::z118::z119::z120::z121::z122::z123::z124::z125::z126::z127::z128::z129::z130::z131::z132::z133::z134::z135::z136::z137::z138::z139::z140::z141::z142::z143::z144::z145::z146::z147::z148::z149::z150::z151::z152::z153::z154::z155::z156::z157::z158::z159::z160::z161::z162::z163::z164::z165::z166::z167::z168::z169::z170::z171 :: []).toArray, []⟩ w2 := by
  conv => arg 2; whnf
  conv at hK => enter [a, w', 1, 2]; whnf
  cases b
  · obtain ⟨r, hr⟩ : ∃ r, decide (tb = -1) = r := ⟨_, rfl⟩
    have hub := HF.out.ub
    have hvb := HF.out.vb
    rw [hr] at hub
    have hEQ : ∀ w, (binOp .eql 32 (.agg #[.int .i64 0, .int .i64 tb, .int .i64 tc]) (.agg #[.int .i64 0, .int .i64 (-1), .int .i64 tc])).run Try.prog w = .ok (.bool r) w := ttr_eql _ _ _ _ _ _ _ (by rw [← hr]; simp; rfl)
    have HUB := Lib.hid hub
    have HVB := Lib.hid hvb
    clear hr hub hvb
    go_upto_region 25 with fail
    refine ltr_reg25 q ⟨0, tb, tc⟩ w2 gt2 _ _ ?_
    intro s130 s131 qu qv w3 ⟨gu, gv, hne, h9, h10, hb3⟩
    have hg3 := obj_later hb3 hg2
    have gt3 := obj_later hb3 gt2
    have hpl2 := (Array.getElem?_eq_some_iff.1 hg2).1
    have hql2 := (Array.getElem?_eq_some_iff.1 gt2).1
    have c14 := cell_block hg3 14
    simp only [gA, gB, gC] at c14
    go_upto_region 26 with fail
    refine ltr_reg26_1 p qu qv s.l.length fc fa ⟨0, tb, tc⟩ w3 HF.out.n0 (by have := HF.out.n9; omega) c14 (Array.getElem?_eq_some_iff.1 hg3).1 (by omega) (by omega) hne gu gv _ _ ?_
    intro s132 s133 s134 s135 s136 s137 s138 s139 w4 ⟨gu4, gv4, st4⟩
    have hg4 := st4.obj (k := p) (by omega) hg3
    have gt4 := st4.obj (k := q) (by omega) gt3
    have hs24 : Below w2.heap.size w2 w4 := hb3.trans (st4.below (B := w2.heap.size) hb3.size (fun j _ h => by omega))
    have him4 := him2.below hs24 (Nat.le_refl _)
    have hB4 := hB2.trans (hs24.mono hB2.size)
    clear gu gv hb3 hg3 gt3 hpl2 hql2 c14 st4 hs24 hg2 gt2 him2 hB2 h9 h10 hne
    have cz := fun k => cell_block hg4 k
    have r0 := cz 0
    have r1 := cz 1
    have r2 := cz 2
    have r3 := cz 3
    have r4 := cz 4
    have r5 := cz 5
    have r6 := cz 6
    have r7 := cz 7
    have r8 := cz 8
    have r9 := cz 9
    have r10 := cz 10
    have r11 := cz 11
    have r12 := cz 12
    have r13 := cz 13
    have r14 := cz 14
    clear cz
    simp only [gA, gB, gC] at r0 r1 r2 r3 r4 r5 r6 r7 r8 r9 r10 r11 r12 r13 r14
    have t0 := cell_block gu4 0
    have t1 := cell_block gu4 1
    have t2 := cell_block gu4 2
    simp only [gA, gB, gC] at t0 t1 t2
    have hcf := iFits_any s fa fc ⟨0, (-1), tc⟩ w4 him4 HLEN.out
    rw [HUB.out] at hcf
    dsimp only at hcf
    have HCF := Lib.hid hcf
    clear hcf
    go_wp2_with fail
    refine HCF.out.mono ?_
    rintro e w5 ⟨rfl, hb5⟩
    have hg5 := obj_later hb5 hg4
    have gt5 := obj_later hb5 gt4
    have gu5 := obj_later hb5 gu4
    have gv5 := obj_later hb5 gv4
    have him5 := him4.below hb5 (Nat.le_refl _)
    have hB5 := hB4.trans (hb5.mono hB4.size)
    clear r0 r1 r2 r3 r4 r5 r6 r7 r8 r9 r10 r11 r12 r13 r14
    clear t0 t1 t2 hb5 hg4 gt4 gu4 gv4 him4 hB4 HCF
    have cz := fun k => cell_block hg5 k
    have r0 := cz 0
    have r1 := cz 1
    have r2 := cz 2
    have r3 := cz 3
    have r4 := cz 4
    have r5 := cz 5
    have r6 := cz 6
    have r7 := cz 7
    have r8 := cz 8
    have r9 := cz 9
    have r10 := cz 10
    have r11 := cz 11
    have r12 := cz 12
    have r13 := cz 13
    have r14 := cz 14
    clear cz
    simp only [gA, gB, gC] at r0 r1 r2 r3 r4 r5 r6 r7 r8 r9 r10 r11 r12 r13 r14
    have t0 := cell_block gv5 0
    have t1 := cell_block gv5 1
    have t2 := cell_block gv5 2
    simp only [gA, gB, gC] at t0 t1 t2
    have hcf := iFits_any s fa fc ⟨0, ((s.l.length : Int) - 1), tc⟩ w5 him5 HLEN.out
    rw [HVB.out] at hcf
    dsimp only at hcf
    have HCF := Lib.hid hcf
    clear hcf
    go_wp2_with fail
    refine HCF.out.mono ?_
    rintro e w6 ⟨rfl, hb5⟩
    have hg6 := obj_later hb5 hg5
    have gt6 := obj_later hb5 gt5
    have gu6 := obj_later hb5 gu5
    have gv6 := obj_later hb5 gv5
    have him6 := him5.below hb5 (Nat.le_refl _)
    have hB6 := hB5.trans (hb5.mono hB5.size)
    clear r0 r1 r2 r3 r4 r5 r6 r7 r8 r9 r10 r11 r12 r13 r14
    clear t0 t1 t2 hb5 hg5 gt5 gu5 gv5 him5 hB5 HCF
    have t0 := cell_block gt6 0
    have t1 := cell_block gt6 1
    have t2 := cell_block gt6 2
    simp only [gA, gB, gC] at t0 t1 t2
    have u0 := cell_block gu6 0
    have u1 := cell_block gu6 1
    have u2 := cell_block gu6 2
    simp only [gA, gB, gC] at u0 u1 u2
    go_wp2_with fail
    clear t0 t1 t2 u0 u1 u2
    refine (iawake_any _).mono ?_
    rintro e w99 ⟨rfl, hb⟩
    go_wp2
    go_ret
    exact ⟨rfl, hB6.trans (hb.mono hB6.size)⟩
  · obtain ⟨r, hr⟩ : ∃ r, decide (tc = -1) = r := ⟨_, rfl⟩
    have hub := HF.out.uc
    have hvb := HF.out.vc
    rw [hr] at hub
    have hEQ : ∀ w, (binOp .eql 32 (.agg #[.int .i64 0, .int .i64 tb, .int .i64 tc]) (.agg #[.int .i64 0, .int .i64 tb, .int .i64 (-1)])).run Try.prog w = .ok (.bool r) w := ttr_eql _ _ _ _ _ _ _ (by rw [← hr]; simp; rfl)
    have HUB := Lib.hid hub
    have HVB := Lib.hid hvb
    clear hr hub hvb
    go_upto_region 25 with fail
    refine ltr_reg25 q ⟨0, tb, tc⟩ w2 gt2 _ _ ?_
    intro s130 s131 qu qv w3 ⟨gu, gv, hne, h9, h10, hb3⟩
    have hg3 := obj_later hb3 hg2
    have gt3 := obj_later hb3 gt2
    have hpl2 := (Array.getElem?_eq_some_iff.1 hg2).1
    have hql2 := (Array.getElem?_eq_some_iff.1 gt2).1
    have c14 := cell_block hg3 14
    simp only [gA, gB, gC] at c14
    go_upto_region 26 with fail
    refine ltr_reg26_2 p qu qv s.l.length fc fa ⟨0, tb, tc⟩ w3 HF.out.n0 (by have := HF.out.n9; omega) c14 (Array.getElem?_eq_some_iff.1 hg3).1 (by omega) (by omega) hne gu gv _ _ ?_
    intro s132 s133 s134 s135 s136 s137 s138 s139 w4 ⟨gu4, gv4, st4⟩
    have hg4 := st4.obj (k := p) (by omega) hg3
    have gt4 := st4.obj (k := q) (by omega) gt3
    have hs24 : Below w2.heap.size w2 w4 := hb3.trans (st4.below (B := w2.heap.size) hb3.size (fun j _ h => by omega))
    have him4 := him2.below hs24 (Nat.le_refl _)
    have hB4 := hB2.trans (hs24.mono hB2.size)
    clear gu gv hb3 hg3 gt3 hpl2 hql2 c14 st4 hs24 hg2 gt2 him2 hB2 h9 h10 hne
    have cz := fun k => cell_block hg4 k
    have r0 := cz 0
    have r1 := cz 1
    have r2 := cz 2
    have r3 := cz 3
    have r4 := cz 4
    have r5 := cz 5
    have r6 := cz 6
    have r7 := cz 7
    have r8 := cz 8
    have r9 := cz 9
    have r10 := cz 10
    have r11 := cz 11
    have r12 := cz 12
    have r13 := cz 13
    have r14 := cz 14
    clear cz
    simp only [gA, gB, gC] at r0 r1 r2 r3 r4 r5 r6 r7 r8 r9 r10 r11 r12 r13 r14
    have t0 := cell_block gu4 0
    have t1 := cell_block gu4 1
    have t2 := cell_block gu4 2
    simp only [gA, gB, gC] at t0 t1 t2
    have hcf := iFits_any s fa fc ⟨0, tb, (-1)⟩ w4 him4 HLEN.out
    rw [HUB.out] at hcf
    dsimp only at hcf
    have HCF := Lib.hid hcf
    clear hcf
    go_wp2_with fail
    refine HCF.out.mono ?_
    rintro e w5 ⟨rfl, hb5⟩
    have hg5 := obj_later hb5 hg4
    have gt5 := obj_later hb5 gt4
    have gu5 := obj_later hb5 gu4
    have gv5 := obj_later hb5 gv4
    have him5 := him4.below hb5 (Nat.le_refl _)
    have hB5 := hB4.trans (hb5.mono hB4.size)
    clear r0 r1 r2 r3 r4 r5 r6 r7 r8 r9 r10 r11 r12 r13 r14
    clear t0 t1 t2 hb5 hg4 gt4 gu4 gv4 him4 hB4 HCF
    have cz := fun k => cell_block hg5 k
    have r0 := cz 0
    have r1 := cz 1
    have r2 := cz 2
    have r3 := cz 3
    have r4 := cz 4
    have r5 := cz 5
    have r6 := cz 6
    have r7 := cz 7
    have r8 := cz 8
    have r9 := cz 9
    have r10 := cz 10
    have r11 := cz 11
    have r12 := cz 12
    have r13 := cz 13
    have r14 := cz 14
    clear cz
    simp only [gA, gB, gC] at r0 r1 r2 r3 r4 r5 r6 r7 r8 r9 r10 r11 r12 r13 r14
    have t0 := cell_block gv5 0
    have t1 := cell_block gv5 1
    have t2 := cell_block gv5 2
    simp only [gA, gB, gC] at t0 t1 t2
    have hcf := iFits_any s fa fc ⟨0, tb, ((s.l.length : Int) - 1)⟩ w5 him5 HLEN.out
    rw [HVB.out] at hcf
    dsimp only at hcf
    have HCF := Lib.hid hcf
    clear hcf
    go_wp2_with fail
    refine HCF.out.mono ?_
    rintro e w6 ⟨rfl, hb5⟩
    have hg6 := obj_later hb5 hg5
    have gt6 := obj_later hb5 gt5
    have gu6 := obj_later hb5 gu5
    have gv6 := obj_later hb5 gv5
    have him6 := him5.below hb5 (Nat.le_refl _)
    have hB6 := hB5.trans (hb5.mono hB5.size)
    clear r0 r1 r2 r3 r4 r5 r6 r7 r8 r9 r10 r11 r12 r13 r14
    clear t0 t1 t2 hb5 hg5 gt5 gu5 gv5 him5 hB5 HCF
    have t0 := cell_block gt6 0
    have t1 := cell_block gt6 1
    have t2 := cell_block gt6 2
    simp only [gA, gB, gC] at t0 t1 t2
    have u0 := cell_block gu6 0
    have u1 := cell_block gu6 1
    have u2 := cell_block gu6 2
    simp only [gA, gB, gC] at u0 u1 u2
    go_wp2_with fail
    clear t0 t1 t2 u0 u1 u2
    refine (iawake_any _).mono ?_
    rintro e w99 ⟨rfl, hb⟩
    go_wp2
    go_ret
    exact ⟨rfl, hB6.trans (hb.mono hB6.size)⟩
end Go.Proofs.Ytacioedolmaofaa
