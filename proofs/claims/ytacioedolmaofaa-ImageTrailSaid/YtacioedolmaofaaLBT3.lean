/- Rows of images that a call appends to; what ImageTrail has made so far, in memory. ImageTrail, walked: an exact image; the star. ImageTrail, walked: an exposure's step, and fade. ImageTrail, walked: an image more. -/
import Derived.Test.YtacioedolmaofaaLBA13
import Derived.Test.YtacioedolmaofaaLBT2
import Derived.Test.YtacioedolmaofaaLBT1
import Derived.Test.YtacioedolmaofaaLBA12
import Derived.Test.YtacioedolmaofaaLBA24
namespace Go.Proofs.Ytacioedolmaofaa
open Go.RowKit Go.Shelf
set_option maxHeartbeats 1600000
set_option maxRecDepth 100000
set_option linter.unusedSimpArgs false
set_option linter.unusedVariables false

theorem infoSp : (Try.prog.info? 61).map (fun i => (i.zero, i.size, i.bytes)) = some (some (.agg #[.int .i64 0, .int .i64 0, .int .i64 0, .int .i64 0, .int .i64 0, .int .i64 0]), 6, 48) := by kernel_rfl
/-- The statement whose first part is a region, wherever it stands. -/
def findSu (n : Nat) : Code → Option Code
  | .seq a b => if isReg n a then some (.seq a b) else match findSu n a with
    | some c => some c
    | none => findSu n b
  | .cond _ a b => match findSu n a with
    | some c => some c
    | none => findSu n b
  | .block _ c => findSu n c
  | .loop c => findSu n c
  | .scope c => findSu n c
  | _ => none
theorem imsCells_snoc (l : List ISpot) (x : ISpot) : imsCells (l ++ [x]) = imsCells l ++ imCells x := by simp [imsCells]
theorem ImSl.owned {w : World} {base : Nat} {a : Option Addr} {c : Nat} {l : List ISpot} (h : w.ownsRow base 61 6 (.slice a l.length c) l.length (imsCells l)) : ImSl w a l := by
  rcases h.2 with ⟨he, hn⟩ | ⟨g, cap, cur, he, hb, hg, hnc, hcm, hcs, htake⟩
  · intro k hk
    rw [hn] at hk
    cases hk
  · cases he
    exact ImSl.of_cells hg (fun i hi => by rw [← htake, List.getElem?_take, if_pos hi, Array.getElem?_toList])
/-- An image more in an owned row. -/
theorem putIm {w : World} {base : Nat} {v : Value} {l : List ISpot} (x : ISpot) (ho : w.ownsRow base 61 6 v l.length (imsCells l)) (hl : l.length ≤ 5000) (hbase : base ≤ w.heap.size) :
    ∃ v' w', (Builtin.append_ #[28, 28] 28 #[v, .slice (some ⟨w.heap.size, 0, none⟩) 1 1]).run Try.prog (w.alloc (.cells #[.int .i64 x.x.lo, .int .i64 x.x.hi, .int .i64 x.y.lo, .int .i64 x.y.hi, .int .i64 x.s.lo, .int .i64 x.s.hi] 61)) = .ok v' w' ∧ w'.ownsRow base 61 6 v' (l ++ [x]).length (imsCells (l ++ [x])) ∧ w.grownBy w' v.ownBlock ∧ RowNext w v v' := by
  obtain ⟨i0, hi, hz0, hz1, hz2⟩ := info_parts infoSp
  obtain ⟨v', w', hrun, hown', hgrow, hnext⟩ := appendSome (w.alloc (.cells #[.int .i64 x.x.lo, .int .i64 x.x.hi, .int .i64 x.y.lo, .int .i64 x.y.hi, .int .i64 x.s.lo, .int .i64 x.s.hi] 61)) base 28 61 i0 _ 6 48 Try.underlying28 hi hz0 hz1 hz2 rfl (by decide) v l.length _ (ho.alloc _) (imCells x) rfl (imCells_one x) w.heap.size 1 (fun j u h => cell_new _ _ _ j _ (by rw [← h]; unfold imCells; simp)) (by omega) (by unfold maxLen; omega) (by rw [World.size_alloc]; omega)
  refine ⟨v', w', hrun, by rw [imsCells_snoc, List.length_append]; exact hown', grown_trans (World.grownBy_alloc w _ _) hgrow (.inl rfl), ?_⟩
  rcases hnext with h | ⟨g, h1, h2⟩
  · exact .inl h
  · exact .inr ⟨g, h1, by rw [World.size_alloc] at h2; omega⟩
/-- A row of one image, in a new block. -/
theorem oneIm (w : World) (base : Nat) (x : ISpot) (hb : base ≤ w.heap.size) : (w.alloc (.cells #[.int .i64 x.x.lo, .int .i64 x.x.hi, .int .i64 x.y.lo, .int .i64 x.y.hi, .int .i64 x.s.lo, .int .i64 x.s.hi] 61)).ownsRow base 61 6 (.slice (some ⟨w.heap.size, 0, none⟩) 1 1) 1 (imsCells [x]) :=
  ⟨rfl, .inr ⟨w.heap.size, 1, _, rfl, hb, obj_new w _, Nat.le_refl _, by decide, rfl, rfl⟩⟩

/-- What ImageTrail has made: the sheet in block p, its images in a row of their own, the trail in block q, how much was drawn. -/
structure TrM (w : World) (p q pc pb : Nat) (a : Option Addr) (c : Nat) (xs : List Nat) (k : Nat) (s : ISheet) (fa : Option Addr) (fc : Nat) (t : ITr) : Prop where
  ds : DrawSt w pc pb a c xs k
  sh : w.heap[p]? = some (.cells #[.int .i64 s.ax.lo, .int .i64 s.ax.hi, .int .i64 s.ay.lo, .int .i64 s.ay.hi, .int .i64 s.bx.lo, .int .i64 s.bx.hi, .int .i64 s.by'.lo, .int .i64 s.by'.hi, .int .i64 s.f.lo, .int .i64 s.f.hi, .int .i64 s.g.lo, .int .i64 s.g.hi, .int .i64 s.limit, .int .i64 s.flaws, .slice fa s.l.length fc] 30)
  row : w.ownsRow (q + 1) 61 6 (.slice fa s.l.length fc) s.l.length (imsCells s.l)
  tr : w.heap[q]? = some (.cells #[.int .i64 t.a, .int .i64 t.b, .int .i64 t.c] 32)
  lp : pc < p
  lq : p < q
section
variable {w w' : World} {p q pc pb : Nat} {a : Option Addr} {c : Nat} {xs : List Nat} {k : Nat} {s : ISheet} {fa : Option Addr} {fc : Nat} {t : ITr}
theorem TrM.qlt (h : TrM w p q pc pb a c xs k s fa fc t) : q < w.heap.size := (Array.getElem?_eq_some_iff.1 h.tr).1
theorem TrM.plt (h : TrM w p q pc pb a c xs k s fa fc t) : p < w.heap.size := (Array.getElem?_eq_some_iff.1 h.sh).1
theorem TrM.im (h : TrM w p q pc pb a c xs k s fa fc t) : ImSl w fa s.l := ImSl.owned h.row
theorem TrM.later (h : TrM w p q pc pb a c xs k s fa fc t) (hb : Below w.heap.size w w') : TrM w' p q pc pb a c xs k s fa fc t :=
  ⟨h.ds.below hb, obj_later hb h.sh, ownsRow_same h.row (fun g hg => hb.block g (h.row.lt g hg).2), obj_later hb h.tr, h.lp, h.lq⟩
theorem TrM.draw {k' : Nat} (h : TrM w p q pc pb a c xs k s fa fc t) (hd : DrawSt w' pc pb a c xs k') (hg : w.grownBy w' (some pc)) : TrM w' p q pc pb a c xs k' s fa fc t :=
  ⟨hd, (hg.block p h.plt (fun e => by have := Option.some.inj e; have := h.lp; omega)).trans h.sh,
   ownsRow_same h.row (fun g hgg => hg.block g (h.row.lt g hgg).2 (fun e => by have := Option.some.inj e; have := (h.row.lt g hgg).1; have := h.lp; have := h.lq; omega)),
   (hg.block q h.qlt (fun e => by have := Option.some.inj e; have := h.lp; have := h.lq; omega)).trans h.tr, h.lp, h.lq⟩
/-- The sheet's own block was written. -/
theorem TrM.put {s' : ISheet} {fa' : Option Addr} {fc' : Nat} (h : TrM w p q pc pb a c xs k s fa fc t) (hs : Steps (fun j => j = p) w w')
    (hn : w'.heap[p]? = some (.cells #[.int .i64 s'.ax.lo, .int .i64 s'.ax.hi, .int .i64 s'.ay.lo, .int .i64 s'.ay.hi, .int .i64 s'.bx.lo, .int .i64 s'.bx.hi, .int .i64 s'.by'.lo, .int .i64 s'.by'.hi, .int .i64 s'.f.lo, .int .i64 s'.f.hi, .int .i64 s'.g.lo, .int .i64 s'.g.hi, .int .i64 s'.limit, .int .i64 s'.flaws, .slice fa' s'.l.length fc'] 30))
    (hr : w.ownsRow (q + 1) 61 6 (.slice fa' s'.l.length fc') s'.l.length (imsCells s'.l)) : TrM w' p q pc pb a c xs k s' fa' fc' t :=
  ⟨h.ds.other (fun i hi => hs.block i (Nat.lt_of_le_of_lt hi h.ds.size) (fun e => by have := h.lp; omega)), hn,
   ownsRow_same hr (fun g hgg => hs.block g (hr.lt g hgg).2 (fun e => by have := (hr.lt g hgg).1; have := h.lq; omega)),
   (hs.block q h.qlt (fun e => by have := h.lq; omega)).trans h.tr, h.lp, h.lq⟩
/-- The trail was written. -/
theorem TrM.putT {t' : ITr} (h : TrM w p q pc pb a c xs k s fa fc t) (hs : Steps (fun j => j = q) w w') (hn : w'.heap[q]? = some (.cells #[.int .i64 t'.a, .int .i64 t'.b, .int .i64 t'.c] 32)) : TrM w' p q pc pb a c xs k s fa fc t' :=
  ⟨h.ds.other (fun i hi => hs.block i (Nat.lt_of_le_of_lt hi h.ds.size) (fun e => by have := h.lp; have := h.lq; omega)), (hs.block p h.plt (fun e => by have := h.lq; omega)).trans h.sh,
   ownsRow_same h.row (fun g hgg => hs.block g (h.row.lt g hgg).2 (fun e => by have := (h.row.lt g hgg).1; omega)), hn, h.lp, h.lq⟩
/-- An image was appended, the sheet's block not yet written. -/
theorem TrM.grow {v' : Value} {cs : List Value} {n : Nat} (h : TrM w p q pc pb a c xs k s fa fc t) (hg : w.grownBy w' (Value.slice fa s.l.length fc).ownBlock) (hr : w'.ownsRow (q + 1) 61 6 v' n cs) :
    DrawSt w' pc pb a c xs k ∧ w'.heap[p]? = w.heap[p]? ∧ w'.heap[q]? = w.heap[q]? ∧ Below (q + 1) w w' := by
  have hge : ∀ g, (Value.slice fa s.l.length fc).ownBlock = some g → q + 1 ≤ g := fun g hgg => (h.row.lt g hgg).1
  have hB : Below (q + 1) w w' := ⟨hg.os, hg.tape, hg.output, hg.size, fun g hgg => hg.block g (by have := h.qlt; omega) (fun e => by have := hge g e.symm; omega)⟩
  have := h.lp
  have := h.lq
  exact ⟨h.ds.other (fun i hi => hB.block i (by omega)), hB.block p (by omega), hB.block q (by omega), hB⟩
end
end Go.Proofs.Ytacioedolmaofaa
namespace Go.Proofs.Ytacioedolmaofaa
open Go.RowKit Go.Shelf
set_option maxHeartbeats 12800000
set_option maxRecDepth 100000
set_option linter.unusedSimpArgs false
set_option linter.unusedVariables false

theorem ilexact_any (x y z : Int) (w : World) : Calls Try.prog 32 #[.int .i64 x, .int .i64 y, .int .i64 z] w fun u w' => u = .returned (.agg #[.int .i64 x, .int .i64 x, .int .i64 y, .int .i64 y, .int .i64 z, .int .i64 z]) ∧ Below w.heap.size w w' := by
  go_enter Try.func32, Try.ntmps32
  go_wp2_with fail
  have hn := obj_new w (.cells #[.int .i64 0, .int .i64 0, .int .i64 0, .int .i64 0, .int .i64 0, .int .i64 0] 61)
  have hb := below_alloc w (.cells #[.int .i64 0, .int .i64 0, .int .i64 0, .int .i64 0, .int .i64 0, .int .i64 0] 61)
  generalize w.alloc (.cells #[.int .i64 0, .int .i64 0, .int .i64 0, .int .i64 0, .int .i64 0, .int .i64 0] 61) = w1 at hn hb ⊢
  obtain ⟨q, hq⟩ : ∃ q, w.heap.size = q := ⟨_, rfl⟩
  rw [hq] at hn hb
  try rw [hq]
  have HZ := Lib.hid hq
  clear hq
  refine (ilspot_any x x y y z z w1).mono ?_
  rintro u w2 ⟨rfl, hb2⟩
  have h4 := obj_later hb2 hn
  have hB : Below q w w2 := hb.trans (hb2.mono (by have := (Array.getElem?_eq_some_iff.1 hn).1; omega))
  clear hn hb hb2
  have c0 := cell_block h4 0
  have c1 := cell_block h4 1
  have c2 := cell_block h4 2
  have c3 := cell_block h4 3
  have c4 := cell_block h4 4
  have c5 := cell_block h4 5
  have f0 := frozen_block h4 0
  have f1 := frozen_block h4 1
  have f2 := frozen_block h4 2
  have f3 := frozen_block h4 3
  have f4 := frozen_block h4 4
  have f5 := frozen_block h4 5
  simp only [gA, gB, gC] at c0 c1 c2 c3 c4 c5
  go_wp2_with fail
  have zz := six_same (.int .i64 x) (.int .i64 x) (.int .i64 y) (.int .i64 y) (.int .i64 z) (.int .i64 z) h4
  have hP := six_below (p := q) (.int .i64 x) (.int .i64 x) (.int .i64 y) (.int .i64 y) (.int .i64 z) (.int .i64 z) hB (Nat.le_refl _)
  have m0 := cell_block zz 0
  have m1 := cell_block zz 1
  have m2 := cell_block zz 2
  have m3 := cell_block zz 3
  have m4 := cell_block zz 4
  have m5 := cell_block zz 5
  simp only [gA, gB, gC] at m0 m1 m2 m3 m4 m5
  exact bodyPost_ret (v := .agg #[.int .i64 x, .int .i64 x, .int .i64 y, .int .i64 y, .int .i64 z, .int .i64 z]) (by simp [results, Try.results32, go_sem, m0, m1, m2, m3, m4, m5]) rfl ⟨rfl, by rw [HZ.out]; exact hP⟩
theorem grown_below {w w' : World} {g B : Nat} (h : w.grownBy w' (some g)) (hg : B ≤ g) (hB : B ≤ w.heap.size) : Below B w w' := ⟨h.os, h.tape, h.output, h.size, fun i hi => h.block i (by omega) (fun e => by have := Option.some.inj e; omega)⟩

theorem ltr_reg5 (pc pb : Nat) (a : Option Addr) (c : Nat) (xs : List Nat) (k p : Nat) (lim : Int) (wA : World) {z0 z1 z2 z3 z4 z10 z11 z12 z13 z14 z15 z16 z17 z18 z19 z20 z21 z22 z23 z24 z25 z26 z27 z28 z29 z30 z31 z32 z33 z34 z46 z47 z48 z49 z50 z51 z52 z53 z54 z55 z56 z57 z58 z59 z60 z61 z62 z63 z64 z65 z66 z67 z68 z69 z70 z71 z72 z73 z74 z75 z76 z77 z78 z79 z80 z81 z82 z83 z84 z85 z86 z87 z88 z89 z90 z91 z92 z93 z94 z95 z96 z97 z98 z99 z100 z101 z102 z103 z104 z105 z106 z107 z108 z109 z110 z111 z112 z113 z114 z115 z116 z117 z118 z119 z120 z121 z122 z123 z124 z125 z126 z127 z128 z129 z130 z131 z132 z133 z134 z135 z136 z137 z138 z139 z140 z141 z142 z143 z144 z145 z146 z147 z148 z149 z150 z151 z152 z153 z154 z155 z156 z157 z158 z159 z160 z161 z162 z163 z164 z165 z166 z167 z168 z169 z170 z171 : Value} {z7 z8 z9 z35 z36 z37 z38 z39 z40 z41 z42 z43 z44 z45 : Value} (hx : Hid (NumsOk xs)) (hk : k ≤ 900) (hlim : 10 ≤ lim ∧ lim ≤ 29) (hd : DrawSt wA pc pb a c xs k) (hpc : pc < p) (hpl : p < wA.heap.size) (hc : wA.cell? ⟨p, 12, none⟩ = some (.int .i64 lim)) (K : Act → World → Prop) (Q : Exit → Act → World → Prop)
    (hfin : ∀ (s35 s36 s37 s38 s39 s40 s41 s42 s43 s44 s45 : Value) (x y z : Int) (w3 : World), (100 ≤ x ∧ x ≤ 399) → (100 ≤ y ∧ y ≤ 399) → (lim ≤ z ∧ z ≤ lim + 29) → DrawSt w3 pc pb a c xs (k + 3) → wA.grownBy w3 (some pc) → K ⟨(z0::z1::z2::z3::z4::(.func (.func 61) #[] #[.pointer (some ⟨pc, 0, none⟩), .pointer (some ⟨pb, 0, none⟩)])::(.pointer (some ⟨p, 0, none⟩))::(.int .i64 x)::(.int .i64 y)::(.int .i64 z)::z10::z11::z12::z13::z14::z15::z16::z17::z18::z19::z20::z21::z22::z23::z24::z25::z26::z27::z28::z29::z30::z31::z32::z33::z34::s35::s36::s37::s38::s39::s40::s41::s42::s43::s44::s45::z46::z47::z48::z49::z50::z51::z52::z53::z54::z55::z56::z57::z58::z59::z60::z61::z62::z63::z64::z65::z66::z67::z68::z69::z70::z71::z72::z73::z74::z75::z76::z77::z78::z79::z80::z81::z82::z83::z84::z85::z86::z87::z88::z89::z90::z91::z92::z93::z94::z95::z96::z97::z98::z99::z100::z101::z102::z103::z104::z105::z106::z107::z108::z109::z110::z111::z112::z113::z114::z115::z116::z117::z118::z119::z120::z121::z122::z123::z124::z125::z126::z127::z128::z129::z130::z131::z132::z133::z134::z135::z136::z137::z138::z139::z140::z141::z142::z143::z144::z145::z146::z147::z148::z149::z150::z151::z152::z153::z154::z155::z156::z157::z158::z159::z160::z161::z162::z163::z164::z165::z166::z167::z168::z169::z170::z171 :: []).toArray, []⟩ w3) :
    Code.wp Try.prog ((Try.f6.body.bind (findReg 5)).getD .skip) (Exit.then K Q) ⟨(z0::z1::z2::z3::z4::(.func (.func 61) #[] #[.pointer (some ⟨pc, 0, none⟩), .pointer (some ⟨pb, 0, none⟩)])::(.pointer (some ⟨p, 0, none⟩))::z7::z8::z9::z10::z11::z12::z13::z14::z15::z16::z17::z18::z19::z20::z21::z22::z23::z24::z25::z26::z27::z28::z29::z30::z31::z32::z33::z34::z35::z36::z37::z38::z39::z40::z41::z42::z43::z44::z45::z46::z47::z48::z49::z50::z51::z52::z53::z54::z55::z56::z57::z58::z59::z60::z61::z62::z63::z64::z65::z66::z67::z68::z69::z70::z71::z72::z73::z74::z75::z76::z77::z78::z79::z80::z81::z82::z83::z84::z85::z86::z87::z88::z89::z90::z91::z92::z93::z94::z95::z96::z97::z98::z99::z100::z101::z102::z103::z104::z105::z106::z107::z108::z109::z110::z111::z112::z113::z114::z115::z116::z117::z118::z119::z120::z121::z122::z123::z124::z125::z126::z127::z128::z129::z130::z131::z132::z133::z134::z135::z136::z137::z138::z139::z140::z141::z142::z143::z144::z145::z146::z147::z148::z149::z150::z151::z152::z153::z154::z155::z156::z157::z158::z159::z160::z161::z162::z163::z164::z165::z166::z167::z168::z169::z170::z171 :: []).toArray, []⟩ wA := by
  have HFIN := Lib.hid hfin
  clear hfin
  have k12 : ∀ W' : World, W'.heap[p]? = wA.heap[p]? → W'.cell? ⟨p, 12, none⟩ = some (.int .i64 lim) := fun W' h => (World.cell?_of_block h).trans hc
  have hd0 := hd.below (below_drew wA)
  have hg0 : wA.grownBy wA.drew (some pc) := Below.grownB (below_drew wA) _
  have h10 : wA.drew.heap[p]? = wA.heap[p]? := (below_drew wA).block p hpl
  obtain ⟨hl1, hl2⟩ := hlim
  clear hd hc
  conv => arg 2; whnf
  refine (wpIn_wide (n := 1)).1 ?_
  refine wpIn_region_Wn (S := fun W' => W'.heap[p]? = wA.heap[p]?) 14 (by kernel_rfl) (by kernel_rfl) (by exact h10) (fun hHeld => ?_)
  clear h10
  refine wTk 0 35 ?_ ?_ ?_
  rotate_left
  · intro o h w k; (try dsimp only at k); simp only [gA, gB, gC, gG] at h; subst h; go_simp; try with_reducible rfl
  simp only [Act.put, gD, gE, gF]
  refine wTk 3 38 ?_ ?_ ?_
  rotate_left
  · intro o h w k; (try dsimp only at k); simp only [gA, gB, gC, gG] at h; subst h; go_simp; try with_reducible rfl
  simp only [Act.put, gD, gE, gF]
  refine wTk 6 41 ?_ ?_ ?_
  rotate_left
  · intro o h w k; (try dsimp only at k); simp only [gA, gB, gC, gG] at h; subst h; go_simp; try with_reducible rfl
  simp only [Act.put, gD, gE, gF]
  refine wTk 7 42 ?_ ?_ ?_
  rotate_left
  · intro o h w k; (try dsimp only at k); simp only [gA, gB, gC, gG] at h; subst h; go_simp; try with_reducible rfl
  simp only [Act.put, gD, gE, gF]
  refine wTk 8 43 ?_ ?_ ?_
  rotate_left
  · intro o h w k; (try dsimp only at k); simp only [gA, gB, gC, gG] at h; subst h; go_simp; try with_reducible rfl
  simp only [Act.put, gD, gE, gF]
  clear k12
  refine wpAnyW_one 1 (by kernel_rfl) (by kernel_rfl) ?_
  intro o ho K hK
  simp only [gA, gB, gC, gG] at ho
  subst ho
  go_simp
  refine ⟨trivial, CallsIn.mono (callsIn_wide.2 (idraw_any 300 pc pb a c xs (k + 0) hx.out (by omega) (by omega) _ hd0)) ?_⟩
  rintro e W1 ⟨r1, hr1, rfl, hd1, hgg1⟩
  have hg1 := grown_trans hg0 hgg1 (.inl rfl)
  have hH1 : W1.heap[p]? = wA.heap[p]? := (hgg1.block p (by have := hg0.size; omega) (fun e => by have := Option.some.inj e; omega)).trans hHeld
  refine hK _ _ hH1 (fun _ => ?_)
  clear hK K hgg1 hd0 hHeld
  try simp only [Act.put, gD, gE, gF]
  have e1 : IntKind.i64.wrap (100 + (r1 : Int)) = 100 + (r1 : Int) := by rw [IntKind.wrap_i64]; omega
  refine wTk 2 37 ?_ ?_ ?_
  rotate_left
  · intro o h w k; (try dsimp only at k); simp only [gA, gB, gC, gG] at h; subst h; go_simp; try with_reducible rfl
  simp only [Act.put, gD, gE, gF]
  refine wpAnyW_one 4 (by kernel_rfl) (by kernel_rfl) ?_
  intro o ho K hK
  simp only [gA, gB, gC, gG] at ho
  subst ho
  go_simp
  refine ⟨trivial, CallsIn.mono (callsIn_wide.2 (idraw_any 300 pc pb a c xs (k + 1) hx.out (by omega) (by omega) _ hd1)) ?_⟩
  rintro e W2 ⟨r2, hr2, rfl, hd2, hgg2⟩
  have hg2 := grown_trans hg1 hgg2 (.inl rfl)
  have hH2 : W2.heap[p]? = wA.heap[p]? := (hgg2.block p (by have := hg1.size; omega) (fun e => by have := Option.some.inj e; omega)).trans hH1
  refine hK _ _ hH2 (fun _ => ?_)
  clear hK K hgg2 hd1 hH1
  try simp only [Act.put, gD, gE, gF]
  have e2 : IntKind.i64.wrap (100 + (r2 : Int)) = 100 + (r2 : Int) := by rw [IntKind.wrap_i64]; omega
  refine wTk 5 40 ?_ ?_ ?_
  rotate_left
  · intro o h w k; (try dsimp only at k); simp only [gA, gB, gC, gG] at h; subst h; go_simp; try with_reducible rfl
  simp only [Act.put, gD, gE, gF]
  refine wpAnyW_one 9 (by kernel_rfl) (by kernel_rfl) ?_
  intro o ho K hK
  simp only [gA, gB, gC, gG] at ho
  subst ho
  go_simp
  refine ⟨trivial, CallsIn.mono (callsIn_wide.2 (idraw_any 30 pc pb a c xs (k + 2) hx.out (by omega) (by omega) _ hd2)) ?_⟩
  rintro e W3 ⟨r3, hr3, rfl, hd3, hgg3⟩
  have hg3 := grown_trans hg2 hgg3 (.inl rfl)
  have hH3 : W3.heap[p]? = wA.heap[p]? := (hgg3.block p (by have := hg2.size; omega) (fun e => by have := Option.some.inj e; omega)).trans hH2
  refine hK _ _ hH3 (fun _ => ?_)
  clear hK K hgg3 hd2 hH2
  try simp only [Act.put, gD, gE, gF]
  have e3 : IntKind.i64.wrap (lim + (r3 : Int)) = lim + (r3 : Int) := by rw [IntKind.wrap_i64]; omega
  refine wTk 10 45 ?_ ?_ ?_
  rotate_left
  · intro o h w k; (try dsimp only at k); simp only [gA, gB, gC, gG] at h; subst h; go_simp; try with_reducible rfl
  simp only [Act.put, gD, gE, gF]
  refine wTk 11 7 ?_ ?_ ?_
  rotate_left
  · intro o h w k; (try dsimp only at k); simp only [gA, gB, gC, gG] at h; subst h; go_simp; try with_reducible rfl
  simp only [Act.put, gD, gE, gF]
  refine wTk 12 8 ?_ ?_ ?_
  rotate_left
  · intro o h w k; (try dsimp only at k); simp only [gA, gB, gC, gG] at h; subst h; go_simp; try with_reducible rfl
  simp only [Act.put, gD, gE, gF]
  refine wTk 13 9 ?_ ?_ ?_
  rotate_left
  · intro o h w k; (try dsimp only at k); simp only [gA, gB, gC, gG] at h; subst h; go_simp; try with_reducible rfl
  simp only [Act.put, gD, gE, gF]
  refine wpAnyW_done (by kernel_rfl) ?_ _
  dsimp only [onNormal]
  exact HFIN.out _ _ _ _ _ _ _ _ _ _ _ (100 + (r1 : Int)) (100 + (r2 : Int)) (lim + (r3 : Int)) W3 (by omega) (by omega) (by omega) hd3 hg3
end Go.Proofs.Ytacioedolmaofaa
namespace Go.Proofs.Ytacioedolmaofaa
open Go.RowKit Go.Shelf
set_option maxHeartbeats 12800000
set_option maxRecDepth 100000
set_option linter.unusedSimpArgs false
set_option linter.unusedVariables false

theorem ltr_reg13_0 (pc pb : Nat) (a : Option Addr) (c : Nat) (xs : List Nat) (k p q : Nat) (s : ISheet) (fa : Option Addr) (fc : Nat) (t : ITr) (u v f : Int) (wA : World) {z0 z1 z2 z3 z4 z5 z7 z8 z9 z10 z11 z16 z17 z18 z19 z20 z21 z22 z23 z24 z25 z26 z27 z28 z29 z30 z31 z32 z33 z34 z35 z36 z37 z38 z39 z40 z41 z42 z43 z44 z45 z46 z47 z48 z49 z50 z51 z52 z53 z54 z55 z56 z57 z58 z59 z60 z61 z62 z63 z80 z81 z82 z83 z84 z85 z86 z87 z88 z89 z90 z91 z92 z93 z94 z95 z96 z97 z98 z99 z100 z101 z102 z103 z104 z105 z106 z107 z108 z109 z110 z111 z112 z113 z114 z115 z116 z117 z118 z119 z120 z121 z122 z123 z124 z125 z126 z127 z128 z129 z130 z131 z132 z133 z134 z135 z136 z137 z138 z139 z140 z141 z142 z143 z144 z145 z146 z147 z148 z149 z150 z151 z152 z153 z154 z155 z156 z157 z158 z159 z160 z161 z162 z163 z164 z165 z166 z167 z168 z169 z170 z171 : Value} {z64 z65 z66 z67 z68 z69 z70 z71 z72 z73 z74 z75 z76 z77 z78 z79 : Value} (hT : TrM wA p q pc pb a c xs k s fa fc t) (K : Act → World → Prop) (Q : Exit → Act → World → Prop)
    (hfin : ∀ (s64 s65 s66 s67 s68 s69 s70 s71 s72 s73 s74 s75 s76 s77 s78 s79 : Value) (w3 : World), TrM w3 p q pc pb a c xs k { s with ax := exSp u, ay := exSp v, f := exSp f } fa fc t → Below pc wA w3 → K ⟨(z0::z1::z2::z3::z4::z5::(.pointer (some ⟨p, 0, none⟩))::z7::z8::z9::z10::z11::(.int .i64 0)::(.int .i64 u)::(.int .i64 v)::(.int .i64 f)::z16::z17::z18::z19::z20::z21::z22::z23::z24::z25::z26::z27::z28::z29::z30::z31::z32::z33::z34::z35::z36::z37::z38::z39::z40::z41::z42::z43::z44::z45::z46::z47::z48::z49::z50::z51::z52::z53::z54::z55::z56::z57::z58::z59::z60::z61::z62::z63::s64::s65::s66::s67::s68::s69::s70::s71::s72::s73::s74::s75::s76::s77::s78::s79::z80::z81::z82::z83::z84::z85::z86::z87::z88::z89::z90::z91::z92::z93::z94::z95::z96::z97::z98::z99::z100::z101::z102::z103::z104::z105::z106::z107::z108::z109::z110::z111::z112::z113::z114::z115::z116::z117::z118::z119::z120::z121::z122::z123::z124::z125::z126::z127::z128::z129::z130::z131::z132::z133::z134::z135::z136::z137::z138::z139::z140::z141::z142::z143::z144::z145::z146::z147::z148::z149::z150::z151::z152::z153::z154::z155::z156::z157::z158::z159::z160::z161::z162::z163::z164::z165::z166::z167::z168::z169::z170::z171 :: []).toArray, []⟩ w3) :
    Code.wp Try.prog ((Try.f6.body.bind (findReg 13)).getD .skip) (Exit.then K Q) ⟨(z0::z1::z2::z3::z4::z5::(.pointer (some ⟨p, 0, none⟩))::z7::z8::z9::z10::z11::(.int .i64 0)::(.int .i64 u)::(.int .i64 v)::(.int .i64 f)::z16::z17::z18::z19::z20::z21::z22::z23::z24::z25::z26::z27::z28::z29::z30::z31::z32::z33::z34::z35::z36::z37::z38::z39::z40::z41::z42::z43::z44::z45::z46::z47::z48::z49::z50::z51::z52::z53::z54::z55::z56::z57::z58::z59::z60::z61::z62::z63::z64::z65::z66::z67::z68::z69::z70::z71::z72::z73::z74::z75::z76::z77::z78::z79::z80::z81::z82::z83::z84::z85::z86::z87::z88::z89::z90::z91::z92::z93::z94::z95::z96::z97::z98::z99::z100::z101::z102::z103::z104::z105::z106::z107::z108::z109::z110::z111::z112::z113::z114::z115::z116::z117::z118::z119::z120::z121::z122::z123::z124::z125::z126::z127::z128::z129::z130::z131::z132::z133::z134::z135::z136::z137::z138::z139::z140::z141::z142::z143::z144::z145::z146::z147::z148::z149::z150::z151::z152::z153::z154::z155::z156::z157::z158::z159::z160::z161::z162::z163::z164::z165::z166::z167::z168::z169::z170::z171 :: []).toArray, []⟩ wA := by
  have HFIN := Lib.hid hfin
  clear hfin
  have hT0 := hT.later (below_drew wA)
  have hB0 := below_drew wA
  have hpl := hT.plt
  have hlp := hT.lp
  clear hT
  conv => arg 2; whnf
  refine (wpIn_wide (n := 1)).1 ?_
  refine wpIn_region_Wn (S := fun _ => True) 18 (by kernel_rfl) (by kernel_rfl) (trivial) (fun hHeld => ?_)
  generalize wA.drew = W0 at hT0 hB0 ⊢
  refine wTk 0 64 ?_ ?_ ?_
  rotate_left
  · intro o h w k; (try dsimp only at k); simp only [gA, gB, gC, gG] at h; subst h; go_simp; try with_reducible rfl
  simp only [Act.put, gD, gE, gF]
  refine wTk 1 65 ?_ ?_ ?_
  rotate_left
  · intro o h w k; (try dsimp only at k); simp only [gA, gB, gC, gG] at h; subst h; go_simp; try with_reducible rfl
  simp only [Act.put, gD, gE, gF]
  refine wTk 2 66 ?_ ?_ ?_
  rotate_left
  · intro o h w k; (try dsimp only at k); simp only [gA, gB, gC, gG] at h; subst h; go_simp; try with_reducible rfl
  simp only [Act.put, gD, gE, gF]
  refine wTk 3 67 ?_ ?_ ?_
  rotate_left
  · intro o h w k; (try dsimp only at k); simp only [gA, gB, gC, gG] at h; subst h; go_simp; try with_reducible rfl
  simp only [Act.put, gD, gE, gF]
  refine wTk 5 69 ?_ ?_ ?_
  rotate_left
  · intro o h w k; (try dsimp only at k); simp only [gA, gB, gC, gG] at h; subst h; go_simp; try with_reducible rfl
  simp only [Act.put, gD, gE, gF]
  refine wTk 6 70 ?_ ?_ ?_
  rotate_left
  · intro o h w k; (try dsimp only at k); simp only [gA, gB, gC, gG] at h; subst h; go_simp; try with_reducible rfl
  simp only [Act.put, gD, gE, gF]
  refine wTk 9 73 ?_ ?_ ?_
  rotate_left
  · intro o h w k; (try dsimp only at k); simp only [gA, gB, gC, gG] at h; subst h; go_simp; try with_reducible rfl
  simp only [Act.put, gD, gE, gF]
  refine wTk 10 74 ?_ ?_ ?_
  rotate_left
  · intro o h w k; (try dsimp only at k); simp only [gA, gB, gC, gG] at h; subst h; go_simp; try with_reducible rfl
  simp only [Act.put, gD, gE, gF]
  refine wTk 12 76 ?_ ?_ ?_
  rotate_left
  · intro o h w k; (try dsimp only at k); simp only [gA, gB, gC, gG] at h; subst h; go_simp; try with_reducible rfl
  simp only [Act.put, gD, gE, gF]
  refine wTk 15 78 ?_ ?_ ?_
  rotate_left
  · intro o h w k; (try dsimp only at k); simp only [gA, gB, gC, gG] at h; subst h; go_simp; try with_reducible rfl
  simp only [Act.put, gD, gE, gF]
  refine wpAnyW_one 4 (by kernel_rfl) (by kernel_rfl) ?_
  intro o ho K hK
  simp only [gA, gB, gC, gG] at ho
  subst ho
  go_simp
  refine ⟨trivial, CallsIn.mono (callsIn_wide.2 (ilspan_any _ _ _)) ?_⟩
  rintro e W1 ⟨rfl, hb1⟩
  have hT1 := hT0.later hb1
  have hB1 := hB0.trans (hb1.mono hB0.size)
  refine hK _ _ trivial (fun _ => ?_)
  clear hK K hT0 hb1
  try simp only [Act.put, gD, gE, gF]
  refine wpAnyW_one 7 (by kernel_rfl) (by kernel_rfl) ?_
  intro o ho K hK
  simp only [gA, gB, gC, gG] at ho
  subst ho
  go_simp
  refine ⟨trivial, CallsIn.mono (callsIn_wide.2 (ilspan_any _ _ _)) ?_⟩
  rintro e W2 ⟨rfl, hb2⟩
  have hT2 := hT1.later hb2
  have hB2 := hB1.trans (hb2.mono hB1.size)
  refine hK _ _ trivial (fun _ => ?_)
  clear hK K hT1 hb2
  try simp only [Act.put, gD, gE, gF]
  refine wTk 8 72 ?_ ?_ ?_
  rotate_left
  · intro o h w k; (try dsimp only at k); simp only [gA, gB, gC, gG] at h; subst h; go_simp; try with_reducible rfl
  simp only [Act.put, gD, gE, gF]
  refine wTk 13 77 ?_ ?_ ?_
  rotate_left
  · intro o h w k; (try dsimp only at k); simp only [gA, gB, gC, gG] at h; subst h; go_simp; try with_reducible rfl
  simp only [Act.put, gD, gE, gF]
  refine wpAnyW_one 11 (by kernel_rfl) (by kernel_rfl) ?_
  intro o ho K hK
  simp only [gA, gB, gC, gG] at ho
  subst ho
  go_simp
  refine ⟨trivial, CallsIn.mono (callsIn_wide.2 (ilspan_any _ _ _)) ?_⟩
  rintro e W3 ⟨rfl, hb3⟩
  have hT3 := hT2.later hb3
  have hB3 := hB2.trans (hb3.mono hB2.size)
  refine hK _ _ trivial (fun _ => ?_)
  clear hK K hT2 hb3
  try simp only [Act.put, gD, gE, gF]
  have hs := hT3.sh
  have hwA := hB3.size
  have c0 := cell_block hs 0
  have f0 := frozen_block hs 0
  have c1 := cell_block hs 1
  have f1 := frozen_block hs 1
  have c2 := cell_block hs 2
  have f2 := frozen_block hs 2
  have c3 := cell_block hs 3
  have f3 := frozen_block hs 3
  simp only [gA, gB, gC] at c0 c1 c2 c3
  refine wpAnyW_one 14 (by kernel_rfl) (by kernel_rfl) ?_
  intro o ho K hK
  simp only [gA, gB, gC, gG] at ho
  subst ho
  go_simp
  have z1 : ((((W3.setCell ⟨p, 0, none⟩ (.int .i64 u)).setCell ⟨p, 1, none⟩ (.int .i64 u)).setCell ⟨p, 2, none⟩ (.int .i64 v)).setCell ⟨p, 3, none⟩ (.int .i64 v)).heap[p]? = some (.cells #[.int .i64 u, .int .i64 u, .int .i64 v, .int .i64 v, .int .i64 s.bx.lo, .int .i64 s.bx.hi, .int .i64 s.by'.lo, .int .i64 s.by'.hi, .int .i64 s.f.lo, .int .i64 s.f.hi, .int .i64 s.g.lo, .int .i64 s.g.hi, .int .i64 s.limit, .int .i64 s.flaws, .slice fa s.l.length fc] 30) := by
    rw [block_set (block_set (block_set (block_set hs 0 _) 1 _) 2 _) 3 _]
    simp
  have x1 : Steps (fun j => j = p) W3 ((((W3.setCell ⟨p, 0, none⟩ (.int .i64 u)).setCell ⟨p, 1, none⟩ (.int .i64 u)).setCell ⟨p, 2, none⟩ (.int .i64 v)).setCell ⟨p, 3, none⟩ (.int .i64 v)) := (((Steps.setCell (own := fun j => j = p) W3 (p := ⟨p, 0, none⟩) rfl (.int .i64 u)).trans (Steps.setCell (own := fun j => j = p) _ (p := ⟨p, 1, none⟩) rfl (.int .i64 u)) (fun _ _ h => h)).trans (Steps.setCell (own := fun j => j = p) _ (p := ⟨p, 2, none⟩) rfl (.int .i64 v)) (fun _ _ h => h)).trans (Steps.setCell (own := fun j => j = p) _ (p := ⟨p, 3, none⟩) rfl (.int .i64 v)) (fun _ _ h => h)
  refine hK _ _ trivial (fun _ => ?_)
  clear hK K c0 f0 c1 f1 c2 f2 c3 f3
  try simp only [Act.put, gD, gE, gF]
  generalize ((((W3.setCell ⟨p, 0, none⟩ (.int .i64 u)).setCell ⟨p, 1, none⟩ (.int .i64 u)).setCell ⟨p, 2, none⟩ (.int .i64 v)).setCell ⟨p, 3, none⟩ (.int .i64 v)) = V1 at z1 x1 ⊢
  have c8 := cell_block z1 8
  have f8 := frozen_block z1 8
  have c9 := cell_block z1 9
  have f9 := frozen_block z1 9
  simp only [gA, gB, gC] at c8 c9
  refine wTk 16 79 ?_ ?_ ?_
  rotate_left
  · intro o h w k; (try dsimp only at k); simp only [gA, gB, gC, gG] at h; subst h; go_simp; try with_reducible rfl
  simp only [Act.put, gD, gE, gF]
  refine wpAnyW_one 17 (by kernel_rfl) (by kernel_rfl) ?_
  intro o ho K hK
  simp only [gA, gB, gC, gG] at ho
  subst ho
  go_simp
  have z2 : ((V1.setCell ⟨p, 8, none⟩ (.int .i64 f)).setCell ⟨p, 9, none⟩ (.int .i64 f)).heap[p]? = some (.cells #[.int .i64 u, .int .i64 u, .int .i64 v, .int .i64 v, .int .i64 s.bx.lo, .int .i64 s.bx.hi, .int .i64 s.by'.lo, .int .i64 s.by'.hi, .int .i64 f, .int .i64 f, .int .i64 s.g.lo, .int .i64 s.g.hi, .int .i64 s.limit, .int .i64 s.flaws, .slice fa s.l.length fc] 30) := by
    rw [block_set (block_set z1 8 _) 9 _]
    simp
  have x2 : Steps (fun j => j = p) W3 ((V1.setCell ⟨p, 8, none⟩ (.int .i64 f)).setCell ⟨p, 9, none⟩ (.int .i64 f)) := (x1.trans (Steps.setCell (own := fun j => j = p) V1 (p := ⟨p, 8, none⟩) rfl (.int .i64 f)) (fun _ _ h => h)).trans (Steps.setCell (own := fun j => j = p) _ (p := ⟨p, 9, none⟩) rfl (.int .i64 f)) (fun _ _ h => h)
  refine hK _ _ trivial (fun _ => ?_)
  clear hK K c8 f8 c9 f9
  try simp only [Act.put, gD, gE, gF]
  generalize ((V1.setCell ⟨p, 8, none⟩ (.int .i64 f)).setCell ⟨p, 9, none⟩ (.int .i64 f)) = V2 at z2 x2 ⊢
  refine wpAnyW_done (by kernel_rfl) ?_ _
  dsimp only [onNormal]
  exact HFIN.out _ _ _ _ _ _ _ _ _ _ _ _ _ _ _ _ V2 (TrM.put (s' := { s with ax := exSp u, ay := exSp v, f := exSp f }) hT3 x2 z2 hT3.row) ((hB3.mono (by omega)).trans (x2.below (B := pc) (by omega) (fun j _ h => by omega)))

theorem ltr_reg13_1 (pc pb : Nat) (a : Option Addr) (c : Nat) (xs : List Nat) (k p q : Nat) (s : ISheet) (fa : Option Addr) (fc : Nat) (t : ITr) (u v f : Int) (wA : World) {z0 z1 z2 z3 z4 z5 z7 z8 z9 z10 z11 z16 z17 z18 z19 z20 z21 z22 z23 z24 z25 z26 z27 z28 z29 z30 z31 z32 z33 z34 z35 z36 z37 z38 z39 z40 z41 z42 z43 z44 z45 z46 z47 z48 z49 z50 z51 z52 z53 z54 z55 z56 z57 z58 z59 z60 z61 z62 z63 z80 z81 z82 z83 z84 z85 z86 z87 z88 z89 z90 z91 z92 z93 z94 z95 z96 z97 z98 z99 z100 z101 z102 z103 z104 z105 z106 z107 z108 z109 z110 z111 z112 z113 z114 z115 z116 z117 z118 z119 z120 z121 z122 z123 z124 z125 z126 z127 z128 z129 z130 z131 z132 z133 z134 z135 z136 z137 z138 z139 z140 z141 z142 z143 z144 z145 z146 z147 z148 z149 z150 z151 z152 z153 z154 z155 z156 z157 z158 z159 z160 z161 z162 z163 z164 z165 z166 z167 z168 z169 z170 z171 : Value} {z64 z65 z66 z67 z68 z69 z70 z71 z72 z73 z74 z75 z76 z77 z78 z79 : Value} (hT : TrM wA p q pc pb a c xs k s fa fc t) (K : Act → World → Prop) (Q : Exit → Act → World → Prop)
    (hfin : ∀ (s64 s65 s66 s67 s68 s69 s70 s71 s72 s73 s74 s75 s76 s77 s78 s79 : Value) (w3 : World), TrM w3 p q pc pb a c xs k { s with bx := exSp u, by' := exSp v, g := exSp f } fa fc t → Below pc wA w3 → K ⟨(z0::z1::z2::z3::z4::z5::(.pointer (some ⟨p, 0, none⟩))::z7::z8::z9::z10::z11::(.int .i64 1)::(.int .i64 u)::(.int .i64 v)::(.int .i64 f)::z16::z17::z18::z19::z20::z21::z22::z23::z24::z25::z26::z27::z28::z29::z30::z31::z32::z33::z34::z35::z36::z37::z38::z39::z40::z41::z42::z43::z44::z45::z46::z47::z48::z49::z50::z51::z52::z53::z54::z55::z56::z57::z58::z59::z60::z61::z62::z63::s64::s65::s66::s67::s68::s69::s70::s71::s72::s73::s74::s75::s76::s77::s78::s79::z80::z81::z82::z83::z84::z85::z86::z87::z88::z89::z90::z91::z92::z93::z94::z95::z96::z97::z98::z99::z100::z101::z102::z103::z104::z105::z106::z107::z108::z109::z110::z111::z112::z113::z114::z115::z116::z117::z118::z119::z120::z121::z122::z123::z124::z125::z126::z127::z128::z129::z130::z131::z132::z133::z134::z135::z136::z137::z138::z139::z140::z141::z142::z143::z144::z145::z146::z147::z148::z149::z150::z151::z152::z153::z154::z155::z156::z157::z158::z159::z160::z161::z162::z163::z164::z165::z166::z167::z168::z169::z170::z171 :: []).toArray, []⟩ w3) :
    Code.wp Try.prog ((Try.f6.body.bind (findReg 13)).getD .skip) (Exit.then K Q) ⟨(z0::z1::z2::z3::z4::z5::(.pointer (some ⟨p, 0, none⟩))::z7::z8::z9::z10::z11::(.int .i64 1)::(.int .i64 u)::(.int .i64 v)::(.int .i64 f)::z16::z17::z18::z19::z20::z21::z22::z23::z24::z25::z26::z27::z28::z29::z30::z31::z32::z33::z34::z35::z36::z37::z38::z39::z40::z41::z42::z43::z44::z45::z46::z47::z48::z49::z50::z51::z52::z53::z54::z55::z56::z57::z58::z59::z60::z61::z62::z63::z64::z65::z66::z67::z68::z69::z70::z71::z72::z73::z74::z75::z76::z77::z78::z79::z80::z81::z82::z83::z84::z85::z86::z87::z88::z89::z90::z91::z92::z93::z94::z95::z96::z97::z98::z99::z100::z101::z102::z103::z104::z105::z106::z107::z108::z109::z110::z111::z112::z113::z114::z115::z116::z117::z118::z119::z120::z121::z122::z123::z124::z125::z126::z127::z128::z129::z130::z131::z132::z133::z134::z135::z136::z137::z138::z139::z140::z141::z142::z143::z144::z145::z146::z147::z148::z149::z150::z151::z152::z153::z154::z155::z156::z157::z158::z159::z160::z161::z162::z163::z164::z165::z166::z167::z168::z169::z170::z171 :: []).toArray, []⟩ wA := by
  have HFIN := Lib.hid hfin
  clear hfin
  have hT0 := hT.later (below_drew wA)
  have hB0 := below_drew wA
  have hpl := hT.plt
  have hlp := hT.lp
  clear hT
  conv => arg 2; whnf
  refine (wpIn_wide (n := 1)).1 ?_
  refine wpIn_region_Wn (S := fun _ => True) 18 (by kernel_rfl) (by kernel_rfl) (trivial) (fun hHeld => ?_)
  generalize wA.drew = W0 at hT0 hB0 ⊢
  refine wTk 0 64 ?_ ?_ ?_
  rotate_left
  · intro o h w k; (try dsimp only at k); simp only [gA, gB, gC, gG] at h; subst h; go_simp; try with_reducible rfl
  simp only [Act.put, gD, gE, gF]
  refine wTk 1 65 ?_ ?_ ?_
  rotate_left
  · intro o h w k; (try dsimp only at k); simp only [gA, gB, gC, gG] at h; subst h; go_simp; try with_reducible rfl
  simp only [Act.put, gD, gE, gF]
  refine wTk 2 66 ?_ ?_ ?_
  rotate_left
  · intro o h w k; (try dsimp only at k); simp only [gA, gB, gC, gG] at h; subst h; go_simp; try with_reducible rfl
  simp only [Act.put, gD, gE, gF]
  refine wTk 3 67 ?_ ?_ ?_
  rotate_left
  · intro o h w k; (try dsimp only at k); simp only [gA, gB, gC, gG] at h; subst h; go_simp; try with_reducible rfl
  simp only [Act.put, gD, gE, gF]
  refine wTk 5 69 ?_ ?_ ?_
  rotate_left
  · intro o h w k; (try dsimp only at k); simp only [gA, gB, gC, gG] at h; subst h; go_simp; try with_reducible rfl
  simp only [Act.put, gD, gE, gF]
  refine wTk 6 70 ?_ ?_ ?_
  rotate_left
  · intro o h w k; (try dsimp only at k); simp only [gA, gB, gC, gG] at h; subst h; go_simp; try with_reducible rfl
  simp only [Act.put, gD, gE, gF]
  refine wTk 9 73 ?_ ?_ ?_
  rotate_left
  · intro o h w k; (try dsimp only at k); simp only [gA, gB, gC, gG] at h; subst h; go_simp; try with_reducible rfl
  simp only [Act.put, gD, gE, gF]
  refine wTk 10 74 ?_ ?_ ?_
  rotate_left
  · intro o h w k; (try dsimp only at k); simp only [gA, gB, gC, gG] at h; subst h; go_simp; try with_reducible rfl
  simp only [Act.put, gD, gE, gF]
  refine wTk 12 76 ?_ ?_ ?_
  rotate_left
  · intro o h w k; (try dsimp only at k); simp only [gA, gB, gC, gG] at h; subst h; go_simp; try with_reducible rfl
  simp only [Act.put, gD, gE, gF]
  refine wTk 15 78 ?_ ?_ ?_
  rotate_left
  · intro o h w k; (try dsimp only at k); simp only [gA, gB, gC, gG] at h; subst h; go_simp; try with_reducible rfl
  simp only [Act.put, gD, gE, gF]
  refine wpAnyW_one 4 (by kernel_rfl) (by kernel_rfl) ?_
  intro o ho K hK
  simp only [gA, gB, gC, gG] at ho
  subst ho
  go_simp
  refine ⟨trivial, CallsIn.mono (callsIn_wide.2 (ilspan_any _ _ _)) ?_⟩
  rintro e W1 ⟨rfl, hb1⟩
  have hT1 := hT0.later hb1
  have hB1 := hB0.trans (hb1.mono hB0.size)
  refine hK _ _ trivial (fun _ => ?_)
  clear hK K hT0 hb1
  try simp only [Act.put, gD, gE, gF]
  refine wpAnyW_one 7 (by kernel_rfl) (by kernel_rfl) ?_
  intro o ho K hK
  simp only [gA, gB, gC, gG] at ho
  subst ho
  go_simp
  refine ⟨trivial, CallsIn.mono (callsIn_wide.2 (ilspan_any _ _ _)) ?_⟩
  rintro e W2 ⟨rfl, hb2⟩
  have hT2 := hT1.later hb2
  have hB2 := hB1.trans (hb2.mono hB1.size)
  refine hK _ _ trivial (fun _ => ?_)
  clear hK K hT1 hb2
  try simp only [Act.put, gD, gE, gF]
  refine wTk 8 72 ?_ ?_ ?_
  rotate_left
  · intro o h w k; (try dsimp only at k); simp only [gA, gB, gC, gG] at h; subst h; go_simp; try with_reducible rfl
  simp only [Act.put, gD, gE, gF]
  refine wTk 13 77 ?_ ?_ ?_
  rotate_left
  · intro o h w k; (try dsimp only at k); simp only [gA, gB, gC, gG] at h; subst h; go_simp; try with_reducible rfl
  simp only [Act.put, gD, gE, gF]
  refine wpAnyW_one 11 (by kernel_rfl) (by kernel_rfl) ?_
  intro o ho K hK
  simp only [gA, gB, gC, gG] at ho
  subst ho
  go_simp
  refine ⟨trivial, CallsIn.mono (callsIn_wide.2 (ilspan_any _ _ _)) ?_⟩
  rintro e W3 ⟨rfl, hb3⟩
  have hT3 := hT2.later hb3
  have hB3 := hB2.trans (hb3.mono hB2.size)
  refine hK _ _ trivial (fun _ => ?_)
  clear hK K hT2 hb3
  try simp only [Act.put, gD, gE, gF]
  have hs := hT3.sh
  have hwA := hB3.size
  have c4 := cell_block hs 4
  have f4 := frozen_block hs 4
  have c5 := cell_block hs 5
  have f5 := frozen_block hs 5
  have c6 := cell_block hs 6
  have f6 := frozen_block hs 6
  have c7 := cell_block hs 7
  have f7 := frozen_block hs 7
  simp only [gA, gB, gC] at c4 c5 c6 c7
  refine wpAnyW_one 14 (by kernel_rfl) (by kernel_rfl) ?_
  intro o ho K hK
  simp only [gA, gB, gC, gG] at ho
  subst ho
  go_simp
  have z1 : ((((W3.setCell ⟨p, 4, none⟩ (.int .i64 u)).setCell ⟨p, 5, none⟩ (.int .i64 u)).setCell ⟨p, 6, none⟩ (.int .i64 v)).setCell ⟨p, 7, none⟩ (.int .i64 v)).heap[p]? = some (.cells #[.int .i64 s.ax.lo, .int .i64 s.ax.hi, .int .i64 s.ay.lo, .int .i64 s.ay.hi, .int .i64 u, .int .i64 u, .int .i64 v, .int .i64 v, .int .i64 s.f.lo, .int .i64 s.f.hi, .int .i64 s.g.lo, .int .i64 s.g.hi, .int .i64 s.limit, .int .i64 s.flaws, .slice fa s.l.length fc] 30) := by
    rw [block_set (block_set (block_set (block_set hs 4 _) 5 _) 6 _) 7 _]
    simp
  have x1 : Steps (fun j => j = p) W3 ((((W3.setCell ⟨p, 4, none⟩ (.int .i64 u)).setCell ⟨p, 5, none⟩ (.int .i64 u)).setCell ⟨p, 6, none⟩ (.int .i64 v)).setCell ⟨p, 7, none⟩ (.int .i64 v)) := (((Steps.setCell (own := fun j => j = p) W3 (p := ⟨p, 4, none⟩) rfl (.int .i64 u)).trans (Steps.setCell (own := fun j => j = p) _ (p := ⟨p, 5, none⟩) rfl (.int .i64 u)) (fun _ _ h => h)).trans (Steps.setCell (own := fun j => j = p) _ (p := ⟨p, 6, none⟩) rfl (.int .i64 v)) (fun _ _ h => h)).trans (Steps.setCell (own := fun j => j = p) _ (p := ⟨p, 7, none⟩) rfl (.int .i64 v)) (fun _ _ h => h)
  refine hK _ _ trivial (fun _ => ?_)
  clear hK K c4 f4 c5 f5 c6 f6 c7 f7
  try simp only [Act.put, gD, gE, gF]
  generalize ((((W3.setCell ⟨p, 4, none⟩ (.int .i64 u)).setCell ⟨p, 5, none⟩ (.int .i64 u)).setCell ⟨p, 6, none⟩ (.int .i64 v)).setCell ⟨p, 7, none⟩ (.int .i64 v)) = V1 at z1 x1 ⊢
  have c10 := cell_block z1 10
  have f10 := frozen_block z1 10
  have c11 := cell_block z1 11
  have f11 := frozen_block z1 11
  simp only [gA, gB, gC] at c10 c11
  refine wTk 16 79 ?_ ?_ ?_
  rotate_left
  · intro o h w k; (try dsimp only at k); simp only [gA, gB, gC, gG] at h; subst h; go_simp; try with_reducible rfl
  simp only [Act.put, gD, gE, gF]
  refine wpAnyW_one 17 (by kernel_rfl) (by kernel_rfl) ?_
  intro o ho K hK
  simp only [gA, gB, gC, gG] at ho
  subst ho
  go_simp
  have z2 : ((V1.setCell ⟨p, 10, none⟩ (.int .i64 f)).setCell ⟨p, 11, none⟩ (.int .i64 f)).heap[p]? = some (.cells #[.int .i64 s.ax.lo, .int .i64 s.ax.hi, .int .i64 s.ay.lo, .int .i64 s.ay.hi, .int .i64 u, .int .i64 u, .int .i64 v, .int .i64 v, .int .i64 s.f.lo, .int .i64 s.f.hi, .int .i64 f, .int .i64 f, .int .i64 s.limit, .int .i64 s.flaws, .slice fa s.l.length fc] 30) := by
    rw [block_set (block_set z1 10 _) 11 _]
    simp
  have x2 : Steps (fun j => j = p) W3 ((V1.setCell ⟨p, 10, none⟩ (.int .i64 f)).setCell ⟨p, 11, none⟩ (.int .i64 f)) := (x1.trans (Steps.setCell (own := fun j => j = p) V1 (p := ⟨p, 10, none⟩) rfl (.int .i64 f)) (fun _ _ h => h)).trans (Steps.setCell (own := fun j => j = p) _ (p := ⟨p, 11, none⟩) rfl (.int .i64 f)) (fun _ _ h => h)
  refine hK _ _ trivial (fun _ => ?_)
  clear hK K c10 f10 c11 f11
  try simp only [Act.put, gD, gE, gF]
  generalize ((V1.setCell ⟨p, 10, none⟩ (.int .i64 f)).setCell ⟨p, 11, none⟩ (.int .i64 f)) = V2 at z2 x2 ⊢
  refine wpAnyW_done (by kernel_rfl) ?_ _
  dsimp only [onNormal]
  exact HFIN.out _ _ _ _ _ _ _ _ _ _ _ _ _ _ _ _ V2 (TrM.put (s' := { s with bx := exSp u, by' := exSp v, g := exSp f }) hT3 x2 z2 hT3.row) ((hB3.mono (by omega)).trans (x2.below (B := pc) (by omega) (fun j _ h => by omega)))
end Go.Proofs.Ytacioedolmaofaa
namespace Go.Proofs.Ytacioedolmaofaa
open Go.RowKit Go.Shelf
set_option maxHeartbeats 12800000
set_option maxRecDepth 100000
set_option linter.unusedSimpArgs false
set_option linter.unusedVariables false

theorem ltr_reg16 (pc pb : Nat) (a : Option Addr) (c : Nat) (xs : List Nat) (k p q : Nat) (s : ISheet) (fa : Option Addr) (fc : Nat) (t : ITr) (x y z u v f : Int) (wA : World) {z0 z1 z2 z3 z4 z5 z11 z12 z16 z17 z18 z19 z20 z21 z22 z23 z24 z25 z26 z27 z28 z29 z30 z31 z32 z33 z34 z35 z36 z37 z38 z39 z40 z41 z42 z43 z44 z45 z46 z47 z48 z49 z50 z51 z52 z53 z54 z55 z56 z57 z58 z59 z60 z61 z62 z63 z64 z65 z66 z67 z68 z69 z70 z71 z72 z73 z74 z75 z76 z77 z78 z79 z80 z81 z82 z83 z84 z85 z86 z87 z88 z89 z90 z91 z108 z109 z110 z111 z112 z113 z114 z115 z116 z117 z118 z119 z120 z121 z122 z123 z124 z125 z126 z127 z128 z129 z130 z131 z132 z133 z134 z135 z136 z137 z138 z139 z140 z141 z142 z143 z144 z145 z146 z147 z148 z149 z150 z151 z152 z153 z154 z155 z156 z157 z158 z159 z160 z161 z162 z163 z164 z165 z166 z167 z168 z169 z170 z171 : Value} {z92 z93 z94 z95 z96 z97 z98 z99 z100 z101 z102 z103 z104 z105 z106 z107 : Value} (hT : TrM wA p q pc pb a c xs k s fa fc t) (hl : s.l.length ≤ 100) (hX : IntKind.i64.wrap (x + u) = x + u) (hY : IntKind.i64.wrap (y + v) = y + v) (hZ : IntKind.i64.wrap (z - f) = z - f) (K : Act → World → Prop) (Q : Exit → Act → World → Prop)
    (hfin : ∀ (s92 s93 s94 s95 s96 s97 s98 s99 s100 s101 s102 s103 s104 s105 s106 s107 : Value) (fa' : Option Addr) (fc' : Nat) (w3 : World), TrM w3 p q pc pb a c xs k { s with l := s.l ++ [exIm (x + u) (y + v) (z - f)] } fa' fc' t → Below pc wA w3 → K ⟨(z0::z1::z2::z3::z4::z5::(.pointer (some ⟨p, 0, none⟩))::(.int .i64 x)::(.int .i64 y)::(.int .i64 z)::(.func (.func 32) #[] #[])::z11::z12::(.int .i64 u)::(.int .i64 v)::(.int .i64 f)::z16::z17::z18::z19::z20::z21::z22::z23::z24::z25::z26::z27::z28::z29::z30::z31::z32::z33::z34::z35::z36::z37::z38::z39::z40::z41::z42::z43::z44::z45::z46::z47::z48::z49::z50::z51::z52::z53::z54::z55::z56::z57::z58::z59::z60::z61::z62::z63::z64::z65::z66::z67::z68::z69::z70::z71::z72::z73::z74::z75::z76::z77::z78::z79::z80::z81::z82::z83::z84::z85::z86::z87::z88::z89::z90::z91::s92::s93::s94::s95::s96::s97::s98::s99::s100::s101::s102::s103::s104::s105::s106::s107::z108::z109::z110::z111::z112::z113::z114::z115::z116::z117::z118::z119::z120::z121::z122::z123::z124::z125::z126::z127::z128::z129::z130::z131::z132::z133::z134::z135::z136::z137::z138::z139::z140::z141::z142::z143::z144::z145::z146::z147::z148::z149::z150::z151::z152::z153::z154::z155::z156::z157::z158::z159::z160::z161::z162::z163::z164::z165::z166::z167::z168::z169::z170::z171 :: []).toArray, []⟩ w3) :
    Code.wp Try.prog ((Try.f6.body.bind (findReg 16)).getD .skip) (Exit.then K Q) ⟨(z0::z1::z2::z3::z4::z5::(.pointer (some ⟨p, 0, none⟩))::(.int .i64 x)::(.int .i64 y)::(.int .i64 z)::(.func (.func 32) #[] #[])::z11::z12::(.int .i64 u)::(.int .i64 v)::(.int .i64 f)::z16::z17::z18::z19::z20::z21::z22::z23::z24::z25::z26::z27::z28::z29::z30::z31::z32::z33::z34::z35::z36::z37::z38::z39::z40::z41::z42::z43::z44::z45::z46::z47::z48::z49::z50::z51::z52::z53::z54::z55::z56::z57::z58::z59::z60::z61::z62::z63::z64::z65::z66::z67::z68::z69::z70::z71::z72::z73::z74::z75::z76::z77::z78::z79::z80::z81::z82::z83::z84::z85::z86::z87::z88::z89::z90::z91::z92::z93::z94::z95::z96::z97::z98::z99::z100::z101::z102::z103::z104::z105::z106::z107::z108::z109::z110::z111::z112::z113::z114::z115::z116::z117::z118::z119::z120::z121::z122::z123::z124::z125::z126::z127::z128::z129::z130::z131::z132::z133::z134::z135::z136::z137::z138::z139::z140::z141::z142::z143::z144::z145::z146::z147::z148::z149::z150::z151::z152::z153::z154::z155::z156::z157::z158::z159::z160::z161::z162::z163::z164::z165::z166::z167::z168::z169::z170::z171 :: []).toArray, []⟩ wA := by
  have HFIN := Lib.hid hfin
  clear hfin
  have hT0 := hT.later (below_drew wA)
  have hB0 := below_drew wA
  have hpl := hT.plt
  have hql := hT.qlt
  have hlp := hT.lp
  have hlq := hT.lq
  have c14 := cell_block hT.sh 14
  simp only [gA, gB, gC] at c14
  have k14 : ∀ W' : World, W'.heap[p]? = wA.heap[p]? → W'.cell? ⟨p, 14, none⟩ = some (.slice fa s.l.length fc) := fun W' h => (World.cell?_of_block h).trans c14
  have h10 : wA.drew.heap[p]? = wA.heap[p]? := hB0.block p hpl
  clear hT c14
  conv => arg 2; whnf
  refine (wpIn_wide (n := 1)).1 ?_
  refine wpIn_region_Vn (B := [16]) (S := fun W' => W'.heap[p]? = wA.heap[p]?) 17 (by kernel_rfl) (by kernel_rfl) (by exact h10) (fun hHeld => ?_)
  clear h10
  generalize wA.drew = W0 at hT0 hB0 hHeld ⊢
  refine wpAnyV_takeD 0 92 (v := ?_) (by kernel_rfl) (by kernel_rfl) (by kernel_rfl) (by kernel_rfl) (fun _ _ _ h => h) (by kernel_rfl) ?_ (by assumption) ?_
  rotate_left
  · intro oi hoi w hSw; (try dsimp only at hSw); simp only [gA, gB, gC, gG] at hoi; subst hoi; go_simp; try with_reducible rfl
  simp only [Act.put, gD, gE, gF]
  refine wpAnyV_takeD 1 93 (v := ?_) (by kernel_rfl) (by kernel_rfl) (by kernel_rfl) (by kernel_rfl) (fun _ _ _ h => h) (by kernel_rfl) ?_ (by assumption) ?_
  rotate_left
  · intro oi hoi w hSw; (try dsimp only at hSw); simp only [gA, gB, gC, gG] at hoi; subst hoi; go_simp; try with_reducible rfl
  simp only [Act.put, gD, gE, gF]
  refine wpAnyV_takeD 2 94 (v := ?_) (by kernel_rfl) (by kernel_rfl) (by kernel_rfl) (by kernel_rfl) (fun _ _ _ h => h) (by kernel_rfl) ?_ (by assumption) ?_
  rotate_left
  · intro oi hoi w hSw; (try dsimp only at hSw); simp only [gA, gB, gC, gG] at hoi; subst hoi; go_simp; try with_reducible rfl
  simp only [Act.put, gD, gE, gF]
  refine wpAnyV_takeD 3 95 (v := ?_) (by kernel_rfl) (by kernel_rfl) (by kernel_rfl) (by kernel_rfl) (fun _ _ _ h => h) (by kernel_rfl) ?_ (by assumption) ?_
  rotate_left
  · intro oi hoi w hSw; (try dsimp only at hSw); simp only [gA, gB, gC, gG] at hoi; subst hoi; go_simp; try with_reducible rfl
  simp only [Act.put, gD, gE, gF]
  refine wpAnyV_takeD 4 96 (v := ?_) (by kernel_rfl) (by kernel_rfl) (by kernel_rfl) (by kernel_rfl) (fun _ _ _ h => h) (by kernel_rfl) ?_ (by assumption) ?_
  rotate_left
  · intro oi hoi w hSw; (try dsimp only at hSw); simp only [gA, gB, gC, gG] at hoi; subst hoi; go_simp; try with_reducible rfl
  simp only [Act.put, gD, gE, gF]
  refine wpAnyV_takeD 5 97 (v := ?_) (by kernel_rfl) (by kernel_rfl) (by kernel_rfl) (by kernel_rfl) (fun _ _ _ h => h) (by kernel_rfl) ?_ (by assumption) ?_
  rotate_left
  · intro oi hoi w hSw; (try dsimp only at hSw); simp only [gA, gB, gC, gG] at hoi; subst hoi; go_simp; try with_reducible rfl
  simp only [Act.put, gD, gE, gF]
  refine wpAnyV_takeD 6 98 (v := ?_) (by kernel_rfl) (by kernel_rfl) (by kernel_rfl) (by kernel_rfl) (fun _ _ _ h => h) (by kernel_rfl) ?_ (by assumption) ?_
  rotate_left
  · intro oi hoi w hSw; (try dsimp only at hSw); simp only [gA, gB, gC, gG] at hoi; subst hoi; go_simp; try with_reducible rfl
  simp only [Act.put, gD, gE, gF]
  refine wpAnyV_takeD 7 99 (v := ?_) (by kernel_rfl) (by kernel_rfl) (by kernel_rfl) (by kernel_rfl) (fun _ _ _ h => h) (by kernel_rfl) ?_ (by assumption) ?_
  rotate_left
  · intro oi hoi w hSw; (try dsimp only at hSw); simp only [gA, gB, gC, gG] at hoi; subst hoi; go_simp; try with_reducible rfl
  simp only [Act.put, gD, gE, gF]
  refine wpAnyV_takeD 8 100 (v := ?_) (by kernel_rfl) (by kernel_rfl) (by kernel_rfl) (by kernel_rfl) (fun _ _ _ h => h) (by kernel_rfl) ?_ (by assumption) ?_
  rotate_left
  · intro oi hoi w hSw; (try dsimp only at hSw); simp only [gA, gB, gC, gG] at hoi; subst hoi; go_simp; try with_reducible rfl
  simp only [Act.put, gD, gE, gF]
  refine wpAnyV_takeD 9 101 (v := ?_) (by kernel_rfl) (by kernel_rfl) (by kernel_rfl) (by kernel_rfl) (fun _ _ _ h => h) (by kernel_rfl) ?_ (by assumption) ?_
  rotate_left
  · intro oi hoi w hSw; (try dsimp only at hSw); simp only [gA, gB, gC, gG] at hoi; subst hoi; go_simp; try with_reducible rfl
  simp only [Act.put, gD, gE, gF]
  refine wpAnyV_takeD 10 102 (v := ?_) (by kernel_rfl) (by kernel_rfl) (by kernel_rfl) (by kernel_rfl) (fun _ _ _ h => h) (by kernel_rfl) ?_ (by assumption) ?_
  rotate_left
  · intro oi hoi w hSw; (try dsimp only at hSw); simp only [gA, gB, gC, gG] at hoi; subst hoi; go_simp; try with_reducible rfl
  simp only [Act.put, gD, gE, gF]
  refine wpAnyV_takeD 11 103 (v := ?_) (by kernel_rfl) (by kernel_rfl) (by kernel_rfl) (by kernel_rfl) (fun _ _ _ h => h) (by kernel_rfl) ?_ (by assumption) ?_
  rotate_left
  · intro oi hoi w hSw; (try dsimp only at hSw); simp only [gA, gB, gC, gG] at hoi; subst hoi; go_simp; try with_reducible rfl
  simp only [Act.put, gD, gE, gF]
  clear k14
  refine wpAnyV_one 12 (by kernel_rfl) (by kernel_rfl) ?_
  intro o ho K hK
  simp only [gA, gB, gC, gG] at ho
  subst ho
  go_simp
  refine ⟨trivial, CallsIn.mono (callsIn_wide.2 (ilexact_any _ _ _ _)) ?_⟩
  rintro e W1 ⟨rfl, hb1⟩
  have hT1 := hT0.later hb1
  have hB1 := hB0.trans (hb1.mono hB0.size)
  have hH1 := (hb1.block p hT0.plt).trans hHeld
  refine hK _ _ (.inr hH1) (fun _ => ?_)
  clear hK K hT0 hb1 hHeld
  try simp only [Act.put, gD, gE, gF]
  refine wpAnyV_one 13 (by kernel_rfl) (by kernel_rfl) ?_
  intro o ho K hK
  simp only [gA, gB, gC, gG] at ho
  subst ho
  go_simp
  have hS1 := below_alloc W1 (.cells #[.int .i64 (x + u), .int .i64 (x + u), .int .i64 (y + v), .int .i64 (y + v), .int .i64 (z - f), .int .i64 (z - f)] 61)
  refine hK _ _ (.inr ((hS1.block p hT1.plt).trans hH1)) (fun _ => ?_)
  clear hK K
  try simp only [Act.put, gD, gE, gF]
  obtain ⟨v', w', hrun, hown', hgrow, hnext⟩ := putIm (exIm (x + u) (y + v) (z - f)) hT1.row (by omega) hT1.qlt
  obtain ⟨xa, xc, rfl⟩ := ownsRow_form hown'
  obtain ⟨g1, g2, g3, g4⟩ := hT1.grow hgrow hown'
  obtain ⟨xN, hxN⟩ : ∃ n, (s.l ++ [exIm (x + u) (y + v) (z - f)]).length = n := ⟨_, rfl⟩
  have HXN := Lib.hid hxN
  dsimp only [exIm, exSp] at hrun
  have hrun2 : (Builtin.append_ #[28, 28] 28 #[.slice fa s.l.length fc, .slice (some ⟨W1.heap.size, 0, none⟩) 1 1]).run Try.prog (W1.alloc (.cells #[.int .i64 (x + u), .int .i64 (x + u), .int .i64 (y + v), .int .i64 (y + v), .int .i64 (z - f), .int .i64 (z - f)] 61)) = .ok (.slice xa xN xc) w' := by rw [← hxN]; exact hrun
  clear hrun hxN
  have hHw : w'.heap[p]? = wA.heap[p]? := g2.trans hH1
  refine wpAnyV_one 14 (by kernel_rfl) (by kernel_rfl) ?_
  intro o ho K hK
  simp only [gA, gB, gC, gG] at ho
  subst ho
  refine wpIn_append' (.tmp 93) (.tmp 105) 28 _ _ _ rfl rfl rfl hrun2 ?_
  refine hK _ _ (.inr hHw) (fun _ => ?_)
  clear hK K hrun2
  try simp only [Act.put, gD, gE, gF]
  refine wpAnyV_one 15 (by kernel_rfl) (by kernel_rfl) ?_
  intro o ho K hK
  simp only [gA, gB, gC, gG] at ho
  subst ho
  go_simp
  refine hK _ _ (.inr hHw) (fun _ => ?_)
  clear hK K
  try simp only [Act.put, gD, gE, gF]
  have hs := g2.trans hT1.sh
  have f14 := frozen_block hs 14
  have c14 := cell_block hs 14
  simp only [gA, gB, gC] at c14
  refine wpAnyV_one 16 (by kernel_rfl) (by kernel_rfl) ?_
  intro o ho K hK
  simp only [gA, gB, gC, gG] at ho
  subst ho
  go_simp
  have z1 : (w'.setCell ⟨p, 14, none⟩ (.slice xa xN xc)).heap[p]? = some (.cells #[.int .i64 s.ax.lo, .int .i64 s.ax.hi, .int .i64 s.ay.lo, .int .i64 s.ay.hi, .int .i64 s.bx.lo, .int .i64 s.bx.hi, .int .i64 s.by'.lo, .int .i64 s.by'.hi, .int .i64 s.f.lo, .int .i64 s.f.hi, .int .i64 s.g.lo, .int .i64 s.g.hi, .int .i64 s.limit, .int .i64 s.flaws, .slice xa xN xc] 30) := by
    rw [block_set hs 14 _]
    simp
  have x1 := Steps.setCell (own := fun j => j = p) w' (p := ⟨p, 14, none⟩) rfl (.slice xa xN xc)
  refine hK _ _ (.inl (by kernel_rfl)) (fun _ => ?_)
  clear hK K c14 f14
  try simp only [Act.put, gD, gE, gF]
  generalize w'.setCell ⟨p, 14, none⟩ (.slice xa xN xc) = V at z1 x1 ⊢
  rw [← HXN.out] at z1
  have hTw : TrM w' p q pc pb a c xs k s fa fc t → True := fun _ => trivial
  refine wpAnyV_done (by kernel_rfl) ?_ _
  dsimp only [onNormal]
  have hwA := hB1.size
  have hg4 := g4.size
  refine HFIN.out _ _ _ _ _ _ _ _ _ _ _ _ _ _ _ _ xa xc V ⟨g1.other (fun i hi => x1.block i (Nat.lt_of_le_of_lt hi g1.size) (fun e => by omega)), z1, ?_, (x1.block q (by have := hT1.qlt; omega) (fun e => by omega)).trans (g3.trans hT1.tr), hlp, hlq⟩ ?_
  · exact ownsRow_same hown' (fun g hgg => x1.block g (hown'.lt g hgg).2 (fun e => by have := (hown'.lt g hgg).1; omega))
  · exact (hB1.mono (by omega)).trans ((g4.mono (by omega)).trans (x1.below (B := pc) (by omega) (fun j _ h => by omega)))

theorem ltr_reg18 (pc pb : Nat) (a : Option Addr) (c : Nat) (xs : List Nat) (k p q : Nat) (s : ISheet) (fa : Option Addr) (fc : Nat) (t : ITr) (z : Int) (wA : World) {z0 z1 z2 z3 z4 z5 z7 z8 z11 z12 z13 z14 z15 z16 z17 z18 z19 z20 z21 z22 z23 z24 z25 z26 z27 z28 z29 z30 z31 z32 z33 z34 z35 z36 z37 z38 z39 z40 z41 z42 z43 z44 z45 z46 z47 z48 z49 z50 z51 z52 z53 z54 z55 z56 z57 z58 z59 z60 z61 z62 z63 z64 z65 z66 z67 z68 z69 z70 z71 z72 z73 z74 z75 z76 z77 z78 z79 z80 z81 z82 z83 z84 z85 z86 z87 z88 z89 z90 z91 z92 z93 z94 z95 z96 z97 z98 z99 z100 z101 z102 z103 z104 z105 z106 z107 z108 z117 z118 z119 z120 z121 z122 z123 z124 z125 z126 z127 z128 z129 z130 z131 z132 z133 z134 z135 z136 z137 z138 z139 z140 z141 z142 z143 z144 z145 z146 z147 z148 z149 z150 z151 z152 z153 z154 z155 z156 z157 z158 z159 z160 z161 z162 z163 z164 z165 z166 z167 z168 z169 z170 z171 : Value} {z109 z110 z111 z112 z113 z114 z115 z116 : Value} (hT : TrM wA p q pc pb a c xs k s fa fc t) (hl : s.l.length ≤ 100)  (K : Act → World → Prop) (Q : Exit → Act → World → Prop)
    (hfin : ∀ (s109 s110 s111 s112 s113 s114 s115 s116 : Value) (fa' : Option Addr) (fc' : Nat) (w3 : World), TrM w3 p q pc pb a c xs k { s with l := s.l ++ [exIm (1000) (1000) (z)] } fa' fc' t → Below pc wA w3 → K ⟨(z0::z1::z2::z3::z4::z5::(.pointer (some ⟨p, 0, none⟩))::z7::z8::(.int .i64 z)::(.func (.func 32) #[] #[])::z11::z12::z13::z14::z15::z16::z17::z18::z19::z20::z21::z22::z23::z24::z25::z26::z27::z28::z29::z30::z31::z32::z33::z34::z35::z36::z37::z38::z39::z40::z41::z42::z43::z44::z45::z46::z47::z48::z49::z50::z51::z52::z53::z54::z55::z56::z57::z58::z59::z60::z61::z62::z63::z64::z65::z66::z67::z68::z69::z70::z71::z72::z73::z74::z75::z76::z77::z78::z79::z80::z81::z82::z83::z84::z85::z86::z87::z88::z89::z90::z91::z92::z93::z94::z95::z96::z97::z98::z99::z100::z101::z102::z103::z104::z105::z106::z107::z108::s109::s110::s111::s112::s113::s114::s115::s116::z117::z118::z119::z120::z121::z122::z123::z124::z125::z126::z127::z128::z129::z130::z131::z132::z133::z134::z135::z136::z137::z138::z139::z140::z141::z142::z143::z144::z145::z146::z147::z148::z149::z150::z151::z152::z153::z154::z155::z156::z157::z158::z159::z160::z161::z162::z163::z164::z165::z166::z167::z168::z169::z170::z171 :: []).toArray, []⟩ w3) :
    Code.wp Try.prog ((Try.f6.body.bind (findReg 18)).getD .skip) (Exit.then K Q) ⟨(z0::z1::z2::z3::z4::z5::(.pointer (some ⟨p, 0, none⟩))::z7::z8::(.int .i64 z)::(.func (.func 32) #[] #[])::z11::z12::z13::z14::z15::z16::z17::z18::z19::z20::z21::z22::z23::z24::z25::z26::z27::z28::z29::z30::z31::z32::z33::z34::z35::z36::z37::z38::z39::z40::z41::z42::z43::z44::z45::z46::z47::z48::z49::z50::z51::z52::z53::z54::z55::z56::z57::z58::z59::z60::z61::z62::z63::z64::z65::z66::z67::z68::z69::z70::z71::z72::z73::z74::z75::z76::z77::z78::z79::z80::z81::z82::z83::z84::z85::z86::z87::z88::z89::z90::z91::z92::z93::z94::z95::z96::z97::z98::z99::z100::z101::z102::z103::z104::z105::z106::z107::z108::z109::z110::z111::z112::z113::z114::z115::z116::z117::z118::z119::z120::z121::z122::z123::z124::z125::z126::z127::z128::z129::z130::z131::z132::z133::z134::z135::z136::z137::z138::z139::z140::z141::z142::z143::z144::z145::z146::z147::z148::z149::z150::z151::z152::z153::z154::z155::z156::z157::z158::z159::z160::z161::z162::z163::z164::z165::z166::z167::z168::z169::z170::z171 :: []).toArray, []⟩ wA := by
  have HFIN := Lib.hid hfin
  clear hfin
  have hT0 := hT.later (below_drew wA)
  have hB0 := below_drew wA
  have hpl := hT.plt
  have hql := hT.qlt
  have hlp := hT.lp
  have hlq := hT.lq
  have c14 := cell_block hT.sh 14
  simp only [gA, gB, gC] at c14
  have k14 : ∀ W' : World, W'.heap[p]? = wA.heap[p]? → W'.cell? ⟨p, 14, none⟩ = some (.slice fa s.l.length fc) := fun W' h => (World.cell?_of_block h).trans c14
  have h10 : wA.drew.heap[p]? = wA.heap[p]? := hB0.block p hpl
  clear hT c14
  conv => arg 2; whnf
  refine (wpIn_wide (n := 1)).1 ?_
  refine wpIn_region_Vn (B := [8]) (S := fun W' => W'.heap[p]? = wA.heap[p]?) 9 (by kernel_rfl) (by kernel_rfl) (by exact h10) (fun hHeld => ?_)
  clear h10
  generalize wA.drew = W0 at hT0 hB0 hHeld ⊢
  refine wpAnyV_takeD 0 109 (v := ?_) (by kernel_rfl) (by kernel_rfl) (by kernel_rfl) (by kernel_rfl) (fun _ _ _ h => h) (by kernel_rfl) ?_ (by assumption) ?_
  rotate_left
  · intro oi hoi w hSw; (try dsimp only at hSw); simp only [gA, gB, gC, gG] at hoi; subst hoi; go_simp; try with_reducible rfl
  simp only [Act.put, gD, gE, gF]
  refine wpAnyV_takeD 1 110 (v := ?_) (by kernel_rfl) (by kernel_rfl) (by kernel_rfl) (by kernel_rfl) (fun _ _ _ h => h) (by kernel_rfl) ?_ (by assumption) ?_
  rotate_left
  · intro oi hoi w hSw; (try dsimp only at hSw); simp only [gA, gB, gC, gG] at hoi; subst hoi; go_simp; try with_reducible rfl
  simp only [Act.put, gD, gE, gF]
  refine wpAnyV_takeD 2 111 (v := ?_) (by kernel_rfl) (by kernel_rfl) (by kernel_rfl) (by kernel_rfl) (fun _ _ _ h => h) (by kernel_rfl) ?_ (by assumption) ?_
  rotate_left
  · intro oi hoi w hSw; (try dsimp only at hSw); simp only [gA, gB, gC, gG] at hoi; subst hoi; go_simp; try with_reducible rfl
  simp only [Act.put, gD, gE, gF]
  refine wpAnyV_takeD 3 112 (v := ?_) (by kernel_rfl) (by kernel_rfl) (by kernel_rfl) (by kernel_rfl) (fun _ _ _ h => h) (by kernel_rfl) ?_ (by assumption) ?_
  rotate_left
  · intro oi hoi w hSw; (try dsimp only at hSw); simp only [gA, gB, gC, gG] at hoi; subst hoi; go_simp; try with_reducible rfl
  simp only [Act.put, gD, gE, gF]
  clear k14
  refine wpAnyV_one 4 (by kernel_rfl) (by kernel_rfl) ?_
  intro o ho K hK
  simp only [gA, gB, gC, gG] at ho
  subst ho
  go_simp
  refine ⟨trivial, CallsIn.mono (callsIn_wide.2 (ilexact_any _ _ _ _)) ?_⟩
  rintro e W1 ⟨rfl, hb1⟩
  have hT1 := hT0.later hb1
  have hB1 := hB0.trans (hb1.mono hB0.size)
  have hH1 := (hb1.block p hT0.plt).trans hHeld
  refine hK _ _ (.inr hH1) (fun _ => ?_)
  clear hK K hT0 hb1 hHeld
  try simp only [Act.put, gD, gE, gF]
  refine wpAnyV_one 5 (by kernel_rfl) (by kernel_rfl) ?_
  intro o ho K hK
  simp only [gA, gB, gC, gG] at ho
  subst ho
  go_simp
  have hS1 := below_alloc W1 (.cells #[.int .i64 (1000), .int .i64 (1000), .int .i64 (1000), .int .i64 (1000), .int .i64 (z), .int .i64 (z)] 61)
  refine hK _ _ (.inr ((hS1.block p hT1.plt).trans hH1)) (fun _ => ?_)
  clear hK K
  try simp only [Act.put, gD, gE, gF]
  obtain ⟨v', w', hrun, hown', hgrow, hnext⟩ := putIm (exIm (1000) (1000) (z)) hT1.row (by omega) hT1.qlt
  obtain ⟨xa, xc, rfl⟩ := ownsRow_form hown'
  obtain ⟨g1, g2, g3, g4⟩ := hT1.grow hgrow hown'
  obtain ⟨xN, hxN⟩ : ∃ n, (s.l ++ [exIm (1000) (1000) (z)]).length = n := ⟨_, rfl⟩
  have HXN := Lib.hid hxN
  dsimp only [exIm, exSp] at hrun
  have hrun2 : (Builtin.append_ #[28, 28] 28 #[.slice fa s.l.length fc, .slice (some ⟨W1.heap.size, 0, none⟩) 1 1]).run Try.prog (W1.alloc (.cells #[.int .i64 (1000), .int .i64 (1000), .int .i64 (1000), .int .i64 (1000), .int .i64 (z), .int .i64 (z)] 61)) = .ok (.slice xa xN xc) w' := by rw [← hxN]; exact hrun
  clear hrun hxN
  have hHw : w'.heap[p]? = wA.heap[p]? := g2.trans hH1
  refine wpAnyV_one 6 (by kernel_rfl) (by kernel_rfl) ?_
  intro o ho K hK
  simp only [gA, gB, gC, gG] at ho
  subst ho
  refine wpIn_append' (.tmp 110) (.tmp 114) 28 _ _ _ rfl rfl rfl hrun2 ?_
  refine hK _ _ (.inr hHw) (fun _ => ?_)
  clear hK K hrun2
  try simp only [Act.put, gD, gE, gF]
  refine wpAnyV_one 7 (by kernel_rfl) (by kernel_rfl) ?_
  intro o ho K hK
  simp only [gA, gB, gC, gG] at ho
  subst ho
  go_simp
  refine hK _ _ (.inr hHw) (fun _ => ?_)
  clear hK K
  try simp only [Act.put, gD, gE, gF]
  have hs := g2.trans hT1.sh
  have f14 := frozen_block hs 14
  have c14 := cell_block hs 14
  simp only [gA, gB, gC] at c14
  refine wpAnyV_one 8 (by kernel_rfl) (by kernel_rfl) ?_
  intro o ho K hK
  simp only [gA, gB, gC, gG] at ho
  subst ho
  go_simp
  have z1 : (w'.setCell ⟨p, 14, none⟩ (.slice xa xN xc)).heap[p]? = some (.cells #[.int .i64 s.ax.lo, .int .i64 s.ax.hi, .int .i64 s.ay.lo, .int .i64 s.ay.hi, .int .i64 s.bx.lo, .int .i64 s.bx.hi, .int .i64 s.by'.lo, .int .i64 s.by'.hi, .int .i64 s.f.lo, .int .i64 s.f.hi, .int .i64 s.g.lo, .int .i64 s.g.hi, .int .i64 s.limit, .int .i64 s.flaws, .slice xa xN xc] 30) := by
    rw [block_set hs 14 _]
    simp
  have x1 := Steps.setCell (own := fun j => j = p) w' (p := ⟨p, 14, none⟩) rfl (.slice xa xN xc)
  refine hK _ _ (.inl (by kernel_rfl)) (fun _ => ?_)
  clear hK K c14 f14
  try simp only [Act.put, gD, gE, gF]
  generalize w'.setCell ⟨p, 14, none⟩ (.slice xa xN xc) = V at z1 x1 ⊢
  rw [← HXN.out] at z1
  have hTw : TrM w' p q pc pb a c xs k s fa fc t → True := fun _ => trivial
  refine wpAnyV_done (by kernel_rfl) ?_ _
  dsimp only [onNormal]
  have hwA := hB1.size
  have hg4 := g4.size
  refine HFIN.out _ _ _ _ _ _ _ _ xa xc V ⟨g1.other (fun i hi => x1.block i (Nat.lt_of_le_of_lt hi g1.size) (fun e => by omega)), z1, ?_, (x1.block q (by have := hT1.qlt; omega) (fun e => by omega)).trans (g3.trans hT1.tr), hlp, hlq⟩ ?_
  · exact ownsRow_same hown' (fun g hgg => x1.block g (hown'.lt g hgg).2 (fun e => by have := (hown'.lt g hgg).1; omega))
  · exact (hB1.mono (by omega)).trans ((g4.mono (by omega)).trans (x1.below (B := pc) (by omega) (fun j _ h => by omega)))
end Go.Proofs.Ytacioedolmaofaa
