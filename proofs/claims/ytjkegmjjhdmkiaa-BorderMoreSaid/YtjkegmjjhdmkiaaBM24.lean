/- Spans and stars compared; parts of a function's code. A struct of six cells stored whole. The law BorderMore, walked: what is told of a border that is known better. The law BorderMore, walked: shifts of the border as it is. -/
import Derived.Test.YtjkegmjjhdmkiaaBM19
import Derived.Test.YtjkegmjjhdmkiaaBM20
import Derived.Test.YtjkegmjjhdmkiaaBM23
import Derived.BigQuiet
import Derived.BigRegion
import Derived.IntWalk
import Derived.Laws.StructEq
namespace Go.Proofs.Ytjkegmjjhdmkiaa
open Go.RowKit Go.Shelf
set_option maxHeartbeats 1600000
set_option maxRecDepth 100000
set_option linter.unusedSimpArgs false

theorem eqFields_true {P : Program} (d : Nat) (xs : Array Value) : ∀ (fs : List Field) (w : World), (∀ f ∈ fs, ∃ v, ∀ w, (part f.type xs f.offset).run P w = .ok v w ∧ (Op.equalIn d f.type v v).run P w = .ok true w) → (Op.eqFields d xs xs fs).run P w = .ok true w := by
  intro fs
  induction fs with
  | nil => intro w _; simp [Op.eqFields]
  | cons f fs ih =>
    intro w h
    have ih' := ih w (fun g hg => h g (List.mem_cons_of_mem _ hg))
    obtain ⟨v, hv⟩ := h f List.mem_cons_self
    simp only [Op.eqFields]
    split
    · simp [Sem.run_bind, (hv w).1, (hv w).2, Result.andThen, ih']
    · exact ih'
theorem eq_fields {P : Program} {t : TypeId} {l : List (String × TypeId × Nat)} (h : (P.fieldsOf t).toList.map (fun f => (f.name, f.type, f.offset)) = l) {f : Field} (hf : f ∈ (P.fieldsOf t).toList) : (f.name, f.type, f.offset) ∈ l := by
  rw [← h]; exact List.mem_map.2 ⟨f, hf, rfl⟩

theorem span_eq (d : Nat) (a c : Int) (w : World) : (Op.equalIn (d + 2) 23 (.agg #[.int .i64 a, .int .i64 c]) (.agg #[.int .i64 a, .int .i64 c])).run Try.prog w = .ok true w := by
  have hu : Try.prog.underlying 23 = some (.struct (Try.prog.fieldsOf 23)) := by kernel_rfl
  have hp : Try.prog.stoodInHeld 23 = false := by kernel_rfl
  have hf : (Try.prog.fieldsOf 23).toList.map (fun f => (f.name, f.type, f.offset)) = [("Lo", 3, 0), ("Hi", 3, 1)] := by kernel_rfl
  rw [run_equalIn_struct _ _ _ _ _ hu hp]
  refine eqFields_true _ _ _ _ (fun f hm => ?_)
  have h := eq_fields hf hm
  simp only [List.mem_cons, List.not_mem_nil, or_false, Prod.mk.injEq] at h
  have hi : ∀ (x : Int) (w : World), (Op.equalIn (d + 1) 3 (.int .i64 x) (.int .i64 x)).run Try.prog w = .ok true w := fun x w => by
    rw [run_equalIn_int _ _ _ _ _ _ _ Try.underlying3]; simp
  rcases h with ⟨_, h1, h2⟩ | ⟨_, h1, h2⟩
  · rw [h1, h2]; exact ⟨.int .i64 a, fun w => ⟨by kernel_rfl, hi a w⟩⟩
  · rw [h1, h2]; exact ⟨.int .i64 c, fun w => ⟨by kernel_rfl, hi c w⟩⟩
theorem span_neq (a c : Int) (w : World) : (binOp .neq 23 (.agg #[.int .i64 a, .int .i64 c]) (.agg #[.int .i64 a, .int .i64 c])).run Try.prog w = .ok (.bool false) w := by
  rw [run_neq_struct, span_eq 9998]; rfl
theorem edge_neq (x : Ed) (w : World) : (binOp .neq 55 (edV x) (edV x)).run Try.prog w = .ok (.bool false) w := by
  unfold edV
  have hu : Try.prog.underlying 55 = some (.struct (Try.prog.fieldsOf 55)) := by kernel_rfl
  have hp : Try.prog.stoodInHeld 55 = false := by kernel_rfl
  have hf : (Try.prog.fieldsOf 55).toList.map (fun f => (f.name, f.type, f.offset)) = [("East", 23, 0), ("North", 23, 2), ("Bright", 23, 4), ("Sure", 4, 6)] := by kernel_rfl
  rw [run_neq_struct, run_equalIn_struct _ _ _ _ _ hu hp, eqFields_true]
  · rfl
  · intro f hm
    have h := eq_fields hf hm
    simp only [List.mem_cons, List.not_mem_nil, or_false, Prod.mk.injEq] at h
    rcases h with ⟨_, h1, h2⟩ | ⟨_, h1, h2⟩ | ⟨_, h1, h2⟩ | ⟨_, h1, h2⟩
    · rw [h1, h2]; exact ⟨.agg #[.int .i64 x.e.lo, .int .i64 x.e.hi], fun w => ⟨by kernel_rfl, span_eq 9997 _ _ w⟩⟩
    · rw [h1, h2]; exact ⟨.agg #[.int .i64 x.n.lo, .int .i64 x.n.hi], fun w => ⟨by kernel_rfl, span_eq 9997 _ _ w⟩⟩
    · rw [h1, h2]; exact ⟨.agg #[.int .i64 x.b.lo, .int .i64 x.b.hi], fun w => ⟨by kernel_rfl, span_eq 9997 _ _ w⟩⟩
    · rw [h1, h2]; exact ⟨.bool x.sure, fun w => ⟨by kernel_rfl, by rw [run_equalIn_bool' _ _ _ _ _ Try.underlying4]; simp⟩⟩

/-- What follows the first statement for which p holds, in a function's text; parts of a statement. -/
def tailAt' (p : Code → Bool) : Code → Option Code
  | .seq a b => if p a then some (.seq a b) else tailAt' p b
  | _ => none
def isIf' (n : Nat) : Code → Bool
  | .seq (.region m _ _) _ => m == n
  | _ => false
def isReg (n : Nat) : Code → Bool
  | .region m _ _ => m == n
  | _ => false
def fstC' : Code → Code
  | .seq a _ => a
  | c => c
def sndC' : Code → Code
  | .seq _ b => b
  | c => c
end Go.Proofs.Ytjkegmjjhdmkiaa
namespace Go.Proofs.Ytjkegmjjhdmkiaa
open Go.RowKit Go.Shelf
set_option maxHeartbeats 1600000
set_option maxRecDepth 100000

theorem six_same {w : World} {p : Nat} {x0 x1 x2 x3 x4 x5 : Value} (v0 v1 v2 v3 v4 v5 : Value) {T : TypeId} (h : w.heap[p]? = some (.cells #[x0, x1, x2, x3, x4, x5] T)) : ((((((w.setCell ⟨p, 0, none⟩ v0).setCell ⟨p, 1, none⟩ v1).setCell ⟨p, 2, none⟩ v2).setCell ⟨p, 3, none⟩ v3).setCell ⟨p, 4, none⟩ v4).setCell ⟨p, 5, none⟩ v5).heap[p]? = some (.cells #[v0, v1, v2, v3, v4, v5] T) :=
  heap_setCell_same _ _ 5 _ _ v5 (heap_setCell_same _ _ 4 _ _ v4 (heap_setCell_same _ _ 3 _ _ v3 (heap_setCell_same _ _ 2 _ _ v2 (heap_setCell_same _ _ 1 _ _ v1 (heap_setCell_same _ _ 0 _ _ v0 (h))))))
theorem six_other (w : World) (p k : Nat) (v0 v1 v2 v3 v4 v5 : Value) (h : k ≠ p) : ((((((w.setCell ⟨p, 0, none⟩ v0).setCell ⟨p, 1, none⟩ v1).setCell ⟨p, 2, none⟩ v2).setCell ⟨p, 3, none⟩ v3).setCell ⟨p, 4, none⟩ v4).setCell ⟨p, 5, none⟩ v5).heap[k]? = w.heap[k]? := by
  iterate 6 rw [Below.heap_setCell _ _ _ _ (by exact h)]
theorem six_below {w w' : World} {p B : Nat} (v0 v1 v2 v3 v4 v5 : Value) (h : Below B w w') (hB : B ≤ p) : Below B w ((((((w'.setCell ⟨p, 0, none⟩ v0).setCell ⟨p, 1, none⟩ v1).setCell ⟨p, 2, none⟩ v2).setCell ⟨p, 3, none⟩ v3).setCell ⟨p, 4, none⟩ v4).setCell ⟨p, 5, none⟩ v5) := by
  iterate 6 refine Below.setCell ?_ (by exact hB) _
  exact h
end Go.Proofs.Ytjkegmjjhdmkiaa
namespace Go.Proofs.Ytjkegmjjhdmkiaa
open Go.RowKit Go.Shelf
set_option maxHeartbeats 12800000
set_option maxRecDepth 100000
set_option linter.unusedSimpArgs false

/-- A border of a row of borders, in which no more can be than in b. -/
structure Cand (W : World) (r k : Nat) (b : Bo) (sa : Option Addr) (sc : Nat) (c : Bo) (ca : Option Addr) (cc : Nat) : Prop where
  c0 : W.cell? ⟨r, k * 6, none⟩ = some (.int .i64 c.e.lo)
  c1 : W.cell? ⟨r, k * 6 + 1, none⟩ = some (.int .i64 c.e.hi)
  c2 : W.cell? ⟨r, k * 6 + 2, none⟩ = some (.int .i64 c.n.lo)
  c3 : W.cell? ⟨r, k * 6 + 3, none⟩ = some (.int .i64 c.n.hi)
  c4 : W.cell? ⟨r, k * 6 + 4, none⟩ = some (.slice ca c.fs.length cc)
  c5 : W.cell? ⟨r, k * 6 + 5, none⟩ = some (.slice sa c.ss.length sc)
  f : EdSl W ca c.fs
  s : EdSl W sa c.ss
  nar : Narrow c b
  ok : c.ok = true
theorem Cand.later {W W' : World} {r k : Nat} {b : Bo} {sa : Option Addr} {sc : Nat} {c : Bo} {ca : Option Addr} {cc : Nat} (h : Cand W r k b sa sc c ca cc) (hb : Below W.heap.size W W') : Cand W' r k b sa sc c ca cc :=
  ⟨cell_later hb h.c0, cell_later hb h.c1, cell_later hb h.c2, cell_later hb h.c3, cell_later hb h.c4, cell_later hb h.c5, h.f.below hb (Nat.le_refl _), h.s.below hb (Nat.le_refl _), h.nar, h.ok⟩
theorem shift_bounds' (b : Bo) (hok : b.ok = true) : ((bShift b).2.2 = 0 ∧ allOf b (sures b.fs) (sures b.ss) ≠ [] ∧ ShiftLaw b (sures b.fs) (sures b.ss) (bShift b).1 (bShift b).2.1) ∨ ((bShift b).2.2 = 4 ∧ allOf b (sures b.fs) (sures b.ss) = []) := by
  by_cases h : allOf b (sures b.fs) (sures b.ss) = []
  · have e1 : bShift b = (⟨0, 0⟩, ⟨0, 0⟩, 4) := by unfold bShift; rw [if_pos hok, if_pos h]
    rw [e1]
    exact .inr ⟨rfl, h⟩
  · obtain ⟨x, y, e1, hl⟩ := bShift_law hok h
    rw [e1]
    exact .inl ⟨rfl, h, hl⟩
theorem pairs_at (b : Bo) (hok : b.ok = true) (hne : allOf b (sures b.fs) (sures b.ss) ≠ []) (i : Nat) (hi : i < b.fs.length) : bPairs b (i : Int) = ((prsAt (allOf b (sures b.fs) (sures b.ss)) i).every, (prsAt (allOf b (sures b.fs) (sures b.ss)) i).some, 0) := by
  have hr : (decide (0 ≤ (i : Int)) && decide ((i : Int) ≤ (b.fs.length : Int) - 1)) = true := by simp; omega
  simp only [bPairs, hok, hne, hr, if_true, if_false, Int.toNat_natCast, prsAt]

/-- Such a border in a block of its own. -/
structure CandB (W : World) (p : Nat) (b : Bo) (sa : Option Addr) (sc : Nat) (c : Bo) (ca : Option Addr) (cc : Nat) : Prop where
  blk : W.heap[p]? = some (.cells #[.int .i64 c.e.lo, .int .i64 c.e.hi, .int .i64 c.n.lo, .int .i64 c.n.hi, .slice ca c.fs.length cc, .slice sa c.ss.length sc] 26)
  f : EdSl W ca c.fs
  s : EdSl W sa c.ss
  nar : Narrow c b
  ok : c.ok = true
theorem CandB.later {W W' : World} {p : Nat} {b : Bo} {sa : Option Addr} {sc : Nat} {c : Bo} {ca : Option Addr} {cc : Nat} (h : CandB W p b sa sc c ca cc) (hb : Below W.heap.size W W') : CandB W' p b sa sc c ca cc :=
  ⟨obj_later hb h.blk, h.f.below hb (Nat.le_refl _), h.s.below hb (Nat.le_refl _), h.nar, h.ok⟩

theorem lawMore_a (b : Bo) (fa sa : Option Addr) (fc sc q p8 p9 p10 : Nat) (c1 c2 c3 : Bo) (ca1 ca2 ca3 : Option Addr) (cc1 cc2 cc3 : Nat) (x y : Sp) (n : Int) (w wb : World) {z0 z1 z2 z4 z5 z6 z7 z11 z15 z16 z17 z18 z19 z20 z21 z22 z23 z24 z25 z26 z27 z28 z29 z30 z31 z32 z33 z34 z35 z36 z37 z38 z39 z40 z41 z42 z43 z44 z45 z46 z47 z48 z49 z50 z51 z52 z53 z54 z55 z56 z57 z58 z59 z60 z61 z62 z63 z64 z65 z66 z67 z68 z69 z70 z71 z72 z73 z74 z75 z76 z77 z78 z79 z80 z81 z82 z83 z84 z85 z86 z87 z88 z89 z90 z91 z92 z93 z94 z95 z96 z97 z98 z99 z100 z101 z102 z103 z104 z105 z106 z107 z108 z109 z110 z111 z112 z113 z114 z115 z116 z117 z118 z119 z120 z121 z122 z123 z124 z125 z126 z127 z128 z129 z130 z131 z132 z133 z134 z135 z136 z137 z138 z139 z140 z141 z142 z143 z144 z145 z146 z147 z148 z149 z150 z151 z152 z153 z154 z155 z156 z157 z158 z159 z160 z161 z162 z163 z164 z165 z166 z167 z168 z169 z170 z171 z172 z173 z174 z175 z176 z177 z178 z179 z180 z181 z182 z183 z184 z185 z186 z187 z188 z189 z190 z191 z192 z193 z194 z195 z196 z197 z198 z199 z200 z201 z202 z203 z204 z205 z206 z207 z208 z209 z210 z211 z212 z213 z214 z215 z216 z217 z218 z219 z220 z221 z222 z223 z224 z225 z226 z227 z228 z229 z230 : Value}
    (HB : Hid (BoArg w b fa sa)) (HOK : Hid (b.ok = true)) (HS : Hid (bShift b = (x, y, n)))
    (H1 : Hid (CandB wb p8 b sa sc c1 ca1 cc1)) (H2 : Hid (CandB wb p9 b sa sc c2 ca2 cc2)) (H3 : Hid (CandB wb p10 b sa sc c3 ca3 cc3))
    (gb : wb.heap[w.heap.size]? = some (.cells #[.int .i64 b.e.lo, .int .i64 b.e.hi, .int .i64 b.n.lo, .int .i64 b.n.hi, .slice fa b.fs.length fc, .slice sa b.ss.length sc] 26)) (xb : wb.heap[q]? = some (.cells #[.int .i64 x.lo, .int .i64 x.hi] 23)) (yb : wb.heap[q + 1]? = some (.cells #[.int .i64 y.lo, .int .i64 y.hi] 23))
    (hbb : Below w.heap.size w wb) (K1 K : Act → World → Prop)
    (hK1 : ∀ a w', Code.wp Try.prog (sndC' (fstC' ((Try.f9.body.bind (tailAt' (isIf' 11))).getD .skip))) (Exit.then K (bodyPost Try.prog Try.f9 fun e w' => e = .returned (.bool true) ∧ Below w.heap.size w w')) a w' → K1 a w') (hK : ∀ a w', Code.wp Try.prog (sndC' ((Try.f9.body.bind (tailAt' (isIf' 11))).getD .skip)) (bodyPost Try.prog Try.f9 fun e w' => e = .returned (.bool true) ∧ Below w.heap.size w w') a w' → K a w') :
    Code.wp Try.prog (fstC' (fstC' ((Try.f9.body.bind (tailAt' (isIf' 11))).getD .skip))) (Exit.then K1 (Exit.then K (bodyPost Try.prog Try.f9 fun e w' => e = .returned (.bool true) ∧ Below w.heap.size w w')))
      ⟨(z0 :: z1 :: z2 :: (.pointer (some ⟨w.heap.size, 0, none⟩)) :: z4 :: z5 :: z6 :: z7 :: (.pointer (some ⟨p8, 0, none⟩)) :: (.pointer (some ⟨p9, 0, none⟩)) :: (.pointer (some ⟨p10, 0, none⟩)) :: z11 :: (.pointer (some ⟨q, 0, none⟩)) :: (.pointer (some ⟨q + 1, 0, none⟩)) :: (.int .i64 n) :: z15 :: z16 :: z17 :: z18 :: z19 :: z20 :: z21 :: z22 :: z23 :: z24 :: z25 :: z26 :: z27 :: z28 :: z29 :: z30 :: z31 :: z32 :: z33 :: z34 :: z35 :: z36 :: z37 :: z38 :: z39 :: z40 :: z41 :: z42 :: z43 :: z44 :: z45 :: z46 :: z47 :: z48 :: z49 :: z50 :: z51 :: z52 :: z53 :: z54 :: z55 :: z56 :: z57 :: z58 :: z59 :: z60 :: z61 :: z62 :: z63 :: z64 :: z65 :: z66 :: z67 :: z68 :: z69 :: z70 :: z71 :: z72 :: z73 :: z74 :: z75 :: z76 :: z77 :: z78 :: z79 :: z80 :: z81 :: z82 :: z83 :: z84 :: z85 :: z86 :: z87 :: z88 :: z89 :: z90 :: z91 :: z92 :: z93 :: z94 :: z95 :: z96 :: z97 :: z98 :: z99 :: z100 :: z101 :: z102 :: z103 :: z104 :: z105 :: z106 :: z107 :: z108 :: z109 :: z110 :: z111 :: z112 :: z113 :: z114 :: z115 :: z116 :: z117 :: z118 :: z119 :: z120 :: z121 :: z122 :: z123 :: z124 :: z125 :: z126 :: z127 :: z128 :: z129 :: z130 :: z131 :: z132 :: z133 :: z134 :: z135 :: z136 :: z137 :: z138 :: z139 :: z140 :: z141 :: z142 :: z143 :: z144 :: z145 :: z146 :: z147 :: z148 :: z149 :: z150 :: z151 :: z152 :: z153 :: z154 :: z155 :: z156 :: z157 :: z158 :: z159 :: z160 :: z161 :: z162 :: z163 :: z164 :: z165 :: z166 :: z167 :: z168 :: z169 :: z170 :: z171 :: z172 :: z173 :: z174 :: z175 :: z176 :: z177 :: z178 :: z179 :: z180 :: z181 :: z182 :: z183 :: z184 :: z185 :: z186 :: z187 :: z188 :: z189 :: z190 :: z191 :: z192 :: z193 :: z194 :: z195 :: z196 :: z197 :: z198 :: z199 :: z200 :: z201 :: z202 :: z203 :: z204 :: z205 :: z206 :: z207 :: z208 :: z209 :: z210 :: z211 :: z212 :: z213 :: z214 :: z215 :: z216 :: z217 :: z218 :: z219 :: z220 :: z221 :: z222 :: z223 :: z224 :: z225 :: z226 :: z227 :: z228 :: z229 :: z230 :: []).toArray, []⟩ wb := by
  have hlens := bo_lens HOK.out
  have hfl : (b.fs.length : Int) ≤ 6 := by omega
  have k8 := H1.out.blk
  have k9 := H2.out.blk
  have k10 := H3.out.blk
  have a0 := cell_block k8 0
  have a1 := cell_block k8 1
  have a2 := cell_block k8 2
  have a3 := cell_block k8 3
  have a4 := cell_block k8 4
  have a5 := cell_block k8 5
  simp only [List.getElem?_toArray, List.getElem?_cons_zero, List.getElem?_cons_succ] at a0 a1 a2 a3 a4 a5
  have d0 := cell_block k9 0
  have d1 := cell_block k9 1
  have d2 := cell_block k9 2
  have d3 := cell_block k9 3
  have d4 := cell_block k9 4
  have d5 := cell_block k9 5
  simp only [List.getElem?_toArray, List.getElem?_cons_zero, List.getElem?_cons_succ] at d0 d1 d2 d3 d4 d5
  have e0 := cell_block k10 0
  have e1 := cell_block k10 1
  have e2 := cell_block k10 2
  have e3 := cell_block k10 3
  have e4 := cell_block k10 4
  have e5 := cell_block k10 5
  simp only [List.getElem?_toArray, List.getElem?_cons_zero, List.getElem?_cons_succ] at e0 e1 e2 e3 e4 e5
  clear k8 k9 k10
  conv => arg 2; whnf
  conv at hK1 => enter [a, w', 1, 2]; whnf
  conv at hK => enter [a, w', 1, 2]; whnf
  go_wp2_with fail
  clear a0 a1 a2 a3 a4 a5 d0 d1 d2 d3 d4 d5 e0 e1 e2 e3 e4 e5
  obtain ⟨wc, hwc⟩ : ∃ W, (wb.alloc (.cells #[.int .i64 c1.e.lo, .int .i64 c1.e.hi, .int .i64 c1.n.lo, .int .i64 c1.n.hi, .slice ca1 c1.fs.length cc1, .slice sa c1.ss.length sc, .int .i64 c2.e.lo, .int .i64 c2.e.hi, .int .i64 c2.n.lo, .int .i64 c2.n.hi, .slice ca2 c2.fs.length cc2, .slice sa c2.ss.length sc, .int .i64 c3.e.lo, .int .i64 c3.e.hi, .int .i64 c3.n.lo, .int .i64 c3.n.hi, .slice ca3 c3.fs.length cc3, .slice sa c3.ss.length sc] 26)) = W := ⟨_, rfl⟩
  rw [hwc]
  try simp only [Nat.add_assoc, Nat.reduceAdd]
  have hst_wc : Steps (fun _ => False) wb wc := by rw [← hwc]; exact Steps.alloc _ wb _
  have hz_wc : wc.heap.size = wb.heap.size + 1 := by rw [← hwc]; simp
  have g0_wc : wc.heap[wb.heap.size]? = some (.cells #[.int .i64 c1.e.lo, .int .i64 c1.e.hi, .int .i64 c1.n.lo, .int .i64 c1.n.hi, .slice ca1 c1.fs.length cc1, .slice sa c1.ss.length sc, .int .i64 c2.e.lo, .int .i64 c2.e.hi, .int .i64 c2.n.lo, .int .i64 c2.n.hi, .slice ca2 c2.fs.length cc2, .slice sa c2.ss.length sc, .int .i64 c3.e.lo, .int .i64 c3.e.hi, .int .i64 c3.n.lo, .int .i64 c3.n.hi, .slice ca3 c3.fs.length cc3, .slice sa c3.ss.length sc] 26) := by rw [← hwc]; simp only [alloc_get, World.size_alloc]; repeat (first | exact if_pos trivial | exact if_pos (by omega) | rw [if_neg (by omega)])
  clear hwc
  have hbc : Below wb.heap.size wb wc := hst_wc.below (Nat.le_refl _) (fun _ _ h => h)
  obtain ⟨r, hr⟩ : ∃ r, wb.heap.size = r := ⟨_, rfl⟩
  have hC : ∀ k, k < 3 → ∃ c ca cc, Cand wc r k b sa sc c ca cc := by
    rw [hr] at g0_wc
    have h1 := H1.out.later hbc
    have h2 := H2.out.later hbc
    have h3 := H3.out.later hbc
    intro k hk
    match k, hk with
    | 0, _ => exact ⟨c1, ca1, cc1, cell_block g0_wc 0, cell_block g0_wc 1, cell_block g0_wc 2, cell_block g0_wc 3, cell_block g0_wc 4, cell_block g0_wc 5, h1.f, h1.s, h1.nar, h1.ok⟩
    | 1, _ => exact ⟨c2, ca2, cc2, cell_block g0_wc 6, cell_block g0_wc 7, cell_block g0_wc 8, cell_block g0_wc 9, cell_block g0_wc 10, cell_block g0_wc 11, h2.f, h2.s, h2.nar, h2.ok⟩
    | 2, _ => exact ⟨c3, ca3, cc3, cell_block g0_wc 12, cell_block g0_wc 13, cell_block g0_wc 14, cell_block g0_wc 15, cell_block g0_wc 16, cell_block g0_wc 17, h3.f, h3.s, h3.nar, h3.ok⟩
  have HC := Lib.hid hC
  rw [hr]
  have gc := obj_later hbc gb
  have xc := obj_later hbc xb
  have yc := obj_later hbc yb
  have hbw := hbb.trans (hbc.mono hbb.size)
  clear hC hr g0_wc hst_wc hz_wc hbc gb xb yb hbb H1 H2 H3
  go_loopw [146] (fun i wr => ∃ k : Nat, k ≤ 3 ∧ i = .int .i64 k ∧ Below wc.heap.size wc wr) (fun i _ => 3 - (intOf i).toNat)
  case atStart => exact ⟨0, by omega, rfl, Below.refl _ _⟩
  case round =>
    obtain ⟨k, hk, rfl, hbr⟩ := hrel
    have hbwr := hbw.trans (hbr.mono hbw.size)
    by_cases hlt : k < 3
    · have hki : (k : Int) < 3 := by omega
      obtain ⟨c, ca, cc, hc⟩ := HC.out k hlt
      have hcr := hc.later hbr
      obtain ⟨c0, c1, c2, c3, c4, c5, hcf, hcs, hnar, hcok⟩ := hcr
      have HCA : Hid (BoArg wr c ca sa) := Lib.hid ⟨hcf, hcs, by rw [hnar.fs]; omega, by rw [hnar.ss]; omega⟩
      have HNAR := Lib.hid hnar
      have HCOK := Lib.hid hcok
      clear hc hcf hcs hnar hcok
      go_upto_region 14 with fail
      obtain ⟨W1, hW1⟩ : ∃ W, (wr.alloc (.cells #[.int .i64 c.e.lo, .int .i64 c.e.hi, .int .i64 c.n.lo, .int .i64 c.n.hi, .slice ca c.fs.length cc, .slice sa c.ss.length sc] 26)) = W := ⟨_, rfl⟩
      rw [hW1]
      try simp only [Nat.add_assoc, Nat.reduceAdd]
      have hst_W1 : Steps (fun _ => False) wr W1 := by rw [← hW1]; exact Steps.alloc _ wr _
      have hz_W1 : W1.heap.size = wr.heap.size + 1 := by rw [← hW1]; simp
      have g0_W1 : W1.heap[wr.heap.size]? = some (.cells #[.int .i64 c.e.lo, .int .i64 c.e.hi, .int .i64 c.n.lo, .int .i64 c.n.hi, .slice ca c.fs.length cc, .slice sa c.ss.length sc] 26) := by rw [← hW1]; simp only [alloc_get, World.size_alloc]; repeat (first | exact if_pos trivial | exact if_pos (by omega) | rw [if_neg (by omega)])
      clear hW1
      have hb1 : Below wr.heap.size wr W1 := hst_W1.below (Nat.le_refl _) (fun _ _ h => h)
      obtain ⟨p, hp⟩ : ∃ p, wr.heap.size = p := ⟨_, rfl⟩
      rw [hp] at g0_W1 ⊢
      have hbr1 := hbr.trans (hb1.mono hbr.size)
      have hbw1 := hbwr.trans (hb1.mono hbwr.size)
      have HCA1 := Lib.hid (HCA.out.below hb1)
      clear hst_W1 hz_W1 c0 c1 c2 c3 c4 c5 hb1 hp hbr hbwr HCA
      obtain ⟨u, v, f, hU⟩ : ∃ u v f, bShift c = (u, v, f) := ⟨_, _, _, rfl⟩
      have hsh := shift_any c ca sa cc sc W1 HCA1.out
      unfold ShiftPost spV at hsh
      rw [hU] at hsh
      dsimp only at hsh
      have hbd := shift_bounds' c HCOK.out
      rw [hU] at hbd
      dsimp only at hbd
      have HBD := Lib.hid hbd
      clear hbd hU
      have c0 := cell_block g0_W1 0
      have c1 := cell_block g0_W1 1
      have c2 := cell_block g0_W1 2
      have c3 := cell_block g0_W1 3
      have c4 := cell_block g0_W1 4
      have c5 := cell_block g0_W1 5
      simp only [List.getElem?_toArray, List.getElem?_cons_zero, List.getElem?_cons_succ] at c0 c1 c2 c3 c4 c5
      go_wp2_with fail
      refine hsh.mono ?_
      rintro e w2 ⟨rfl, hb2⟩
      clear hsh c0 c1 c2 c3 c4 c5
      have g2 := obj_later hb2 g0_W1
      have hbr2 := hbr1.trans (hb2.mono hbr1.size)
      have hbw2 := hbw1.trans (hb2.mono hbw1.size)
      have HCA2 := Lib.hid (HCA1.out.below hb2)
      clear hb2 g0_W1 hbr1 hbw1 HCA1
      go_upto_region 15 with fail
      obtain ⟨W3, hW3⟩ : ∃ W, ((w2.alloc (.cells #[.int .i64 u.lo, .int .i64 u.hi] 23)).alloc (.cells #[.int .i64 v.lo, .int .i64 v.hi] 23)) = W := ⟨_, rfl⟩
      rw [hW3]
      try simp only [Nat.add_assoc, Nat.reduceAdd]
      have hst_W3 : Steps (fun _ => False) w2 W3 := by rw [← hW3]; exact (Steps.alloc _ w2 _).trans (Steps.alloc (fun _ => False) _ _) (fun _ _ h => h)
      have hz_W3 : W3.heap.size = w2.heap.size + 2 := by rw [← hW3]; simp
      have g0_W3 : W3.heap[w2.heap.size]? = some (.cells #[.int .i64 u.lo, .int .i64 u.hi] 23) := by rw [← hW3]; simp only [alloc_get, World.size_alloc]; repeat (first | exact if_pos trivial | exact if_pos (by omega) | rw [if_neg (by omega)])
      have g1_W3 : W3.heap[w2.heap.size + 1]? = some (.cells #[.int .i64 v.lo, .int .i64 v.hi] 23) := by rw [← hW3]; simp only [alloc_get, World.size_alloc]; repeat (first | exact if_pos trivial | exact if_pos (by omega) | rw [if_neg (by omega)])
      clear hW3
      have hb3 : Below w2.heap.size w2 W3 := hst_W3.below (Nat.le_refl _) (fun _ _ h => h)
      obtain ⟨s, hs⟩ : ∃ s, w2.heap.size = s := ⟨_, rfl⟩
      rw [hs] at g0_W3 g1_W3 ⊢
      have g3 := obj_later hb3 g2
      have hbr3 := hbr2.trans (hb3.mono hbr2.size)
      have hbw3 := hbw2.trans (hb3.mono hbw2.size)
      have HCA3 := Lib.hid (HCA2.out.below hb3)
      clear hb3 g2 hst_W3 hz_W3 hs hbr2 hbw2 HCA2
      rcases HBD.out with ⟨rfl, hcne, hcl⟩ | ⟨rfl, hcnil⟩
      · have hbne : allOf b (sures b.fs) (sures b.ss) ≠ [] := fun e => by
          obtain ⟨z, hz⟩ := List.exists_mem_of_ne_nil _ hcne
          have := HNAR.out.all hz
          rw [e] at this
          cases this
        have hb' := shift_bounds' b HOK.out
        rw [HS.out] at hb'
        dsimp only at hb'
        obtain ⟨rfl, hbl⟩ : n = 0 ∧ ShiftLaw b (sures b.fs) (sures b.ss) x y := by
          rcases hb' with ⟨h1, _, h2⟩ | ⟨_, h⟩
          · exact ⟨h1, h2⟩
          · exact absurd h hbne
        have hms := more_shift HNAR.out hbl hcl
        obtain ⟨i1, i2, i3, i4⟩ := hms
        have HBJ := Lib.hid (allOf_jlist HOK.out hbne)
        have HCJ := Lib.hid (allOf_jlist HCOK.out hcne)
        have HPB := Lib.hid (pairs_at b HOK.out hbne)
        have HPC := Lib.hid (pairs_at c HCOK.out hcne)
        clear hb' hbl hcl
        have x3 := obj_later hbr3 xc
        have y3 := obj_later hbr3 yc
        have gb3 := obj_later hbr3 gc
        have a0 := cell_block x3 0
        have a1 := cell_block x3 1
        simp only [List.getElem?_toArray, List.getElem?_cons_zero, List.getElem?_cons_succ] at a0 a1
        have e0 := cell_block y3 0
        have e1 := cell_block y3 1
        simp only [List.getElem?_toArray, List.getElem?_cons_zero, List.getElem?_cons_succ] at e0 e1
        have d0 := cell_block g0_W3 0
        have d1 := cell_block g0_W3 1
        simp only [List.getElem?_toArray, List.getElem?_cons_zero, List.getElem?_cons_succ] at d0 d1
        have k0 := cell_block g1_W3 0
        have k1 := cell_block g1_W3 1
        simp only [List.getElem?_toArray, List.getElem?_cons_zero, List.getElem?_cons_succ] at k0 k1
        have c4 := cell_block gb3 4
        simp only [List.getElem?_toArray, List.getElem?_cons_zero, List.getElem?_cons_succ] at c4
        have hdec : (decide (u.lo < x.lo) || decide (x.hi < u.hi) || decide (v.lo < y.lo) || decide (y.hi < v.hi)) = false := by simp only [Bool.or_eq_false_iff, decide_eq_false_iff_not]; omega
        go_wp2_with fail
        clear a0 a1 e0 e1 d0 d1 k0 k1 c4 x3 y3 hdec
        go_loopw [193] (fun i wr => ∃ j : Nat, j ≤ b.fs.length ∧ i = .int .i64 j ∧ Below W3.heap.size W3 wr) (fun i _ => b.fs.length - (intOf i).toNat)
        case atStart => exact ⟨0, Nat.zero_le _, rfl, Below.refl _ _⟩
        case round =>
          obtain ⟨j, hj, rfl, hb4⟩ := hrel
          have hbw4 := hbw3.trans (hb4.mono hbw3.size)
          by_cases hltj : j < b.fs.length
          · have hji : (j : Int) < b.fs.length := by omega
            have gb4 := obj_later hb4 gb3
            have c0 := cell_block gb4 0
            have c1 := cell_block gb4 1
            have c2 := cell_block gb4 2
            have c3 := cell_block gb4 3
            have c4 := cell_block gb4 4
            have c5 := cell_block gb4 5
            simp only [List.getElem?_toArray, List.getElem?_cons_zero, List.getElem?_cons_succ] at c0 c1 c2 c3 c4 c5
            have hp1 := pairs_any b (j : Int) fa sa fc sc wr (HB.out.below hbw4)
            unfold PairsPost at hp1
            rw [HPB.out j hltj] at hp1
            dsimp only at hp1
            have hmp := more_pairs HNAR.out HBJ.out HCJ.out hltj
            have hpl := prsAt_lt HBJ.out hltj
            have hcl := prsAt_lt HCJ.out (i := j) (by rw [HNAR.out.fs]; exact hltj)
            have hp6 : 2 ^ b.ss.length ≤ 64 := Nat.pow_le_pow_right (n := 2) (by omega) hlens.2
            have hc6 : c.ss.length ≤ 6 := by rw [HNAR.out.ss]; exact hlens.2
            have hq6 : 2 ^ c.ss.length ≤ 64 := Nat.pow_le_pow_right (n := 2) (by omega) hc6
            have hpc := HPC.out j (by rw [HNAR.out.fs]; exact hltj)
            generalize (prsAt (allOf b (sures b.fs) (sures b.ss)) j).every = E1 at hp1 hmp hpl
            generalize (prsAt (allOf b (sures b.fs) (sures b.ss)) j).some = S1 at hp1 hmp hpl
            generalize (prsAt (allOf c (sures c.fs) (sures c.ss)) j).every = E2 at hpc hmp hcl
            generalize (prsAt (allOf c (sures c.fs) (sures c.ss)) j).some = S2 at hpc hmp hcl
            have HPCJ := Lib.hid hpc
            have n1 : bits .andNot .i64 (S2 : Int) (S1 : Int) = 0 := by rw [andNotI _ _ (by omega) (by omega), hmp.1]; rfl
            have n2 : bits .andNot .i64 (E1 : Int) (E2 : Int) = 0 := by rw [andNotI _ _ (by omega) (by omega), hmp.2]; rfl
            clear hmp hpl hcl hp6 hq6 hpc
            go_wp2_with fail
            refine hp1.mono ?_
            rintro e w5 ⟨rfl, hb5⟩
            clear hp1 c0 c1 c2 c3 c4 c5 gb4
            have hb45 := hb4.trans (hb5.mono hb4.size)
            have g5 := obj_later hb45 g3
            have c0 := cell_block g5 0
            have c1 := cell_block g5 1
            have c2 := cell_block g5 2
            have c3 := cell_block g5 3
            have c4 := cell_block g5 4
            have c5 := cell_block g5 5
            simp only [List.getElem?_toArray, List.getElem?_cons_zero, List.getElem?_cons_succ] at c0 c1 c2 c3 c4 c5
            have hp2 := pairs_any c (j : Int) ca sa cc sc w5 (HCA3.out.below hb45)
            unfold PairsPost at hp2
            rw [HPCJ.out] at hp2
            dsimp only at hp2
            go_wp2_with fail
            refine hp2.mono ?_
            rintro e w6 ⟨rfl, hb6⟩
            clear hp2 c0 c1 c2 c3 c4 c5 g5
            go_wp2_with fail
            clear n1 n2
            go_roundw
            case rel => exact ⟨j + 1, by omega, by go_num, hb45.trans (hb6.mono hb45.size)⟩
            case measure => simp [intOf]; omega
          · obtain rfl : j = b.fs.length := by omega
            go_wp2_with fail
            go_roundw
            case rel => exact ⟨k + 1, by omega, by go_num, hbr3.trans (hb4.mono hbr3.size)⟩
            case measure => simp [intOf]; omega
      · go_wp2_with fail
        go_roundw
        case rel => exact ⟨k + 1, by omega, by go_num, hbr3⟩
        case measure => simp [intOf]; omega
    · obtain rfl : k = 3 := by omega
      go_wp2_with fail
      refine (awake_any _).mono ?_
      rintro e w1 ⟨rfl, hb1⟩
      go_wp2
      go_ret
      exact ⟨rfl, hbwr.trans (hb1.mono hbwr.size)⟩
end Go.Proofs.Ytjkegmjjhdmkiaa
namespace Go.Proofs.Ytjkegmjjhdmkiaa
open Go.RowKit Go.Shelf
set_option maxHeartbeats 12800000
set_option maxRecDepth 100000
set_option linter.unusedSimpArgs false

theorem lawMore_b (b : Bo) (fa sa : Option Addr) (fc sc p8 p9 p10 : Nat) (c1 c2 c3 : Bo) (ca1 ca2 ca3 : Option Addr) (cc1 cc2 cc3 : Nat) (w wc : World) {z0 z1 z2 z4 z5 z6 z7 z11 z12 z13 z14 z15 z16 z17 z18 z19 z20 z21 z22 z23 z24 z25 z26 z27 z28 z29 z30 z31 z32 z33 z34 z35 z36 z37 z38 z39 z40 z41 z42 z43 z44 z45 z46 z47 z48 z49 z50 z51 z52 z53 z54 z55 z56 z57 z58 z59 z60 z61 z62 z63 z64 z65 z66 z67 z68 z69 z70 z71 z72 z73 z74 z75 z76 z77 z78 z79 z80 z81 z82 z83 z84 z85 z86 z87 z88 z89 z90 z91 z92 z93 z94 z95 z96 z97 z98 z99 z100 z101 z102 z103 z104 z105 z106 z107 z108 z109 z110 z111 z112 z113 z114 z115 z116 z117 z118 z119 z120 z121 z122 z123 z124 z125 z126 z127 z128 z129 z130 z131 z132 z133 z134 z135 z136 z137 z138 z139 z140 z141 z142 z143 z144 z145 z146 z147 z148 z149 z150 z151 z152 z153 z154 z155 z156 z157 z158 z159 z160 z161 z162 z163 z164 z165 z166 z167 z168 z169 z170 z171 z172 z173 z174 z175 z176 z177 z178 z179 z180 z181 z182 z183 z184 z185 z186 z187 z188 z189 z190 z191 z192 z193 z194 z195 z196 z197 z198 z199 z200 z201 z202 z203 z204 z205 z206 z207 z208 z209 z210 z211 z212 z213 z214 z215 z216 z217 z218 z219 z220 z221 z222 z223 z224 z225 z226 z227 z228 z229 z230 : Value}
    (HB : Hid (BoArg w b fa sa)) (HOK : Hid (b.ok = true))
    (H1 : Hid (CandB wc p8 b sa sc c1 ca1 cc1)) (H2 : Hid (CandB wc p9 b sa sc c2 ca2 cc2)) (H3 : Hid (CandB wc p10 b sa sc c3 ca3 cc3))
    (gc : wc.heap[w.heap.size]? = some (.cells #[.int .i64 b.e.lo, .int .i64 b.e.hi, .int .i64 b.n.lo, .int .i64 b.n.hi, .slice fa b.fs.length fc, .slice sa b.ss.length sc] 26)) (hbw : Below w.heap.size w wc) (K : Act → World → Prop) (hK : ∀ a w', Code.wp Try.prog (sndC' ((Try.f9.body.bind (tailAt' (isReg 10))).getD .skip)) (bodyPost Try.prog Try.f9 fun e w' => e = .returned (.bool true) ∧ Below w.heap.size w w') a w' → K a w') :
    Code.wp Try.prog (fstC' ((Try.f9.body.bind (tailAt' (isReg 10))).getD .skip)) (Exit.then K (bodyPost Try.prog Try.f9 fun e w' => e = .returned (.bool true) ∧ Below w.heap.size w w'))
      ⟨(z0 :: z1 :: z2 :: (.pointer (some ⟨w.heap.size, 0, none⟩)) :: z4 :: z5 :: z6 :: z7 :: (.pointer (some ⟨p8, 0, none⟩)) :: (.pointer (some ⟨p9, 0, none⟩)) :: (.pointer (some ⟨p10, 0, none⟩)) :: z11 :: z12 :: z13 :: z14 :: z15 :: z16 :: z17 :: z18 :: z19 :: z20 :: z21 :: z22 :: z23 :: z24 :: z25 :: z26 :: z27 :: z28 :: z29 :: z30 :: z31 :: z32 :: z33 :: z34 :: z35 :: z36 :: z37 :: z38 :: z39 :: z40 :: z41 :: z42 :: z43 :: z44 :: z45 :: z46 :: z47 :: z48 :: z49 :: z50 :: z51 :: z52 :: z53 :: z54 :: z55 :: z56 :: z57 :: z58 :: z59 :: z60 :: z61 :: z62 :: z63 :: z64 :: z65 :: z66 :: z67 :: z68 :: z69 :: z70 :: z71 :: z72 :: z73 :: z74 :: z75 :: z76 :: z77 :: z78 :: z79 :: z80 :: z81 :: z82 :: z83 :: z84 :: z85 :: z86 :: z87 :: z88 :: z89 :: z90 :: z91 :: z92 :: z93 :: z94 :: z95 :: z96 :: z97 :: z98 :: z99 :: z100 :: z101 :: z102 :: z103 :: z104 :: z105 :: z106 :: z107 :: z108 :: z109 :: z110 :: z111 :: z112 :: z113 :: z114 :: z115 :: z116 :: z117 :: z118 :: z119 :: z120 :: z121 :: z122 :: z123 :: z124 :: z125 :: z126 :: z127 :: z128 :: z129 :: z130 :: z131 :: z132 :: z133 :: z134 :: z135 :: z136 :: z137 :: z138 :: z139 :: z140 :: z141 :: z142 :: z143 :: z144 :: z145 :: z146 :: z147 :: z148 :: z149 :: z150 :: z151 :: z152 :: z153 :: z154 :: z155 :: z156 :: z157 :: z158 :: z159 :: z160 :: z161 :: z162 :: z163 :: z164 :: z165 :: z166 :: z167 :: z168 :: z169 :: z170 :: z171 :: z172 :: z173 :: z174 :: z175 :: z176 :: z177 :: z178 :: z179 :: z180 :: z181 :: z182 :: z183 :: z184 :: z185 :: z186 :: z187 :: z188 :: z189 :: z190 :: z191 :: z192 :: z193 :: z194 :: z195 :: z196 :: z197 :: z198 :: z199 :: z200 :: z201 :: z202 :: z203 :: z204 :: z205 :: z206 :: z207 :: z208 :: z209 :: z210 :: z211 :: z212 :: z213 :: z214 :: z215 :: z216 :: z217 :: z218 :: z219 :: z220 :: z221 :: z222 :: z223 :: z224 :: z225 :: z226 :: z227 :: z228 :: z229 :: z230 :: []).toArray, []⟩ wc := by
  have hsh := shift_any b fa sa fc sc wc (HB.out.below hbw)
  unfold ShiftPost spV at hsh
  obtain ⟨x, y, n, hS⟩ : ∃ x y n, bShift b = (x, y, n) := ⟨_, _, _, rfl⟩
  rw [hS] at hsh
  dsimp only at hsh
  have HS := Lib.hid hS
  clear hS
  have s0 := cell_block gc 0
  have s1 := cell_block gc 1
  have s2 := cell_block gc 2
  have s3 := cell_block gc 3
  have s4 := cell_block gc 4
  have s5 := cell_block gc 5
  simp only [List.getElem?_toArray, List.getElem?_cons_zero, List.getElem?_cons_succ] at s0 s1 s2 s3 s4 s5
  conv => arg 2; whnf
  conv at hK => enter [a, w', 1, 2]; whnf
  go_wp2_with fail
  refine hsh.mono ?_
  rintro e w1 ⟨rfl, hb1⟩
  clear hsh s0 s1 s2 s3 s4 s5
  have g1 := obj_later hb1 gc
  have hbw1 := hbw.trans (hb1.mono hbw.size)
  have H11 := Lib.hid (H1.out.later hb1)
  have H21 := Lib.hid (H2.out.later hb1)
  have H31 := Lib.hid (H3.out.later hb1)
  clear hb1 gc hbw H1 H2 H3
  go_upto_region 11 with fail
  obtain ⟨W2, hW2⟩ : ∃ W, ((w1.alloc (.cells #[.int .i64 x.lo, .int .i64 x.hi] 23)).alloc (.cells #[.int .i64 y.lo, .int .i64 y.hi] 23)) = W := ⟨_, rfl⟩
  rw [hW2]
  try simp only [Nat.add_assoc, Nat.reduceAdd]
  have hst_W2 : Steps (fun _ => False) w1 W2 := by rw [← hW2]; exact (Steps.alloc _ w1 _).trans (Steps.alloc (fun _ => False) _ _) (fun _ _ h => h)
  have hz_W2 : W2.heap.size = w1.heap.size + 2 := by rw [← hW2]; simp
  have g0_W2 : W2.heap[w1.heap.size]? = some (.cells #[.int .i64 x.lo, .int .i64 x.hi] 23) := by rw [← hW2]; simp only [alloc_get, World.size_alloc]; repeat (first | exact if_pos trivial | exact if_pos (by omega) | rw [if_neg (by omega)])
  have g1_W2 : W2.heap[w1.heap.size + 1]? = some (.cells #[.int .i64 y.lo, .int .i64 y.hi] 23) := by rw [← hW2]; simp only [alloc_get, World.size_alloc]; repeat (first | exact if_pos trivial | exact if_pos (by omega) | rw [if_neg (by omega)])
  clear hW2
  have hb2 : Below w1.heap.size w1 W2 := hst_W2.below (Nat.le_refl _) (fun _ _ h => h)
  refine lawMore_a b fa sa fc sc w1.heap.size p8 p9 p10 _ _ _ ca1 ca2 ca3 cc1 cc2 cc3 x y n w W2 HB HOK HS (Lib.hid (H11.out.later hb2)) (Lib.hid (H21.out.later hb2)) (Lib.hid (H31.out.later hb2)) (obj_later hb2 g1) g0_W2 g1_W2 (hbw1.trans (hb2.mono hbw1.size)) _ _ ?_ ?_
  · assumption
  · assumption
end Go.Proofs.Ytjkegmjjhdmkiaa
