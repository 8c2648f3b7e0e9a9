/- Rows of images that a call itself made: copied whole, images changed. The regions of ImageMore that draw their order. -/
import Derived.Test.YtacioedolmaofaaLBA13
import Derived.Test.YtacioedolmaofaaLBA27
import Derived.Test.YtacioedolmaofaaLBA24
namespace Go.Proofs.Ytacioedolmaofaa
open Go.RowKit Go.Shelf
set_option maxHeartbeats 1600000
set_option maxRecDepth 100000
set_option linter.unusedSimpArgs false
set_option linter.unusedVariables false

/-- Block g reads as these images, and can be written. -/
structure RowIm (w : World) (g : Nat) (l : List ISpot) : Prop where
  im : ∀ j (h : j < l.length), ImAt w g (j * 6) l[j]
  fz : ∀ i, w.frozen? ⟨g, i, none⟩ = false
  lt : g < w.heap.size
theorem RowIm.sl {w : World} {g : Nat} {l : List ISpot} (h : RowIm w g l) : ImSl w (some ⟨g, 0, none⟩) l := fun k hk => ⟨g, 0, rfl, h.lt, by rw [Nat.zero_add]; exact h.im k hk⟩
theorem RowIm.same {w w' : World} {g : Nat} {l : List ISpot} (h : RowIm w g l) (hb : w'.heap[g]? = w.heap[g]?) : RowIm w' g l := by
  refine ⟨fun j hj => (h.im j hj).same hb, fun i => ?_, ?_⟩
  · have := h.fz i
    unfold World.frozen? at this ⊢
    rw [hb]; exact this
  · have e := Array.getElem?_eq_getElem h.lt
    rw [← hb] at e
    exact (Array.getElem?_eq_some_iff.1 e).1
theorem RowIm.below {w w' : World} {g B : Nat} {l : List ISpot} (h : RowIm w g l) (hb : Below B w w') (hB : w.heap.size ≤ B) : RowIm w' g l := h.same (hb.block g (Nat.lt_of_lt_of_le h.lt hB))
theorem RowIm.upd {w w' : World} {g : Nat} {l : List ISpot} (h : RowIm w g l) (k : Nat) (x : ISpot) (hc : ∀ i, ¬ (k * 6 ≤ i ∧ i < k * 6 + 6) → w'.cell? ⟨g, i, none⟩ = w.cell? ⟨g, i, none⟩) (hx : ImAt w' g (k * 6) x)
    (hfz : ∀ i, w'.frozen? ⟨g, i, none⟩ = false) (hlt : g < w'.heap.size) : RowIm w' g (l.set k x) := by
  refine ⟨fun j hj => ?_, hfz, hlt⟩
  rw [List.length_set] at hj
  rw [List.getElem_set]
  split
  · subst_vars; exact hx
  · rename_i hne
    have hj' := h.im j hj
    have o : ∀ m, m < 6 → w'.cell? ⟨g, j * 6 + m, none⟩ = w.cell? ⟨g, j * 6 + m, none⟩ := fun m hm => hc _ (by omega)
    exact ⟨(o 0 (by omega)).trans hj'.c0, (o 1 (by omega)).trans hj'.c1, (o 2 (by omega)).trans hj'.c2, (o 3 (by omega)).trans hj'.c3, (o 4 (by omega)).trans hj'.c4, (o 5 (by omega)).trans hj'.c5⟩
theorem setc_other (w : World) (g k i : Nat) (v : Value) (h : i ≠ k) : (w.setCell ⟨g, k, none⟩ v).cell? ⟨g, i, none⟩ = w.cell? ⟨g, i, none⟩ :=
  World.cell?_setCell_other _ _ _ _ (fun e => h (by injection e with _ e2; exact e2.symm))
theorem RowIm.putX {w : World} {g : Nat} {l : List ISpot} (h : RowIm w g l) (k : Nat) (x : ISpot) (a b : Int) (hk : k < l.length) (hx : l[k] = x) :
    RowIm ((w.setCell ⟨g, k * 6, none⟩ (.int .i64 a)).setCell ⟨g, k * 6 + 1, none⟩ (.int .i64 b)) g (l.set k ⟨⟨a, b⟩, x.y, x.s⟩) := by
  have hE := h.im k hk
  rw [hx] at hE
  have o : ∀ i, i ≠ k * 6 → i ≠ k * 6 + 1 → ((w.setCell ⟨g, k * 6, none⟩ (.int .i64 a)).setCell ⟨g, k * 6 + 1, none⟩ (.int .i64 b)).cell? ⟨g, i, none⟩ = w.cell? ⟨g, i, none⟩ := fun i h0 h1 => by
    rw [setc_other _ _ _ _ _ h1, setc_other _ _ _ _ _ h0]
  refine h.upd k _ (fun i hi => o i (by omega) (by omega)) ⟨?_, ?_, ?_, ?_, ?_, ?_⟩ (fun i => by rw [World.frozen?_setCell, World.frozen?_setCell]; exact h.fz i) (by simpa [World.setCell] using h.lt)
  · rw [setc_other _ _ _ _ _ (by omega)]; exact World.cell?_setCell_same _ _ _ hE.c0
  · exact World.cell?_setCell_same _ _ _ (by rw [setc_other _ _ _ _ _ (by omega)]; exact hE.c1)
  · rw [o _ (by omega) (by omega)]; exact hE.c2
  · rw [o _ (by omega) (by omega)]; exact hE.c3
  · rw [o _ (by omega) (by omega)]; exact hE.c4
  · rw [o _ (by omega) (by omega)]; exact hE.c5
theorem RowIm.putH {w : World} {g : Nat} {l : List ISpot} (h : RowIm w g l) (k : Nat) (x : ISpot) (v : Int) (hk : k < l.length) (hx : l[k] = x) :
    RowIm (w.setCell ⟨g, k * 6 + 5, none⟩ (.int .i64 v)) g (l.set k ⟨x.x, x.y, ⟨x.s.lo, v⟩⟩) := by
  have hE := h.im k hk
  rw [hx] at hE
  have o : ∀ i, i ≠ k * 6 + 5 → (w.setCell ⟨g, k * 6 + 5, none⟩ (.int .i64 v)).cell? ⟨g, i, none⟩ = w.cell? ⟨g, i, none⟩ := fun i h0 => setc_other _ _ _ _ _ h0
  refine h.upd k _ (fun i hi => o i (by omega)) ⟨?_, ?_, ?_, ?_, ?_, ?_⟩ (fun i => by rw [World.frozen?_setCell]; exact h.fz i) (by simpa [World.setCell] using h.lt)
  · rw [o _ (by omega)]; exact hE.c0
  · rw [o _ (by omega)]; exact hE.c1
  · rw [o _ (by omega)]; exact hE.c2
  · rw [o _ (by omega)]; exact hE.c3
  · rw [o _ (by omega)]; exact hE.c4
  · exact World.cell?_setCell_same _ _ _ hE.c5
/-- A whole image is stored. -/
def put6 (w : World) (g k : Nat) (x : ISpot) : World := (((((w.setCell ⟨g, k, none⟩ (.int .i64 x.x.lo)).setCell ⟨g, k + 1, none⟩ (.int .i64 x.x.hi)).setCell ⟨g, k + 2, none⟩ (.int .i64 x.y.lo)).setCell ⟨g, k + 3, none⟩ (.int .i64 x.y.hi)).setCell ⟨g, k + 4, none⟩ (.int .i64 x.s.lo)).setCell ⟨g, k + 5, none⟩ (.int .i64 x.s.hi)
theorem RowIm.put6 {w : World} {g : Nat} {l : List ISpot} (h : RowIm w g l) (k : Nat) (x : ISpot) (hk : k < l.length) : RowIm (put6 w g (k * 6) x) g (l.set k x) := by
  have hE := h.im k hk
  have o : ∀ i, ¬ (k * 6 ≤ i ∧ i < k * 6 + 6) → (Go.Proofs.Ytacioedolmaofaa.put6 w g (k * 6) x).cell? ⟨g, i, none⟩ = w.cell? ⟨g, i, none⟩ := fun i h0 => by
    unfold Go.Proofs.Ytacioedolmaofaa.put6
    rw [setc_other _ _ _ _ _ (by omega), setc_other _ _ _ _ _ (by omega), setc_other _ _ _ _ _ (by omega), setc_other _ _ _ _ _ (by omega), setc_other _ _ _ _ _ (by omega), setc_other _ _ _ _ _ (by omega)]
  refine h.upd k _ (fun i hi => o i (by omega)) ⟨?_, ?_, ?_, ?_, ?_, ?_⟩ (fun i => by unfold Go.Proofs.Ytacioedolmaofaa.put6; rw [World.frozen?_setCell, World.frozen?_setCell, World.frozen?_setCell, World.frozen?_setCell, World.frozen?_setCell, World.frozen?_setCell]; exact h.fz i) (by unfold Go.Proofs.Ytacioedolmaofaa.put6; simpa [World.setCell] using h.lt)
  · unfold Go.Proofs.Ytacioedolmaofaa.put6
    rw [setc_other _ _ _ _ _ (by omega), setc_other _ _ _ _ _ (by omega), setc_other _ _ _ _ _ (by omega), setc_other _ _ _ _ _ (by omega), setc_other _ _ _ _ _ (by omega)]
    exact World.cell?_setCell_same _ _ _ hE.c0
  · unfold Go.Proofs.Ytacioedolmaofaa.put6
    rw [setc_other _ _ _ _ _ (by omega), setc_other _ _ _ _ _ (by omega), setc_other _ _ _ _ _ (by omega), setc_other _ _ _ _ _ (by omega)]
    exact World.cell?_setCell_same _ _ _ (by rw [setc_other _ _ _ _ _ (by omega)]; exact hE.c1)
  · unfold Go.Proofs.Ytacioedolmaofaa.put6
    rw [setc_other _ _ _ _ _ (by omega), setc_other _ _ _ _ _ (by omega), setc_other _ _ _ _ _ (by omega)]
    exact World.cell?_setCell_same _ _ _ (by rw [setc_other _ _ _ _ _ (by omega), setc_other _ _ _ _ _ (by omega)]; exact hE.c2)
  · unfold Go.Proofs.Ytacioedolmaofaa.put6
    rw [setc_other _ _ _ _ _ (by omega), setc_other _ _ _ _ _ (by omega)]
    exact World.cell?_setCell_same _ _ _ (by rw [setc_other _ _ _ _ _ (by omega), setc_other _ _ _ _ _ (by omega), setc_other _ _ _ _ _ (by omega)]; exact hE.c3)
  · unfold Go.Proofs.Ytacioedolmaofaa.put6
    rw [setc_other _ _ _ _ _ (by omega)]
    exact World.cell?_setCell_same _ _ _ (by rw [setc_other _ _ _ _ _ (by omega), setc_other _ _ _ _ _ (by omega), setc_other _ _ _ _ _ (by omega), setc_other _ _ _ _ _ (by omega)]; exact hE.c4)
  · unfold Go.Proofs.Ytacioedolmaofaa.put6
    exact World.cell?_setCell_same _ _ _ (by rw [setc_other _ _ _ _ _ (by omega), setc_other _ _ _ _ _ (by omega), setc_other _ _ _ _ _ (by omega), setc_other _ _ _ _ _ (by omega), setc_other _ _ _ _ _ (by omega)]; exact hE.c5)
theorem put6_steps (w : World) (g k : Nat) (x : ISpot) : Steps (fun j => j = g) w (put6 w g k x) := by
  have h1 : ∀ (A : World) (o : Nat) (v : Value), Steps (fun k => k = g) A (A.setCell ⟨g, o, none⟩ v) := fun A o v => Steps.setCell (own := fun k => k = g) A (p := ⟨g, o, none⟩) rfl v
  unfold put6
  exact (((((h1 _ _ _).trans (h1 _ _ _) (fun _ _ h => h)).trans (h1 _ _ _) (fun _ _ h => h)).trans (h1 _ _ _) (fun _ _ h => h)).trans (h1 _ _ _) (fun _ _ h => h)).trans (h1 _ _ _) (fun _ _ h => h)

theorem iappend_none (w : World) (q c : Nat) : (Builtin.append_ #[28, 28] 28 #[.slice (some ⟨q, 0, none⟩) 0 0, .slice none 0 c]).run Try.prog w = .ok (.slice (some ⟨q, 0, none⟩) 0 0) w := by kernel_rfl
theorem iappend_some (w : World) (q c : Nat) (a : Addr) : (Builtin.append_ #[28, 28] 28 #[.slice (some ⟨q, 0, none⟩) 0 0, .slice (some a) 0 c]).run Try.prog w = .ok (.slice (some ⟨q, 0, none⟩) 0 0) w := by kernel_rfl
theorem infoIm : (Try.prog.info? 61).map (fun i => (i.zero, i.size, i.bytes)) = some (some (.agg #[.int .i64 0, .int .i64 0, .int .i64 0, .int .i64 0, .int .i64 0, .int .i64 0]), 6, 48) := by kernel_rfl
theorem ImSl.cells {w : World} {b o : Nat} {l : List ISpot} (h : ImSl w (some ⟨b, o, none⟩) l) : ∀ j u, (imsCells l)[j]? = some u → w.cell? ((⟨b, o, none⟩ : Addr).add j) = some u := by
  intro j u hu
  have hj : j < l.length * 6 := by
    have := (List.getElem?_eq_some_iff.1 hu).1
    rwa [imsCells_len] at this
  have hk : j / 6 < l.length := by omega
  have e : j = j / 6 * 6 + j % 6 := by omega
  have hm : j % 6 < 6 := Nat.mod_lt _ (by omega)
  obtain ⟨b', o', ha, _, c0, c1, c2, c3, c4, c5⟩ := h (j / 6) hk
  cases ha
  have hadd : ((⟨b, o, none⟩ : Addr).add j) = ⟨b, o + j, none⟩ := by simp [Addr.add]
  rw [hadd]
  rw [e, imsCells_get l _ _ hk hm] at hu
  have e2 : o + j = o + j / 6 * 6 + j % 6 := by omega
  rw [e2]
  generalize j % 6 = m at hm hu ⊢
  generalize l[j / 6] = x at *
  match m, hm with
  | 0, _ => rw [← hu]; exact c0
  | 1, _ => rw [← hu]; exact c1
  | 2, _ => rw [← hu]; exact c2
  | 3, _ => rw [← hu]; exact c3
  | 4, _ => rw [← hu]; exact c4
  | 5, _ => rw [← hu]; exact c5
theorem imsCells_one (l : List ISpot) : ∀ u ∈ imsCells l, u.oneCell' = true := by
  intro u hu
  obtain ⟨x, _, hm⟩ := List.mem_flatMap.1 hu
  exact imCells_one x u hm
/-- A copy of images of which there are some lies in a new block. -/
theorem icopyNew (w : World) (q : Nat) (a : Option Addr) (c : Nat) (l : List ISpot) (h0 : l ≠ []) (hl : l.length ≤ 100) (hx : ImSl w a l) :
    ∃ cap w', (Builtin.append_ #[28, 28] 28 #[.slice (some ⟨q, 0, none⟩) 0 0, .slice a l.length c]).run Try.prog w = .ok (.slice (some ⟨w.heap.size, 0, none⟩) l.length cap) w' ∧ RowIm w' w.heap.size l ∧ Below w.heap.size w w' ∧ w'.heap.size = w.heap.size + 1 := by
  have hl0 : 0 < l.length := List.length_pos_iff.2 h0
  obtain ⟨bq, bo, rfl, hbq, _⟩ := hx 0 hl0
  obtain ⟨i0, hi, hz0, hz1, hz2⟩ := info_parts infoIm
  have hsz : (imsCells l).length = l.length * i0.size := by rw [hz1]; exact imsCells_len l
  have hrun := run_append_grow (P := Try.prog) w 28 28 61 i0 _ Try.underlying28 hi hz0 ⟨q, 0, none⟩ 0 0 [] (by simp) (by simp) ⟨bq, bo, none⟩ l.length c (imsCells l) hsz hx.cells (by omega) (by omega) (growslice_fits (by omega) (by rw [hz2]; omega))
  rw [Nat.zero_add] at hrun
  refine ⟨_, _, hrun, ?_, (Below.refl _ _).drew.alloc (Nat.le_refl _) _, by simp⟩
  have hb : (w.drew.alloc (.cells (([] : List Value).toArray ++ (imsCells l).toArray ++ Builtin.zeroCells (Value.agg #[.int .i64 0, .int .i64 0, .int .i64 0, .int .i64 0, .int .i64 0, .int .i64 0]).cells (grownCap w l.length 0 61 - l.length)) 61)).heap[w.heap.size]? = some (.cells (([] : List Value).toArray ++ (imsCells l).toArray ++ Builtin.zeroCells (Value.agg #[.int .i64 0, .int .i64 0, .int .i64 0, .int .i64 0, .int .i64 0, .int .i64 0]).cells (grownCap w l.length 0 61 - l.length)) 61) := obj_new w.drew _
  have hsl := ImSl.of_cells (l := l) hb (fun i hi => by
    have : i < (imsCells l).length := by rw [imsCells_len]; exact hi
    rw [Array.getElem?_append, if_pos (by simpa using this)]
    simp)
  refine ⟨fun j hj => ?_, fun i => frozen_block hb i, (Array.getElem?_eq_some_iff.1 hb).1⟩
  obtain ⟨b, o, ha, _, hxe⟩ := hsl j hj
  cases ha
  simpa using hxe
end Go.Proofs.Ytacioedolmaofaa
namespace Go.Proofs.Ytacioedolmaofaa
open Go.RowKit Go.Shelf
set_option maxHeartbeats 12800000
set_option maxRecDepth 100000
set_option linter.unusedSimpArgs false
set_option linter.unusedVariables false

theorem lmore_reg3 (s : ISheet) (fa : Option Addr) (fc p : Nat) (wA : World) {z0 z1 z2 z3 z5 z6 z7 z8 z11 z12 z13 z14 z15 z16 z17 z18 z19 z20 z21 z22 z23 z24 z25 z26 z27 z28 z29 z30 z31 z32 z33 z34 z35 z36 z37 z38 z39 z40 z41 z42 z43 z44 z45 z46 z47 z48 z49 z50 z51 z52 z53 z54 z57 z58 z59 z60 z61 z62 z63 z64 z65 z66 z67 z68 z69 z70 z71 z72 z73 z74 z75 z76 z77 z78 z79 z80 z81 z82 z83 z84 z85 z86 z87 z88 z89 z90 z91 z92 z93 z94 z95 z96 z97 z98 z99 z100 z101 z102 z103 z104 z105 z106 z107 z108 z109 z110 z111 z112 z113 z114 z115 z116 z117 z118 z119 z120 z121 z122 z123 z124 z125 z126 z127 z128 z129 z130 z131 z132 z133 z134 z135 z136 z137 z138 z139 z140 z141 z142 z143 z144 z145 z146 z147 z148 z149 z150 z151 z152 z153 z154 z155 z156 z157 z158 z159 z160 z161 z162 z163 z164 z165 z166 z167 z168 z169 z170 z171 z172 z173 z174 z175 z176 z177 z178 z179 z180 z181 z182 z183 z184 z185 z186 z187 z188 z189 z190 z191 z192 z193 z194 z195 z196 z197 z198 z199 z200 z201 z202 z203 z204 z205 z206 z207 z208 z209 z210 z211 z212 z213 z214 z215 z216 z217 z218 z219 z220 z221 z222 z223 z224 z225 z226 z227 z228 z229 z230 z231 z232 z233 z234 z235 z236 z237 z238 z239 z240 z241 z242 z243 z244 z245 z246 z247 z248 z249 z250 z251 z252 z253 z254 z255 z256 z257 z258 z259 z260 z261 z262 z263 z264 z265 z266 z267 z268 z269 z270 z271 z272 z273 z274 z275 z276 z277 z278 z279 z280 z281 z282 z283 z284 z285 z286 z287 z288 z289 z290 : Value} {z9 z10 z55 z56 : Value} (PA : wA.heap[p]? = some (.cells #[.int .i64 s.ax.lo, .int .i64 s.ax.hi, .int .i64 s.ay.lo, .int .i64 s.ay.hi, .int .i64 s.bx.lo, .int .i64 s.bx.hi, .int .i64 s.by'.lo, .int .i64 s.by'.hi, .int .i64 s.f.lo, .int .i64 s.f.hi, .int .i64 s.g.lo, .int .i64 s.g.hi, .int .i64 s.limit, .int .i64 s.flaws, .slice fa s.l.length fc] 30)) (K : Act → World → Prop) (Q : Exit → Act → World → Prop)
    (hfin : ∀ (s55 s56 : Value) (q9 q10 : Nat) (w3 : World), (w3.heap[q9]? = some (.cells #[.int .i64 s.ax.lo, .int .i64 s.ax.hi, .int .i64 s.ay.lo, .int .i64 s.ay.hi, .int .i64 s.bx.lo, .int .i64 s.bx.hi, .int .i64 s.by'.lo, .int .i64 s.by'.hi, .int .i64 s.f.lo, .int .i64 s.f.hi, .int .i64 s.g.lo, .int .i64 s.g.hi, .int .i64 s.limit, .int .i64 s.flaws, .slice fa s.l.length fc] 30) ∧ w3.heap[q10]? = some (.cells #[.int .i64 s.ax.lo, .int .i64 s.ax.hi, .int .i64 s.ay.lo, .int .i64 s.ay.hi, .int .i64 s.bx.lo, .int .i64 s.bx.hi, .int .i64 s.by'.lo, .int .i64 s.by'.hi, .int .i64 s.f.lo, .int .i64 s.f.hi, .int .i64 s.g.lo, .int .i64 s.g.hi, .int .i64 s.limit, .int .i64 s.flaws, .slice fa s.l.length fc] 30) ∧ q9 ≠ q10 ∧ wA.heap.size ≤ q9 ∧ wA.heap.size ≤ q10 ∧ Below wA.heap.size wA w3) → K ⟨(z0::z1::z2::z3::(.pointer (some ⟨p, 0, none⟩))::z5::z6::z7::z8::(.pointer (some ⟨q9, 0, none⟩))::(.pointer (some ⟨q10, 0, none⟩))::z11::z12::z13::z14::z15::z16::z17::z18::z19::z20::z21::z22::z23::z24::z25::z26::z27::z28::z29::z30::z31::z32::z33::z34::z35::z36::z37::z38::z39::z40::z41::z42::z43::z44::z45::z46::z47::z48::z49::z50::z51::z52::z53::z54::s55::s56::z57::z58::z59::z60::z61::z62::z63::z64::z65::z66::z67::z68::z69::z70::z71::z72::z73::z74::z75::z76::z77::z78::z79::z80::z81::z82::z83::z84::z85::z86::z87::z88::z89::z90::z91::z92::z93::z94::z95::z96::z97::z98::z99::z100::z101::z102::z103::z104::z105::z106::z107::z108::z109::z110::z111::z112::z113::z114::z115::z116::z117::z118::z119::z120::z121::z122::z123::z124::z125::z126::z127::z128::z129::z130::z131::z132::z133::z134::z135::z136::z137::z138::z139::z140::z141::z142::z143::z144::z145::z146::z147::z148::z149::z150::z151::z152::z153::z154::z155::z156::z157::z158::z159::z160::z161::z162::z163::z164::z165::z166::z167::z168::z169::z170::z171::z172::z173::z174::z175::z176::z177::z178::z179::z180::z181::z182::z183::z184::z185::z186::z187::z188::z189::z190::z191::z192::z193::z194::z195::z196::z197::z198::z199::z200::z201::z202::z203::z204::z205::z206::z207::z208::z209::z210::z211::z212::z213::z214::z215::z216::z217::z218::z219::z220::z221::z222::z223::z224::z225::z226::z227::z228::z229::z230::z231::z232::z233::z234::z235::z236::z237::z238::z239::z240::z241::z242::z243::z244::z245::z246::z247::z248::z249::z250::z251::z252::z253::z254::z255::z256::z257::z258::z259::z260::z261::z262::z263::z264::z265::z266::z267::z268::z269::z270::z271::z272::z273::z274::z275::z276::z277::z278::z279::z280::z281::z282::z283::z284::z285::z286::z287::z288::z289::z290 :: []).toArray, []⟩ w3) :
    Code.wp Try.prog ((Try.f9.body.bind (findReg 3)).getD .skip) (Exit.then K Q) ⟨(z0::z1::z2::z3::(.pointer (some ⟨p, 0, none⟩))::z5::z6::z7::z8::z9::z10::z11::z12::z13::z14::z15::z16::z17::z18::z19::z20::z21::z22::z23::z24::z25::z26::z27::z28::z29::z30::z31::z32::z33::z34::z35::z36::z37::z38::z39::z40::z41::z42::z43::z44::z45::z46::z47::z48::z49::z50::z51::z52::z53::z54::z55::z56::z57::z58::z59::z60::z61::z62::z63::z64::z65::z66::z67::z68::z69::z70::z71::z72::z73::z74::z75::z76::z77::z78::z79::z80::z81::z82::z83::z84::z85::z86::z87::z88::z89::z90::z91::z92::z93::z94::z95::z96::z97::z98::z99::z100::z101::z102::z103::z104::z105::z106::z107::z108::z109::z110::z111::z112::z113::z114::z115::z116::z117::z118::z119::z120::z121::z122::z123::z124::z125::z126::z127::z128::z129::z130::z131::z132::z133::z134::z135::z136::z137::z138::z139::z140::z141::z142::z143::z144::z145::z146::z147::z148::z149::z150::z151::z152::z153::z154::z155::z156::z157::z158::z159::z160::z161::z162::z163::z164::z165::z166::z167::z168::z169::z170::z171::z172::z173::z174::z175::z176::z177::z178::z179::z180::z181::z182::z183::z184::z185::z186::z187::z188::z189::z190::z191::z192::z193::z194::z195::z196::z197::z198::z199::z200::z201::z202::z203::z204::z205::z206::z207::z208::z209::z210::z211::z212::z213::z214::z215::z216::z217::z218::z219::z220::z221::z222::z223::z224::z225::z226::z227::z228::z229::z230::z231::z232::z233::z234::z235::z236::z237::z238::z239::z240::z241::z242::z243::z244::z245::z246::z247::z248::z249::z250::z251::z252::z253::z254::z255::z256::z257::z258::z259::z260::z261::z262::z263::z264::z265::z266::z267::z268::z269::z270::z271::z272::z273::z274::z275::z276::z277::z278::z279::z280::z281::z282::z283::z284::z285::z286::z287::z288::z289::z290 :: []).toArray, []⟩ wA := by
  have HFIN := Lib.hid hfin
  clear hfin
  have k0 : ∀ W' : World, Below wA.heap.size wA W' → W'.cell? ⟨p, 0, none⟩ = some (.int .i64 s.ax.lo) := fun W' h => cell_later h (cell_block PA 0)
  have k1 : ∀ W' : World, Below wA.heap.size wA W' → W'.cell? ⟨p, 1, none⟩ = some (.int .i64 s.ax.hi) := fun W' h => cell_later h (cell_block PA 1)
  have k2 : ∀ W' : World, Below wA.heap.size wA W' → W'.cell? ⟨p, 2, none⟩ = some (.int .i64 s.ay.lo) := fun W' h => cell_later h (cell_block PA 2)
  have k3 : ∀ W' : World, Below wA.heap.size wA W' → W'.cell? ⟨p, 3, none⟩ = some (.int .i64 s.ay.hi) := fun W' h => cell_later h (cell_block PA 3)
  have k4 : ∀ W' : World, Below wA.heap.size wA W' → W'.cell? ⟨p, 4, none⟩ = some (.int .i64 s.bx.lo) := fun W' h => cell_later h (cell_block PA 4)
  have k5 : ∀ W' : World, Below wA.heap.size wA W' → W'.cell? ⟨p, 5, none⟩ = some (.int .i64 s.bx.hi) := fun W' h => cell_later h (cell_block PA 5)
  have k6 : ∀ W' : World, Below wA.heap.size wA W' → W'.cell? ⟨p, 6, none⟩ = some (.int .i64 s.by'.lo) := fun W' h => cell_later h (cell_block PA 6)
  have k7 : ∀ W' : World, Below wA.heap.size wA W' → W'.cell? ⟨p, 7, none⟩ = some (.int .i64 s.by'.hi) := fun W' h => cell_later h (cell_block PA 7)
  have k8 : ∀ W' : World, Below wA.heap.size wA W' → W'.cell? ⟨p, 8, none⟩ = some (.int .i64 s.f.lo) := fun W' h => cell_later h (cell_block PA 8)
  have k9 : ∀ W' : World, Below wA.heap.size wA W' → W'.cell? ⟨p, 9, none⟩ = some (.int .i64 s.f.hi) := fun W' h => cell_later h (cell_block PA 9)
  have k10 : ∀ W' : World, Below wA.heap.size wA W' → W'.cell? ⟨p, 10, none⟩ = some (.int .i64 s.g.lo) := fun W' h => cell_later h (cell_block PA 10)
  have k11 : ∀ W' : World, Below wA.heap.size wA W' → W'.cell? ⟨p, 11, none⟩ = some (.int .i64 s.g.hi) := fun W' h => cell_later h (cell_block PA 11)
  have k12 : ∀ W' : World, Below wA.heap.size wA W' → W'.cell? ⟨p, 12, none⟩ = some (.int .i64 s.limit) := fun W' h => cell_later h (cell_block PA 12)
  have k13 : ∀ W' : World, Below wA.heap.size wA W' → W'.cell? ⟨p, 13, none⟩ = some (.int .i64 s.flaws) := fun W' h => cell_later h (cell_block PA 13)
  have k14 : ∀ W' : World, Below wA.heap.size wA W' → W'.cell? ⟨p, 14, none⟩ = some (.slice fa s.l.length fc) := fun W' h => cell_later h (cell_block PA 14)
  conv => arg 2; whnf
  refine (wpIn_wide (n := 1)).1 ?_
  refine wpIn_region_Wn (S := Below wA.heap.size wA) 6 (by kernel_rfl) (by kernel_rfl) (below_drew wA) (fun hHeld => ?_)
  refine wTk 0 55 ?_ ?_ ?_
  rotate_left
  · intro o h w k; (try dsimp only at k); simp only [gA, gB, gC, gG] at h; subst h; go_simp; try with_reducible rfl
  simp only [Act.put, gD, gE, gF]
  refine wTk 1 56 ?_ ?_ ?_
  rotate_left
  · intro o h w k; (try dsimp only at k); simp only [gA, gB, gC, gG] at h; subst h; go_simp; try with_reducible rfl
  simp only [Act.put, gD, gE, gF]
  clear k0 k1 k2 k3 k4 k5 k6 k7 k8 k9 k10 k11 k12 k13 k14 hHeld
  have H0 := below_drew wA
  have hs0 : wA.heap.size ≤ wA.drew.heap.size := Nat.le_refl _
  generalize wA.drew = wD at H0 hs0 ⊢
  refine wpAnyW_two 2 3 (by kernel_rfl) ⟨by kernel_rfl, by kernel_rfl⟩ ?_ ?_
  · intro o ho K hK
    simp only [gA, gB, gC, gG] at ho
    subst ho
    go_simp
    have A1 := obj_new wD (.cells #[.int .i64 0, .int .i64 0, .int .i64 0, .int .i64 0, .int .i64 0, .int .i64 0, .int .i64 0, .int .i64 0, .int .i64 0, .int .i64 0, .int .i64 0, .int .i64 0, .int .i64 0, .int .i64 0, .slice none 0 0] 30)
    have b1 := below_alloc wD (.cells #[.int .i64 0, .int .i64 0, .int .i64 0, .int .i64 0, .int .i64 0, .int .i64 0, .int .i64 0, .int .i64 0, .int .i64 0, .int .i64 0, .int .i64 0, .int .i64 0, .int .i64 0, .int .i64 0, .slice none 0 0] 30)
    have H1 := H0.trans (b1.mono H0.size)
    have HZ := Lib.hid (World.size_alloc wD (.cells #[.int .i64 0, .int .i64 0, .int .i64 0, .int .i64 0, .int .i64 0, .int .i64 0, .int .i64 0, .int .i64 0, .int .i64 0, .int .i64 0, .int .i64 0, .int .i64 0, .int .i64 0, .int .i64 0, .slice none 0 0] 30))
    refine hK _ _ H1 (fun _ => ?_)
    clear hK K
    try simp only [Act.put, gD, gE, gF]
    generalize wD.alloc (.cells #[.int .i64 0, .int .i64 0, .int .i64 0, .int .i64 0, .int .i64 0, .int .i64 0, .int .i64 0, .int .i64 0, .int .i64 0, .int .i64 0, .int .i64 0, .int .i64 0, .int .i64 0, .int .i64 0, .slice none 0 0] 30) = w1 at A1 b1 H1 HZ ⊢
    obtain ⟨q9, eq9⟩ : ∃ q, wD.heap.size = q := ⟨_, rfl⟩
    rw [eq9] at A1 HZ hs0 ⊢
    refine wpAnyW_one 3 (by kernel_rfl) (by kernel_rfl) ?_
    intro o ho K hK
    simp only [gA, gB, gC, gG] at ho
    subst ho
    go_simp
    have A2 := obj_new w1 (.cells #[.int .i64 0, .int .i64 0, .int .i64 0, .int .i64 0, .int .i64 0, .int .i64 0, .int .i64 0, .int .i64 0, .int .i64 0, .int .i64 0, .int .i64 0, .int .i64 0, .int .i64 0, .int .i64 0, .slice none 0 0] 30)
    have b2 := below_alloc w1 (.cells #[.int .i64 0, .int .i64 0, .int .i64 0, .int .i64 0, .int .i64 0, .int .i64 0, .int .i64 0, .int .i64 0, .int .i64 0, .int .i64 0, .int .i64 0, .int .i64 0, .int .i64 0, .int .i64 0, .slice none 0 0] 30)
    have H2 := H1.trans (b2.mono H1.size)
    replace A1 := obj_later b2 A1
    refine hK _ _ H2 (fun _ => ?_)
    clear hK K
    try simp only [Act.put, gD, gE, gF]
    generalize w1.alloc (.cells #[.int .i64 0, .int .i64 0, .int .i64 0, .int .i64 0, .int .i64 0, .int .i64 0, .int .i64 0, .int .i64 0, .int .i64 0, .int .i64 0, .int .i64 0, .int .i64 0, .int .i64 0, .int .i64 0, .slice none 0 0] 30) = w2 at A1 A2 b2 H2 ⊢
    obtain ⟨q10, eq10⟩ : ∃ q, w1.heap.size = q := ⟨_, rfl⟩
    rw [eq10] at A2 HZ ⊢
    have hz := HZ.out
    have hne : q9 ≠ q10 := by omega
    have h9 : wA.heap.size ≤ q9 := by omega
    have h10 : wA.heap.size ≤ q10 := by omega
    clear b1 b2 eq9 eq10 hz HZ H1
    refine wpAnyW_one 4 (by kernel_rfl) (by kernel_rfl) ?_
    have c0 := cell_block A1 0
    have c1 := cell_block A1 1
    have c2 := cell_block A1 2
    have c3 := cell_block A1 3
    have c4 := cell_block A1 4
    have c5 := cell_block A1 5
    have c6 := cell_block A1 6
    have c7 := cell_block A1 7
    have c8 := cell_block A1 8
    have c9 := cell_block A1 9
    have c10 := cell_block A1 10
    have c11 := cell_block A1 11
    have c12 := cell_block A1 12
    have c13 := cell_block A1 13
    have c14 := cell_block A1 14
    have f0 := frozen_block A1 0
    have f1 := frozen_block A1 1
    have f2 := frozen_block A1 2
    have f3 := frozen_block A1 3
    have f4 := frozen_block A1 4
    have f5 := frozen_block A1 5
    have f6 := frozen_block A1 6
    have f7 := frozen_block A1 7
    have f8 := frozen_block A1 8
    have f9 := frozen_block A1 9
    have f10 := frozen_block A1 10
    have f11 := frozen_block A1 11
    have f12 := frozen_block A1 12
    have f13 := frozen_block A1 13
    have f14 := frozen_block A1 14
    simp only [gA, gB, gC] at c0 c1 c2 c3 c4 c5 c6 c7 c8 c9 c10 c11 c12 c13 c14
    intro o ho K hK
    simp only [gA, gB, gC, gG] at ho
    subst ho
    go_simp
    clear c0 f0 c1 f1 c2 f2 c3 f3 c4 f4 c5 f5 c6 f6 c7 f7 c8 f8 c9 f9 c10 f10 c11 f11 c12 f12 c13 f13 c14 f14
    have zz3 := put15_same A1 (.int .i64 s.ax.lo) (.int .i64 s.ax.hi) (.int .i64 s.ay.lo) (.int .i64 s.ay.hi) (.int .i64 s.bx.lo) (.int .i64 s.bx.hi) (.int .i64 s.by'.lo) (.int .i64 s.by'.hi) (.int .i64 s.f.lo) (.int .i64 s.f.hi) (.int .i64 s.g.lo) (.int .i64 s.g.hi) (.int .i64 s.limit) (.int .i64 s.flaws) (.slice fa s.l.length fc)
    have st3 := put15_steps w2 q9 (.int .i64 s.ax.lo) (.int .i64 s.ax.hi) (.int .i64 s.ay.lo) (.int .i64 s.ay.hi) (.int .i64 s.bx.lo) (.int .i64 s.bx.hi) (.int .i64 s.by'.lo) (.int .i64 s.by'.hi) (.int .i64 s.f.lo) (.int .i64 s.f.hi) (.int .i64 s.g.lo) (.int .i64 s.g.hi) (.int .i64 s.limit) (.int .i64 s.flaws) (.slice fa s.l.length fc)
    unfold put15 at zz3 st3
    generalize (((((((((((((((w2.setCell ⟨q9, 0, none⟩ (.int .i64 s.ax.lo)).setCell ⟨q9, 1, none⟩ (.int .i64 s.ax.hi)).setCell ⟨q9, 2, none⟩ (.int .i64 s.ay.lo)).setCell ⟨q9, 3, none⟩ (.int .i64 s.ay.hi)).setCell ⟨q9, 4, none⟩ (.int .i64 s.bx.lo)).setCell ⟨q9, 5, none⟩ (.int .i64 s.bx.hi)).setCell ⟨q9, 6, none⟩ (.int .i64 s.by'.lo)).setCell ⟨q9, 7, none⟩ (.int .i64 s.by'.hi)).setCell ⟨q9, 8, none⟩ (.int .i64 s.f.lo)).setCell ⟨q9, 9, none⟩ (.int .i64 s.f.hi)).setCell ⟨q9, 10, none⟩ (.int .i64 s.g.lo)).setCell ⟨q9, 11, none⟩ (.int .i64 s.g.hi)).setCell ⟨q9, 12, none⟩ (.int .i64 s.limit)).setCell ⟨q9, 13, none⟩ (.int .i64 s.flaws)).setCell ⟨q9, 14, none⟩ (.slice fa s.l.length fc)) = v3 at zz3 st3 ⊢
    have H3 := H2.trans (st3.below (B := wA.heap.size) H2.size (fun k _ h => by omega))
    have B10 := st3.obj (k := q10) (by omega) A2
    refine hK _ _ H3 (fun _ => ?_)
    clear hK K
    try simp only [Act.put, gD, gE, gF]
    clear A1 A2 st3 H2
    refine wpAnyW_one 5 (by kernel_rfl) (by kernel_rfl) ?_
    have c0 := cell_block B10 0
    have c1 := cell_block B10 1
    have c2 := cell_block B10 2
    have c3 := cell_block B10 3
    have c4 := cell_block B10 4
    have c5 := cell_block B10 5
    have c6 := cell_block B10 6
    have c7 := cell_block B10 7
    have c8 := cell_block B10 8
    have c9 := cell_block B10 9
    have c10 := cell_block B10 10
    have c11 := cell_block B10 11
    have c12 := cell_block B10 12
    have c13 := cell_block B10 13
    have c14 := cell_block B10 14
    have f0 := frozen_block B10 0
    have f1 := frozen_block B10 1
    have f2 := frozen_block B10 2
    have f3 := frozen_block B10 3
    have f4 := frozen_block B10 4
    have f5 := frozen_block B10 5
    have f6 := frozen_block B10 6
    have f7 := frozen_block B10 7
    have f8 := frozen_block B10 8
    have f9 := frozen_block B10 9
    have f10 := frozen_block B10 10
    have f11 := frozen_block B10 11
    have f12 := frozen_block B10 12
    have f13 := frozen_block B10 13
    have f14 := frozen_block B10 14
    simp only [gA, gB, gC] at c0 c1 c2 c3 c4 c5 c6 c7 c8 c9 c10 c11 c12 c13 c14
    intro o ho K hK
    simp only [gA, gB, gC, gG] at ho
    subst ho
    go_simp
    clear c0 f0 c1 f1 c2 f2 c3 f3 c4 f4 c5 f5 c6 f6 c7 f7 c8 f8 c9 f9 c10 f10 c11 f11 c12 f12 c13 f13 c14 f14
    have zz4 := put15_same B10 (.int .i64 s.ax.lo) (.int .i64 s.ax.hi) (.int .i64 s.ay.lo) (.int .i64 s.ay.hi) (.int .i64 s.bx.lo) (.int .i64 s.bx.hi) (.int .i64 s.by'.lo) (.int .i64 s.by'.hi) (.int .i64 s.f.lo) (.int .i64 s.f.hi) (.int .i64 s.g.lo) (.int .i64 s.g.hi) (.int .i64 s.limit) (.int .i64 s.flaws) (.slice fa s.l.length fc)
    have st4 := put15_steps v3 q10 (.int .i64 s.ax.lo) (.int .i64 s.ax.hi) (.int .i64 s.ay.lo) (.int .i64 s.ay.hi) (.int .i64 s.bx.lo) (.int .i64 s.bx.hi) (.int .i64 s.by'.lo) (.int .i64 s.by'.hi) (.int .i64 s.f.lo) (.int .i64 s.f.hi) (.int .i64 s.g.lo) (.int .i64 s.g.hi) (.int .i64 s.limit) (.int .i64 s.flaws) (.slice fa s.l.length fc)
    unfold put15 at zz4 st4
    generalize (((((((((((((((v3.setCell ⟨q10, 0, none⟩ (.int .i64 s.ax.lo)).setCell ⟨q10, 1, none⟩ (.int .i64 s.ax.hi)).setCell ⟨q10, 2, none⟩ (.int .i64 s.ay.lo)).setCell ⟨q10, 3, none⟩ (.int .i64 s.ay.hi)).setCell ⟨q10, 4, none⟩ (.int .i64 s.bx.lo)).setCell ⟨q10, 5, none⟩ (.int .i64 s.bx.hi)).setCell ⟨q10, 6, none⟩ (.int .i64 s.by'.lo)).setCell ⟨q10, 7, none⟩ (.int .i64 s.by'.hi)).setCell ⟨q10, 8, none⟩ (.int .i64 s.f.lo)).setCell ⟨q10, 9, none⟩ (.int .i64 s.f.hi)).setCell ⟨q10, 10, none⟩ (.int .i64 s.g.lo)).setCell ⟨q10, 11, none⟩ (.int .i64 s.g.hi)).setCell ⟨q10, 12, none⟩ (.int .i64 s.limit)).setCell ⟨q10, 13, none⟩ (.int .i64 s.flaws)).setCell ⟨q10, 14, none⟩ (.slice fa s.l.length fc)) = v4 at zz4 st4 ⊢
    have H4 := H3.trans (st4.below (B := wA.heap.size) H3.size (fun k _ h => by omega))
    have B9 := st4.obj (k := q9) (by omega) zz3
    refine hK _ _ H4 (fun _ => ?_)
    clear hK K
    try simp only [Act.put, gD, gE, gF]
    refine wpAnyW_done (by kernel_rfl) ?_ _
    dsimp only [onNormal]
    exact HFIN.out _ _ q9 q10 v4 ⟨B9, zz4, hne, h9, h10, H4⟩
  · intro o ho K hK
    simp only [gA, gB, gC, gG] at ho
    subst ho
    go_simp
    have A1 := obj_new wD (.cells #[.int .i64 0, .int .i64 0, .int .i64 0, .int .i64 0, .int .i64 0, .int .i64 0, .int .i64 0, .int .i64 0, .int .i64 0, .int .i64 0, .int .i64 0, .int .i64 0, .int .i64 0, .int .i64 0, .slice none 0 0] 30)
    have b1 := below_alloc wD (.cells #[.int .i64 0, .int .i64 0, .int .i64 0, .int .i64 0, .int .i64 0, .int .i64 0, .int .i64 0, .int .i64 0, .int .i64 0, .int .i64 0, .int .i64 0, .int .i64 0, .int .i64 0, .int .i64 0, .slice none 0 0] 30)
    have H1 := H0.trans (b1.mono H0.size)
    have HZ := Lib.hid (World.size_alloc wD (.cells #[.int .i64 0, .int .i64 0, .int .i64 0, .int .i64 0, .int .i64 0, .int .i64 0, .int .i64 0, .int .i64 0, .int .i64 0, .int .i64 0, .int .i64 0, .int .i64 0, .int .i64 0, .int .i64 0, .slice none 0 0] 30))
    refine hK _ _ H1 (fun _ => ?_)
    clear hK K
    try simp only [Act.put, gD, gE, gF]
    generalize wD.alloc (.cells #[.int .i64 0, .int .i64 0, .int .i64 0, .int .i64 0, .int .i64 0, .int .i64 0, .int .i64 0, .int .i64 0, .int .i64 0, .int .i64 0, .int .i64 0, .int .i64 0, .int .i64 0, .int .i64 0, .slice none 0 0] 30) = w1 at A1 b1 H1 HZ ⊢
    obtain ⟨q10, eq10⟩ : ∃ q, wD.heap.size = q := ⟨_, rfl⟩
    rw [eq10] at A1 HZ hs0 ⊢
    refine wpAnyW_one 2 (by kernel_rfl) (by kernel_rfl) ?_
    intro o ho K hK
    simp only [gA, gB, gC, gG] at ho
    subst ho
    go_simp
    have A2 := obj_new w1 (.cells #[.int .i64 0, .int .i64 0, .int .i64 0, .int .i64 0, .int .i64 0, .int .i64 0, .int .i64 0, .int .i64 0, .int .i64 0, .int .i64 0, .int .i64 0, .int .i64 0, .int .i64 0, .int .i64 0, .slice none 0 0] 30)
    have b2 := below_alloc w1 (.cells #[.int .i64 0, .int .i64 0, .int .i64 0, .int .i64 0, .int .i64 0, .int .i64 0, .int .i64 0, .int .i64 0, .int .i64 0, .int .i64 0, .int .i64 0, .int .i64 0, .int .i64 0, .int .i64 0, .slice none 0 0] 30)
    have H2 := H1.trans (b2.mono H1.size)
    replace A1 := obj_later b2 A1
    refine hK _ _ H2 (fun _ => ?_)
    clear hK K
    try simp only [Act.put, gD, gE, gF]
    generalize w1.alloc (.cells #[.int .i64 0, .int .i64 0, .int .i64 0, .int .i64 0, .int .i64 0, .int .i64 0, .int .i64 0, .int .i64 0, .int .i64 0, .int .i64 0, .int .i64 0, .int .i64 0, .int .i64 0, .int .i64 0, .slice none 0 0] 30) = w2 at A1 A2 b2 H2 ⊢
    obtain ⟨q9, eq9⟩ : ∃ q, w1.heap.size = q := ⟨_, rfl⟩
    rw [eq9] at A2 HZ ⊢
    have hz := HZ.out
    have hne : q9 ≠ q10 := by omega
    have h9 : wA.heap.size ≤ q9 := by omega
    have h10 : wA.heap.size ≤ q10 := by omega
    clear b1 b2 eq10 eq9 hz HZ H1
    refine wpAnyW_one 4 (by kernel_rfl) (by kernel_rfl) ?_
    have c0 := cell_block A2 0
    have c1 := cell_block A2 1
    have c2 := cell_block A2 2
    have c3 := cell_block A2 3
    have c4 := cell_block A2 4
    have c5 := cell_block A2 5
    have c6 := cell_block A2 6
    have c7 := cell_block A2 7
    have c8 := cell_block A2 8
    have c9 := cell_block A2 9
    have c10 := cell_block A2 10
    have c11 := cell_block A2 11
    have c12 := cell_block A2 12
    have c13 := cell_block A2 13
    have c14 := cell_block A2 14
    have f0 := frozen_block A2 0
    have f1 := frozen_block A2 1
    have f2 := frozen_block A2 2
    have f3 := frozen_block A2 3
    have f4 := frozen_block A2 4
    have f5 := frozen_block A2 5
    have f6 := frozen_block A2 6
    have f7 := frozen_block A2 7
    have f8 := frozen_block A2 8
    have f9 := frozen_block A2 9
    have f10 := frozen_block A2 10
    have f11 := frozen_block A2 11
    have f12 := frozen_block A2 12
    have f13 := frozen_block A2 13
    have f14 := frozen_block A2 14
    simp only [gA, gB, gC] at c0 c1 c2 c3 c4 c5 c6 c7 c8 c9 c10 c11 c12 c13 c14
    intro o ho K hK
    simp only [gA, gB, gC, gG] at ho
    subst ho
    go_simp
    clear c0 f0 c1 f1 c2 f2 c3 f3 c4 f4 c5 f5 c6 f6 c7 f7 c8 f8 c9 f9 c10 f10 c11 f11 c12 f12 c13 f13 c14 f14
    have zz3 := put15_same A2 (.int .i64 s.ax.lo) (.int .i64 s.ax.hi) (.int .i64 s.ay.lo) (.int .i64 s.ay.hi) (.int .i64 s.bx.lo) (.int .i64 s.bx.hi) (.int .i64 s.by'.lo) (.int .i64 s.by'.hi) (.int .i64 s.f.lo) (.int .i64 s.f.hi) (.int .i64 s.g.lo) (.int .i64 s.g.hi) (.int .i64 s.limit) (.int .i64 s.flaws) (.slice fa s.l.length fc)
    have st3 := put15_steps w2 q9 (.int .i64 s.ax.lo) (.int .i64 s.ax.hi) (.int .i64 s.ay.lo) (.int .i64 s.ay.hi) (.int .i64 s.bx.lo) (.int .i64 s.bx.hi) (.int .i64 s.by'.lo) (.int .i64 s.by'.hi) (.int .i64 s.f.lo) (.int .i64 s.f.hi) (.int .i64 s.g.lo) (.int .i64 s.g.hi) (.int .i64 s.limit) (.int .i64 s.flaws) (.slice fa s.l.length fc)
    unfold put15 at zz3 st3
    generalize (((((((((((((((w2.setCell ⟨q9, 0, none⟩ (.int .i64 s.ax.lo)).setCell ⟨q9, 1, none⟩ (.int .i64 s.ax.hi)).setCell ⟨q9, 2, none⟩ (.int .i64 s.ay.lo)).setCell ⟨q9, 3, none⟩ (.int .i64 s.ay.hi)).setCell ⟨q9, 4, none⟩ (.int .i64 s.bx.lo)).setCell ⟨q9, 5, none⟩ (.int .i64 s.bx.hi)).setCell ⟨q9, 6, none⟩ (.int .i64 s.by'.lo)).setCell ⟨q9, 7, none⟩ (.int .i64 s.by'.hi)).setCell ⟨q9, 8, none⟩ (.int .i64 s.f.lo)).setCell ⟨q9, 9, none⟩ (.int .i64 s.f.hi)).setCell ⟨q9, 10, none⟩ (.int .i64 s.g.lo)).setCell ⟨q9, 11, none⟩ (.int .i64 s.g.hi)).setCell ⟨q9, 12, none⟩ (.int .i64 s.limit)).setCell ⟨q9, 13, none⟩ (.int .i64 s.flaws)).setCell ⟨q9, 14, none⟩ (.slice fa s.l.length fc)) = v3 at zz3 st3 ⊢
    have H3 := H2.trans (st3.below (B := wA.heap.size) H2.size (fun k _ h => by omega))
    have B10 := st3.obj (k := q10) (by omega) A1
    refine hK _ _ H3 (fun _ => ?_)
    clear hK K
    try simp only [Act.put, gD, gE, gF]
    clear A1 A2 st3 H2
    refine wpAnyW_one 5 (by kernel_rfl) (by kernel_rfl) ?_
    have c0 := cell_block B10 0
    have c1 := cell_block B10 1
    have c2 := cell_block B10 2
    have c3 := cell_block B10 3
    have c4 := cell_block B10 4
    have c5 := cell_block B10 5
    have c6 := cell_block B10 6
    have c7 := cell_block B10 7
    have c8 := cell_block B10 8
    have c9 := cell_block B10 9
    have c10 := cell_block B10 10
    have c11 := cell_block B10 11
    have c12 := cell_block B10 12
    have c13 := cell_block B10 13
    have c14 := cell_block B10 14
    have f0 := frozen_block B10 0
    have f1 := frozen_block B10 1
    have f2 := frozen_block B10 2
    have f3 := frozen_block B10 3
    have f4 := frozen_block B10 4
    have f5 := frozen_block B10 5
    have f6 := frozen_block B10 6
    have f7 := frozen_block B10 7
    have f8 := frozen_block B10 8
    have f9 := frozen_block B10 9
    have f10 := frozen_block B10 10
    have f11 := frozen_block B10 11
    have f12 := frozen_block B10 12
    have f13 := frozen_block B10 13
    have f14 := frozen_block B10 14
    simp only [gA, gB, gC] at c0 c1 c2 c3 c4 c5 c6 c7 c8 c9 c10 c11 c12 c13 c14
    intro o ho K hK
    simp only [gA, gB, gC, gG] at ho
    subst ho
    go_simp
    clear c0 f0 c1 f1 c2 f2 c3 f3 c4 f4 c5 f5 c6 f6 c7 f7 c8 f8 c9 f9 c10 f10 c11 f11 c12 f12 c13 f13 c14 f14
    have zz4 := put15_same B10 (.int .i64 s.ax.lo) (.int .i64 s.ax.hi) (.int .i64 s.ay.lo) (.int .i64 s.ay.hi) (.int .i64 s.bx.lo) (.int .i64 s.bx.hi) (.int .i64 s.by'.lo) (.int .i64 s.by'.hi) (.int .i64 s.f.lo) (.int .i64 s.f.hi) (.int .i64 s.g.lo) (.int .i64 s.g.hi) (.int .i64 s.limit) (.int .i64 s.flaws) (.slice fa s.l.length fc)
    have st4 := put15_steps v3 q10 (.int .i64 s.ax.lo) (.int .i64 s.ax.hi) (.int .i64 s.ay.lo) (.int .i64 s.ay.hi) (.int .i64 s.bx.lo) (.int .i64 s.bx.hi) (.int .i64 s.by'.lo) (.int .i64 s.by'.hi) (.int .i64 s.f.lo) (.int .i64 s.f.hi) (.int .i64 s.g.lo) (.int .i64 s.g.hi) (.int .i64 s.limit) (.int .i64 s.flaws) (.slice fa s.l.length fc)
    unfold put15 at zz4 st4
    generalize (((((((((((((((v3.setCell ⟨q10, 0, none⟩ (.int .i64 s.ax.lo)).setCell ⟨q10, 1, none⟩ (.int .i64 s.ax.hi)).setCell ⟨q10, 2, none⟩ (.int .i64 s.ay.lo)).setCell ⟨q10, 3, none⟩ (.int .i64 s.ay.hi)).setCell ⟨q10, 4, none⟩ (.int .i64 s.bx.lo)).setCell ⟨q10, 5, none⟩ (.int .i64 s.bx.hi)).setCell ⟨q10, 6, none⟩ (.int .i64 s.by'.lo)).setCell ⟨q10, 7, none⟩ (.int .i64 s.by'.hi)).setCell ⟨q10, 8, none⟩ (.int .i64 s.f.lo)).setCell ⟨q10, 9, none⟩ (.int .i64 s.f.hi)).setCell ⟨q10, 10, none⟩ (.int .i64 s.g.lo)).setCell ⟨q10, 11, none⟩ (.int .i64 s.g.hi)).setCell ⟨q10, 12, none⟩ (.int .i64 s.limit)).setCell ⟨q10, 13, none⟩ (.int .i64 s.flaws)).setCell ⟨q10, 14, none⟩ (.slice fa s.l.length fc)) = v4 at zz4 st4 ⊢
    have H4 := H3.trans (st4.below (B := wA.heap.size) H3.size (fun k _ h => by omega))
    have B9 := st4.obj (k := q9) (by omega) zz3
    refine hK _ _ H4 (fun _ => ?_)
    clear hK K
    try simp only [Act.put, gD, gE, gF]
    refine wpAnyW_done (by kernel_rfl) ?_ _
    dsimp only [onNormal]
    exact HFIN.out _ _ q9 q10 v4 ⟨B9, zz4, hne, h9, h10, H4⟩

theorem lmore_reg6 (n fc cap p q10 g k wh : Nat) (fa : Option Addr) (wA : World) {z0 z2 z3 z5 z6 z7 z8 z9 z12 z13 z14 z15 z16 z17 z18 z19 z20 z21 z22 z23 z24 z25 z26 z27 z28 z29 z30 z31 z32 z33 z34 z35 z36 z37 z38 z39 z40 z41 z42 z43 z44 z45 z46 z47 z48 z49 z50 z51 z52 z53 z54 z55 z56 z57 z58 z59 z60 z61 z62 z63 z64 z65 z66 z67 z68 z69 z70 z80 z81 z82 z83 z84 z85 z86 z87 z88 z89 z90 z91 z92 z93 z94 z95 z96 z97 z98 z99 z100 z101 z102 z103 z104 z105 z106 z107 z108 z109 z110 z111 z112 z113 z114 z115 z116 z117 z118 z119 z120 z121 z122 z123 z124 z125 z126 z127 z128 z129 z130 z131 z132 z133 z134 z135 z136 z137 z138 z139 z140 z141 z142 z143 z144 z145 z146 z147 z148 z149 z150 z151 z152 z153 z154 z155 z156 z157 z158 z159 z160 z161 z162 z163 z164 z165 z166 z167 z168 z169 z170 z171 z172 z173 z174 z175 z176 z177 z178 z179 z180 z181 z182 z183 z184 z185 z186 z187 z188 z189 z190 z191 z192 z193 z194 z195 z196 z197 z198 z199 z200 z201 z202 z203 z204 z205 z206 z207 z208 z209 z210 z211 z212 z213 z214 z215 z216 z217 z218 z219 z220 z221 z222 z223 z224 z225 z226 z227 z228 z229 z230 z231 z232 z233 z234 z235 z236 z237 z238 z239 z240 z241 z242 z243 z244 z245 z246 z247 z248 z249 z250 z251 z252 z253 z254 z255 z256 z257 z258 z259 z260 z261 z262 z263 z264 z265 z266 z267 z268 z269 z270 z271 z272 z273 z274 z275 z276 z277 z278 z279 z280 z281 z282 z283 z284 z285 z286 z287 z288 z289 z290 : Value} {z11 z71 z72 z73 z74 z75 z76 z77 z78 z79 : Value} (hn : 0 < n) (hn9 : n ≤ 9) (hw : wh < 256) (hk : wh % n = k) (hp : wA.cell? ⟨p, 14, none⟩ = some (.slice fa n fc)) (hq : wA.cell? ⟨q10, 14, none⟩ = some (.slice (some ⟨g, 0, none⟩) n cap)) (K : Act → World → Prop) (Q : Exit → Act → World → Prop)
    (hfin : ∀ (s71 s72 s73 s74 s75 s76 s77 s78 s79 : Value) (w3 : World), Below wA.heap.size wA w3 → K ⟨(z0::(.int .u8 (wh : Int))::z2::z3::(.pointer (some ⟨p, 0, none⟩))::z5::z6::z7::z8::z9::(.pointer (some ⟨q10, 0, none⟩))::(.pointer (some ⟨g, k * 6, none⟩))::z12::z13::z14::z15::z16::z17::z18::z19::z20::z21::z22::z23::z24::z25::z26::z27::z28::z29::z30::z31::z32::z33::z34::z35::z36::z37::z38::z39::z40::z41::z42::z43::z44::z45::z46::z47::z48::z49::z50::z51::z52::z53::z54::z55::z56::z57::z58::z59::z60::z61::z62::z63::z64::z65::z66::z67::z68::z69::z70::s71::s72::s73::s74::s75::s76::s77::s78::s79::z80::z81::z82::z83::z84::z85::z86::z87::z88::z89::z90::z91::z92::z93::z94::z95::z96::z97::z98::z99::z100::z101::z102::z103::z104::z105::z106::z107::z108::z109::z110::z111::z112::z113::z114::z115::z116::z117::z118::z119::z120::z121::z122::z123::z124::z125::z126::z127::z128::z129::z130::z131::z132::z133::z134::z135::z136::z137::z138::z139::z140::z141::z142::z143::z144::z145::z146::z147::z148::z149::z150::z151::z152::z153::z154::z155::z156::z157::z158::z159::z160::z161::z162::z163::z164::z165::z166::z167::z168::z169::z170::z171::z172::z173::z174::z175::z176::z177::z178::z179::z180::z181::z182::z183::z184::z185::z186::z187::z188::z189::z190::z191::z192::z193::z194::z195::z196::z197::z198::z199::z200::z201::z202::z203::z204::z205::z206::z207::z208::z209::z210::z211::z212::z213::z214::z215::z216::z217::z218::z219::z220::z221::z222::z223::z224::z225::z226::z227::z228::z229::z230::z231::z232::z233::z234::z235::z236::z237::z238::z239::z240::z241::z242::z243::z244::z245::z246::z247::z248::z249::z250::z251::z252::z253::z254::z255::z256::z257::z258::z259::z260::z261::z262::z263::z264::z265::z266::z267::z268::z269::z270::z271::z272::z273::z274::z275::z276::z277::z278::z279::z280::z281::z282::z283::z284::z285::z286::z287::z288::z289::z290 :: []).toArray, []⟩ w3) :
    Code.wp Try.prog ((Try.f9.body.bind (findReg 6)).getD .skip) (Exit.then K Q) ⟨(z0::(.int .u8 (wh : Int))::z2::z3::(.pointer (some ⟨p, 0, none⟩))::z5::z6::z7::z8::z9::(.pointer (some ⟨q10, 0, none⟩))::z11::z12::z13::z14::z15::z16::z17::z18::z19::z20::z21::z22::z23::z24::z25::z26::z27::z28::z29::z30::z31::z32::z33::z34::z35::z36::z37::z38::z39::z40::z41::z42::z43::z44::z45::z46::z47::z48::z49::z50::z51::z52::z53::z54::z55::z56::z57::z58::z59::z60::z61::z62::z63::z64::z65::z66::z67::z68::z69::z70::z71::z72::z73::z74::z75::z76::z77::z78::z79::z80::z81::z82::z83::z84::z85::z86::z87::z88::z89::z90::z91::z92::z93::z94::z95::z96::z97::z98::z99::z100::z101::z102::z103::z104::z105::z106::z107::z108::z109::z110::z111::z112::z113::z114::z115::z116::z117::z118::z119::z120::z121::z122::z123::z124::z125::z126::z127::z128::z129::z130::z131::z132::z133::z134::z135::z136::z137::z138::z139::z140::z141::z142::z143::z144::z145::z146::z147::z148::z149::z150::z151::z152::z153::z154::z155::z156::z157::z158::z159::z160::z161::z162::z163::z164::z165::z166::z167::z168::z169::z170::z171::z172::z173::z174::z175::z176::z177::z178::z179::z180::z181::z182::z183::z184::z185::z186::z187::z188::z189::z190::z191::z192::z193::z194::z195::z196::z197::z198::z199::z200::z201::z202::z203::z204::z205::z206::z207::z208::z209::z210::z211::z212::z213::z214::z215::z216::z217::z218::z219::z220::z221::z222::z223::z224::z225::z226::z227::z228::z229::z230::z231::z232::z233::z234::z235::z236::z237::z238::z239::z240::z241::z242::z243::z244::z245::z246::z247::z248::z249::z250::z251::z252::z253::z254::z255::z256::z257::z258::z259::z260::z261::z262::z263::z264::z265::z266::z267::z268::z269::z270::z271::z272::z273::z274::z275::z276::z277::z278::z279::z280::z281::z282::z283::z284::z285::z286::z287::z288::z289::z290 :: []).toArray, []⟩ wA := by
  have HFIN := Lib.hid hfin
  clear hfin
  have k1 := iheld hp (Nat.le_refl _)
  have k2 := iheld hq (Nat.le_refl _)
  have hkn : k < n := by rw [← hk]; exact Nat.mod_lt _ hn
  have hni : (n : Int) ≤ 9 := by omega
  have hn0 : ¬ n = 0 := by omega
  have hki : (k : Int) < n := by omega
  have hk0 : (0 : Int) ≤ k := by omega
  have T1 : (wh : Int).tmod (n : Int) = (k : Int) := by rw [Int.tmod_eq_emod_of_nonneg (by omega), ← hk]; rfl
  have T0 : IntKind.i64.wrap (wh : Int) = (wh : Int) := by rw [IntKind.wrap_i64]; omega
  clear hp hq hk
  conv => arg 2; whnf
  refine (wpIn_wide (n := 1)).1 ?_
  refine wpIn_region_Wn (S := Below wA.heap.size wA) 10 (by kernel_rfl) (by kernel_rfl) (below_drew wA) (fun hHeld => ?_)
  refine wTk 0 71 ?_ ?_ ?_
  rotate_left
  · intro o h w k; (try dsimp only at k); simp only [gA, gB, gC, gG] at h; subst h; go_simp; try with_reducible rfl
  simp only [Act.put, gD, gE, gF]
  refine wTk 1 72 ?_ ?_ ?_
  rotate_left
  · intro o h w k; (try dsimp only at k); simp only [gA, gB, gC, gG] at h; subst h; go_simp; try with_reducible rfl
  simp only [Act.put, gD, gE, gF]
  refine wTk 2 73 ?_ ?_ ?_
  rotate_left
  · intro o h w k; (try dsimp only at k); simp only [gA, gB, gC, gG] at h; subst h; go_simp; try with_reducible rfl
  simp only [Act.put, gD, gE, gF]
  refine wTk 3 74 ?_ ?_ ?_
  rotate_left
  · intro o h w k; (try dsimp only at k); simp only [gA, gB, gC, gG] at h; subst h; go_simp; try with_reducible rfl
  simp only [Act.put, gD, gE, gF]
  refine wTk 4 75 ?_ ?_ ?_
  rotate_left
  · intro o h w k; (try dsimp only at k); simp only [gA, gB, gC, gG] at h; subst h; go_simp; try with_reducible rfl
  simp only [Act.put, gD, gE, gF]
  refine wTk 5 76 ?_ ?_ ?_
  rotate_left
  · intro o h w k; (try dsimp only at k); simp only [gA, gB, gC, gG] at h; subst h; go_simp; try with_reducible rfl
  simp only [Act.put, gD, gE, gF]
  refine wTk 6 77 ?_ ?_ ?_
  rotate_left
  · intro o h w k; (try dsimp only at k); simp only [gA, gB, gC, gG] at h; subst h; go_simp; try with_reducible rfl
  simp only [Act.put, gD, gE, gF]
  refine wTk 7 78 ?_ ?_ ?_
  rotate_left
  · intro o h w k; (try dsimp only at k); simp only [gA, gB, gC, gG] at h; subst h; go_simp; try with_reducible rfl
  simp only [Act.put, gD, gE, gF]
  refine wTk 8 79 ?_ ?_ ?_
  rotate_left
  · intro o h w k; (try dsimp only at k); simp only [gA, gB, gC, gG] at h; subst h; go_simp; try with_reducible rfl
  simp only [Act.put, gD, gE, gF]
  refine wTk 9 11 ?_ ?_ ?_
  rotate_left
  · intro o h w k; (try dsimp only at k); simp only [gA, gB, gC, gG] at h; subst h; go_simp; try with_reducible rfl
  simp only [Act.put, gD, gE, gF]
  refine wpAnyW_done (by kernel_rfl) ?_ _
  dsimp only [onNormal]
  exact HFIN.out _ _ _ _ _ _ _ _ _ _ hHeld

theorem lmore_reg7 (g k b : Nat) (l : List ISpot) (x : ISpot) (wA : World) {z0 z1 z3 z4 z5 z6 z7 z8 z9 z10 z12 z13 z14 z15 z16 z17 z18 z19 z20 z21 z22 z23 z24 z25 z26 z27 z28 z29 z30 z31 z32 z33 z34 z35 z36 z37 z38 z39 z40 z41 z42 z43 z44 z45 z46 z47 z48 z49 z50 z51 z52 z53 z54 z55 z56 z57 z58 z59 z60 z61 z62 z63 z64 z65 z66 z67 z68 z69 z70 z71 z72 z73 z74 z75 z76 z77 z78 z79 z105 z106 z107 z108 z109 z110 z111 z112 z113 z114 z115 z116 z117 z118 z119 z120 z121 z122 z123 z124 z125 z126 z127 z128 z129 z130 z131 z132 z133 z134 z135 z136 z137 z138 z139 z140 z141 z142 z143 z144 z145 z146 z147 z148 z149 z150 z151 z152 z153 z154 z155 z156 z157 z158 z159 z160 z161 z162 z163 z164 z165 z166 z167 z168 z169 z170 z171 z172 z173 z174 z175 z176 z177 z178 z179 z180 z181 z182 z183 z184 z185 z186 z187 z188 z189 z190 z191 z192 z193 z194 z195 z196 z197 z198 z199 z200 z201 z202 z203 z204 z205 z206 z207 z208 z209 z210 z211 z212 z213 z214 z215 z216 z217 z218 z219 z220 z221 z222 z223 z224 z225 z226 z227 z228 z229 z230 z231 z232 z233 z234 z235 z236 z237 z238 z239 z240 z241 z242 z243 z244 z245 z246 z247 z248 z249 z250 z251 z252 z253 z254 z255 z256 z257 z258 z259 z260 z261 z262 z263 z264 z265 z266 z267 z268 z269 z270 z271 z272 z273 z274 z275 z276 z277 z278 z279 z280 z281 z282 z283 z284 z285 z286 z287 z288 z289 z290 : Value} {z80 z81 z82 z83 z84 z85 z86 z87 z88 z89 z90 z91 z92 z93 z94 z95 z96 z97 z98 z99 z100 z101 z102 z103 z104 : Value} (hb : b < 256) (hR : RowIm wA g l) (hk : k < l.length) (hx : l[k] = x) (hok : x.ok = true) (K : Act → World → Prop) (Q : Exit → Act → World → Prop)
    (hfin : ∀ (s80 s81 s82 s83 s84 s85 s86 s87 s88 s89 s90 s91 s92 s93 s94 s95 s96 s97 s98 s99 s100 s101 s102 s103 s104 : Value) (w3 : World), (RowIm w3 g (l.set k ⟨⟨max 0 (x.x.lo - (b % 4 : Nat)), min 1048576 (x.x.hi + (b / 4 % 4 : Nat))⟩, x.y, x.s⟩) ∧ Steps (fun j => j = g) wA w3) → K ⟨(z0::z1::(.int .u8 (b : Int))::z3::z4::z5::z6::z7::z8::z9::z10::(.pointer (some ⟨g, k * 6, none⟩))::z12::z13::z14::z15::z16::z17::z18::z19::z20::z21::z22::z23::z24::z25::z26::z27::z28::z29::z30::z31::z32::z33::z34::z35::z36::z37::z38::z39::z40::z41::z42::z43::z44::z45::z46::z47::z48::z49::z50::z51::z52::z53::z54::z55::z56::z57::z58::z59::z60::z61::z62::z63::z64::z65::z66::z67::z68::z69::z70::z71::z72::z73::z74::z75::z76::z77::z78::z79::s80::s81::s82::s83::s84::s85::s86::s87::s88::s89::s90::s91::s92::s93::s94::s95::s96::s97::s98::s99::s100::s101::s102::s103::s104::z105::z106::z107::z108::z109::z110::z111::z112::z113::z114::z115::z116::z117::z118::z119::z120::z121::z122::z123::z124::z125::z126::z127::z128::z129::z130::z131::z132::z133::z134::z135::z136::z137::z138::z139::z140::z141::z142::z143::z144::z145::z146::z147::z148::z149::z150::z151::z152::z153::z154::z155::z156::z157::z158::z159::z160::z161::z162::z163::z164::z165::z166::z167::z168::z169::z170::z171::z172::z173::z174::z175::z176::z177::z178::z179::z180::z181::z182::z183::z184::z185::z186::z187::z188::z189::z190::z191::z192::z193::z194::z195::z196::z197::z198::z199::z200::z201::z202::z203::z204::z205::z206::z207::z208::z209::z210::z211::z212::z213::z214::z215::z216::z217::z218::z219::z220::z221::z222::z223::z224::z225::z226::z227::z228::z229::z230::z231::z232::z233::z234::z235::z236::z237::z238::z239::z240::z241::z242::z243::z244::z245::z246::z247::z248::z249::z250::z251::z252::z253::z254::z255::z256::z257::z258::z259::z260::z261::z262::z263::z264::z265::z266::z267::z268::z269::z270::z271::z272::z273::z274::z275::z276::z277::z278::z279::z280::z281::z282::z283::z284::z285::z286::z287::z288::z289::z290 :: []).toArray, []⟩ w3) :
    Code.wp Try.prog ((Try.f9.body.bind (findReg 7)).getD .skip) (Exit.then K Q) ⟨(z0::z1::(.int .u8 (b : Int))::z3::z4::z5::z6::z7::z8::z9::z10::(.pointer (some ⟨g, k * 6, none⟩))::z12::z13::z14::z15::z16::z17::z18::z19::z20::z21::z22::z23::z24::z25::z26::z27::z28::z29::z30::z31::z32::z33::z34::z35::z36::z37::z38::z39::z40::z41::z42::z43::z44::z45::z46::z47::z48::z49::z50::z51::z52::z53::z54::z55::z56::z57::z58::z59::z60::z61::z62::z63::z64::z65::z66::z67::z68::z69::z70::z71::z72::z73::z74::z75::z76::z77::z78::z79::z80::z81::z82::z83::z84::z85::z86::z87::z88::z89::z90::z91::z92::z93::z94::z95::z96::z97::z98::z99::z100::z101::z102::z103::z104::z105::z106::z107::z108::z109::z110::z111::z112::z113::z114::z115::z116::z117::z118::z119::z120::z121::z122::z123::z124::z125::z126::z127::z128::z129::z130::z131::z132::z133::z134::z135::z136::z137::z138::z139::z140::z141::z142::z143::z144::z145::z146::z147::z148::z149::z150::z151::z152::z153::z154::z155::z156::z157::z158::z159::z160::z161::z162::z163::z164::z165::z166::z167::z168::z169::z170::z171::z172::z173::z174::z175::z176::z177::z178::z179::z180::z181::z182::z183::z184::z185::z186::z187::z188::z189::z190::z191::z192::z193::z194::z195::z196::z197::z198::z199::z200::z201::z202::z203::z204::z205::z206::z207::z208::z209::z210::z211::z212::z213::z214::z215::z216::z217::z218::z219::z220::z221::z222::z223::z224::z225::z226::z227::z228::z229::z230::z231::z232::z233::z234::z235::z236::z237::z238::z239::z240::z241::z242::z243::z244::z245::z246::z247::z248::z249::z250::z251::z252::z253::z254::z255::z256::z257::z258::z259::z260::z261::z262::z263::z264::z265::z266::z267::z268::z269::z270::z271::z272::z273::z274::z275::z276::z277::z278::z279::z280::z281::z282::z283::z284::z285::z286::z287::z288::z289::z290 :: []).toArray, []⟩ wA := by
  have HFIN := Lib.hid hfin
  clear hfin
  have hE := hR.im k hk
  rw [hx] at hE
  obtain ⟨e0, e1, _, _, _, _⟩ := hE
  have HR := Lib.hid hR
  have hgl := hR.lt
  obtain ⟨⟨x1, x2, x3⟩, _, _⟩ := (spot_iff x).1 hok
  have S0 : ∀ W' : World, W'.heap[g]? = wA.heap[g]? → W'.cell? ⟨g, k * 6, none⟩ = some (.int .i64 x.x.lo) := fun W' h => (World.cell?_of_block h).trans e0
  have S1 : ∀ W' : World, W'.heap[g]? = wA.heap[g]? → W'.cell? ⟨g, k * 6 + 1, none⟩ = some (.int .i64 x.x.hi) := fun W' h => (World.cell?_of_block h).trans e1
  have T0 : IntKind.i64.wrap (b : Int) = (b : Int) := by rw [IntKind.wrap_i64]; omega
  have T1 : (b : Int).tmod 4 = ((b % 4 : Nat) : Int) := by rw [Int.tmod_eq_emod_of_nonneg (by omega)]; rfl
  have T2 : ((b : Int) / 4).tmod 4 = ((b / 4 % 4 : Nat) : Int) := by rw [Int.tmod_eq_emod_of_nonneg (by omega)]; rfl
  have T3 : (b : Int).tdiv 4 = (b : Int) / 4 := Int.tdiv_eq_ediv_of_nonneg (by omega)
  have hb1 : b % 4 < 4 := Nat.mod_lt _ (by omega)
  have hb2 : b / 4 % 4 < 4 := Nat.mod_lt _ (by omega)
  obtain ⟨r1, er1⟩ : ∃ r, b % 4 = r := ⟨_, rfl⟩
  obtain ⟨r2, er2⟩ : ∃ r, b / 4 % 4 = r := ⟨_, rfl⟩
  rw [er1] at T1 hb1 HFIN
  rw [er2] at T2 hb2 HFIN
  have T4 : IntKind.i64.wrap ((b : Int) / 4) = (b : Int) / 4 := by rw [IntKind.wrap_i64]; omega
  have U1 : IntKind.i64.wrap (x.x.lo - (r1 : Int)) = x.x.lo - (r1 : Int) := by rw [IntKind.wrap_i64]; omega
  have U2 : IntKind.i64.wrap (x.x.hi + (r2 : Int)) = x.x.hi + (r2 : Int) := by rw [IntKind.wrap_i64]; omega
  have hbi : (0 : Int) ≤ (b : Int) / 4 := by omega
  have HXX := Lib.hid (And.intro hk hx)
  clear hok hR er1 er2 e0 e1 hx
  conv => arg 2; whnf
  refine (wpIn_wide (n := 1)).1 ?_
  refine wpIn_region_Vn (B := [25]) (S := fun W' => W'.heap[g]? = wA.heap[g]?) 26 (by kernel_rfl) (by kernel_rfl) (by exact (below_drew wA).block g hgl) (fun hHeld => ?_)
  have hb0 := below_drew wA
  have hR0 := HR.out.same hHeld
  have st0 : Steps (fun j => j = g) wA wA.drew := (Steps.refl _ wA).drew
  generalize wA.drew = w0 at hHeld hb0 hR0 st0 ⊢
  refine wpAnyV_takeD 0 80 (v := ?_) (by kernel_rfl) (by kernel_rfl) (by kernel_rfl) (by kernel_rfl) (fun _ _ _ h => h) (by kernel_rfl) ?_ (by assumption) ?_
  rotate_left
  · intro oi hoi w hSw; (try dsimp only at hSw); simp only [gA, gB, gC, gG] at hoi; subst hoi; go_simp; try with_reducible rfl
  simp only [Act.put, gD, gE, gF]
  refine wpAnyV_takeD 1 81 (v := ?_) (by kernel_rfl) (by kernel_rfl) (by kernel_rfl) (by kernel_rfl) (fun _ _ _ h => h) (by kernel_rfl) ?_ (by assumption) ?_
  rotate_left
  · intro oi hoi w hSw; (try dsimp only at hSw); simp only [gA, gB, gC, gG] at hoi; subst hoi; go_simp; try with_reducible rfl
  simp only [Act.put, gD, gE, gF]
  refine wpAnyV_takeD 2 82 (v := ?_) (by kernel_rfl) (by kernel_rfl) (by kernel_rfl) (by kernel_rfl) (fun _ _ _ h => h) (by kernel_rfl) ?_ (by assumption) ?_
  rotate_left
  · intro oi hoi w hSw; (try dsimp only at hSw); simp only [gA, gB, gC, gG] at hoi; subst hoi; go_simp; try with_reducible rfl
  simp only [Act.put, gD, gE, gF]
  refine wpAnyV_takeD 3 83 (v := ?_) (by kernel_rfl) (by kernel_rfl) (by kernel_rfl) (by kernel_rfl) (fun _ _ _ h => h) (by kernel_rfl) ?_ (by assumption) ?_
  rotate_left
  · intro oi hoi w hSw; (try dsimp only at hSw); simp only [gA, gB, gC, gG] at hoi; subst hoi; go_simp; try with_reducible rfl
  simp only [Act.put, gD, gE, gF]
  refine wpAnyV_takeD 4 84 (v := ?_) (by kernel_rfl) (by kernel_rfl) (by kernel_rfl) (by kernel_rfl) (fun _ _ _ h => h) (by kernel_rfl) ?_ (by assumption) ?_
  rotate_left
  · intro oi hoi w hSw; (try dsimp only at hSw); simp only [gA, gB, gC, gG] at hoi; subst hoi; go_simp; try with_reducible rfl
  simp only [Act.put, gD, gE, gF]
  refine wpAnyV_takeD 5 85 (v := ?_) (by kernel_rfl) (by kernel_rfl) (by kernel_rfl) (by kernel_rfl) (fun _ _ _ h => h) (by kernel_rfl) ?_ (by assumption) ?_
  rotate_left
  · intro oi hoi w hSw; (try dsimp only at hSw); simp only [gA, gB, gC, gG] at hoi; subst hoi; go_simp; try with_reducible rfl
  simp only [Act.put, gD, gE, gF]
  refine wpAnyV_takeD 6 86 (v := ?_) (by kernel_rfl) (by kernel_rfl) (by kernel_rfl) (by kernel_rfl) (fun _ _ _ h => h) (by kernel_rfl) ?_ (by assumption) ?_
  rotate_left
  · intro oi hoi w hSw; (try dsimp only at hSw); simp only [gA, gB, gC, gG] at hoi; subst hoi; go_simp; try with_reducible rfl
  simp only [Act.put, gD, gE, gF]
  refine wpAnyV_takeD 7 87 (v := ?_) (by kernel_rfl) (by kernel_rfl) (by kernel_rfl) (by kernel_rfl) (fun _ _ _ h => h) (by kernel_rfl) ?_ (by assumption) ?_
  rotate_left
  · intro oi hoi w hSw; (try dsimp only at hSw); simp only [gA, gB, gC, gG] at hoi; subst hoi; go_simp; try with_reducible rfl
  simp only [Act.put, gD, gE, gF]
  refine wpAnyV_takeD 8 88 (v := ?_) (by kernel_rfl) (by kernel_rfl) (by kernel_rfl) (by kernel_rfl) (fun _ _ _ h => h) (by kernel_rfl) ?_ (by assumption) ?_
  rotate_left
  · intro oi hoi w hSw; (try dsimp only at hSw); simp only [gA, gB, gC, gG] at hoi; subst hoi; go_simp; try with_reducible rfl
  simp only [Act.put, gD, gE, gF]
  refine wpAnyV_takeD 9 89 (v := ?_) (by kernel_rfl) (by kernel_rfl) (by kernel_rfl) (by kernel_rfl) (fun _ _ _ h => h) (by kernel_rfl) ?_ (by assumption) ?_
  rotate_left
  · intro oi hoi w hSw; (try dsimp only at hSw); simp only [gA, gB, gC, gG] at hoi; subst hoi; go_simp; try with_reducible rfl
  simp only [Act.put, gD, gE, gF]
  refine wpAnyV_takeD 10 90 (v := ?_) (by kernel_rfl) (by kernel_rfl) (by kernel_rfl) (by kernel_rfl) (fun _ _ _ h => h) (by kernel_rfl) ?_ (by assumption) ?_
  rotate_left
  · intro oi hoi w hSw; (try dsimp only at hSw); simp only [gA, gB, gC, gG] at hoi; subst hoi; go_simp; try with_reducible rfl
  simp only [Act.put, gD, gE, gF]
  refine wpAnyV_takeD 11 91 (v := ?_) (by kernel_rfl) (by kernel_rfl) (by kernel_rfl) (by kernel_rfl) (fun _ _ _ h => h) (by kernel_rfl) ?_ (by assumption) ?_
  rotate_left
  · intro oi hoi w hSw; (try dsimp only at hSw); simp only [gA, gB, gC, gG] at hoi; subst hoi; go_simp; try with_reducible rfl
  simp only [Act.put, gD, gE, gF]
  refine wpAnyV_takeD 12 92 (v := ?_) (by kernel_rfl) (by kernel_rfl) (by kernel_rfl) (by kernel_rfl) (fun _ _ _ h => h) (by kernel_rfl) ?_ (by assumption) ?_
  rotate_left
  · intro oi hoi w hSw; (try dsimp only at hSw); simp only [gA, gB, gC, gG] at hoi; subst hoi; go_simp; try with_reducible rfl
  simp only [Act.put, gD, gE, gF]
  refine wpAnyV_takeD 13 93 (v := ?_) (by kernel_rfl) (by kernel_rfl) (by kernel_rfl) (by kernel_rfl) (fun _ _ _ h => h) (by kernel_rfl) ?_ (by assumption) ?_
  rotate_left
  · intro oi hoi w hSw; (try dsimp only at hSw); simp only [gA, gB, gC, gG] at hoi; subst hoi; go_simp; try with_reducible rfl
  simp only [Act.put, gD, gE, gF]
  refine wpAnyV_takeD 14 94 (v := ?_) (by kernel_rfl) (by kernel_rfl) (by kernel_rfl) (by kernel_rfl) (fun _ _ _ h => h) (by kernel_rfl) ?_ (by assumption) ?_
  rotate_left
  · intro oi hoi w hSw; (try dsimp only at hSw); simp only [gA, gB, gC, gG] at hoi; subst hoi; go_simp; try with_reducible rfl
  simp only [Act.put, gD, gE, gF]
  refine wpAnyV_takeD 15 95 (v := ?_) (by kernel_rfl) (by kernel_rfl) (by kernel_rfl) (by kernel_rfl) (fun _ _ _ h => h) (by kernel_rfl) ?_ (by assumption) ?_
  rotate_left
  · intro oi hoi w hSw; (try dsimp only at hSw); simp only [gA, gB, gC, gG] at hoi; subst hoi; go_simp; try with_reducible rfl
  simp only [Act.put, gD, gE, gF]
  refine wpAnyV_takeD 16 96 (v := ?_) (by kernel_rfl) (by kernel_rfl) (by kernel_rfl) (by kernel_rfl) (fun _ _ _ h => h) (by kernel_rfl) ?_ (by assumption) ?_
  rotate_left
  · intro oi hoi w hSw; (try dsimp only at hSw); simp only [gA, gB, gC, gG] at hoi; subst hoi; go_simp; try with_reducible rfl
  simp only [Act.put, gD, gE, gF]
  refine wpAnyV_takeD 17 97 (v := ?_) (by kernel_rfl) (by kernel_rfl) (by kernel_rfl) (by kernel_rfl) (fun _ _ _ h => h) (by kernel_rfl) ?_ (by assumption) ?_
  rotate_left
  · intro oi hoi w hSw; (try dsimp only at hSw); simp only [gA, gB, gC, gG] at hoi; subst hoi; go_simp; try with_reducible rfl
  simp only [Act.put, gD, gE, gF]
  refine wpAnyV_takeD 18 98 (v := ?_) (by kernel_rfl) (by kernel_rfl) (by kernel_rfl) (by kernel_rfl) (fun _ _ _ h => h) (by kernel_rfl) ?_ (by assumption) ?_
  rotate_left
  · intro oi hoi w hSw; (try dsimp only at hSw); simp only [gA, gB, gC, gG] at hoi; subst hoi; go_simp; try with_reducible rfl
  simp only [Act.put, gD, gE, gF]
  refine wpAnyV_takeD 19 99 (v := ?_) (by kernel_rfl) (by kernel_rfl) (by kernel_rfl) (by kernel_rfl) (fun _ _ _ h => h) (by kernel_rfl) ?_ (by assumption) ?_
  rotate_left
  · intro oi hoi w hSw; (try dsimp only at hSw); simp only [gA, gB, gC, gG] at hoi; subst hoi; go_simp; try with_reducible rfl
  simp only [Act.put, gD, gE, gF]
  refine wpAnyV_takeD 20 100 (v := ?_) (by kernel_rfl) (by kernel_rfl) (by kernel_rfl) (by kernel_rfl) (fun _ _ _ h => h) (by kernel_rfl) ?_ (by assumption) ?_
  rotate_left
  · intro oi hoi w hSw; (try dsimp only at hSw); simp only [gA, gB, gC, gG] at hoi; subst hoi; go_simp; try with_reducible rfl
  simp only [Act.put, gD, gE, gF]
  refine wpAnyV_takeD 21 101 (v := ?_) (by kernel_rfl) (by kernel_rfl) (by kernel_rfl) (by kernel_rfl) (fun _ _ _ h => h) (by kernel_rfl) ?_ (by assumption) ?_
  rotate_left
  · intro oi hoi w hSw; (try dsimp only at hSw); simp only [gA, gB, gC, gG] at hoi; subst hoi; go_simp; try with_reducible rfl
  simp only [Act.put, gD, gE, gF]
  clear S0 S1
  refine wpAnyV_one 22 (by kernel_rfl) (by kernel_rfl) ?_
  intro o ho K hK
  simp only [gA, gB, gC, gG] at ho
  subst ho
  go_simp
  refine ⟨trivial, CallsIn.mono (callsIn_wide.2 (ilspan_any _ _ _)) ?_⟩
  rintro e w1 ⟨rfl, hb1⟩
  have hH1 := (hb1.block g hR0.lt).trans hHeld
  have hR1 := hR0.below hb1 (Nat.le_refl _)
  have st1 : Steps (fun j => j = g) wA w1 := st0.trans ⟨hb1.os, hb1.tape, hb1.output, hb1.size, fun k hk _ => hb1.block k hk⟩ (fun _ _ h => h)
  refine hK _ _ (.inr hH1) (fun _ => ?_)
  clear hK K
  try simp only [Act.put, gD, gE, gF]
  refine wpAnyV_one 23 (by kernel_rfl) (by kernel_rfl) ?_
  intro o ho K hK
  simp only [gA, gB, gC, gG] at ho
  subst ho
  go_simp
  refine hK _ _ (.inr hH1) (fun _ => ?_)
  clear hK K
  try simp only [Act.put, gD, gE, gF]
  refine wpAnyV_one 24 (by kernel_rfl) (by kernel_rfl) ?_
  intro o ho K hK
  simp only [gA, gB, gC, gG] at ho
  subst ho
  go_simp
  refine hK _ _ (.inr hH1) (fun _ => ?_)
  clear hK K
  try simp only [Act.put, gD, gE, gF]
  have e0 := (hR1.im k HXX.out.1).c0
  have e1 := (hR1.im k HXX.out.1).c1
  have f0 := hR1.fz (k * 6)
  have f1 := hR1.fz (k * 6 + 1)
  refine wpAnyV_one 25 (by kernel_rfl) (by kernel_rfl) ?_
  intro o ho K hK
  simp only [gA, gB, gC, gG] at ho
  subst ho
  go_simp
  have hput : RowIm ((w1.setCell ⟨g, k * 6, none⟩ (.int .i64 (if (r1 : Int) < x.x.lo then x.x.lo - (r1 : Int) else 0))).setCell ⟨g, k * 6 + 1, none⟩ (.int .i64 (if x.x.hi + (r2 : Int) < 1048576 then x.x.hi + (r2 : Int) else 1048576))) g (l.set k ⟨⟨max 0 (x.x.lo - (r1 : Int)), min 1048576 (x.x.hi + (r2 : Int))⟩, x.y, x.s⟩) := by
    rw [show max 0 (x.x.lo - (r1 : Int)) = (if (r1 : Int) < x.x.lo then x.x.lo - (r1 : Int) else 0) by split <;> omega, show min 1048576 (x.x.hi + (r2 : Int)) = (if x.x.hi + (r2 : Int) < 1048576 then x.x.hi + (r2 : Int) else 1048576) by split <;> omega]
    exact RowIm.putX hR1 k x _ _ HXX.out.1 HXX.out.2
  have st2 := (st1.trans (Steps.setCell (own := fun j => j = g) w1 (p := ⟨g, k * 6, none⟩) rfl (.int .i64 (if (r1 : Int) < x.x.lo then x.x.lo - (r1 : Int) else 0))) (fun _ _ h => h)).trans (Steps.setCell (own := fun j => j = g) _ (p := ⟨g, k * 6 + 1, none⟩) rfl (.int .i64 (if x.x.hi + (r2 : Int) < 1048576 then x.x.hi + (r2 : Int) else 1048576))) (fun _ _ h => h)
  refine hK _ _ (.inl (by kernel_rfl)) (fun _ => ?_)
  clear hK K
  try simp only [Act.put, gD, gE, gF]
  refine wpAnyV_done (by kernel_rfl) ?_ _
  dsimp only [onNormal]
  exact HFIN.out _ _ _ _ _ _ _ _ _ _ _ _ _ _ _ _ _ _ _ _ _ _ _ _ _ _ ⟨hput, st2⟩
end Go.Proofs.Ytacioedolmaofaa
