/- Rows of images that a call itself made: copied whole, images changed. -/
import Derived.Test.YtacioedolmaofaaLBA13
namespace Go.Proofs.Ytacioedolmaofaa
open Go.RowKit Go.Shelf
set_option maxHeartbeats 1600000
set_option maxRecDepth 100000
set_option linter.unusedSimpArgs false
set_option linter.unusedVariables false

/-- Block g reads as these images, and can be written. -/
structure RowIm (w : World) (g : Nat) (l : List ISpot) : Prop where
  im : ∀ j (h : j < l.length), ImAt w g (j * 6) l[j]
  fz : ∀ i, w.frozen? ⟨g, i, none⟩ = false
  lt : g < w.heap.size
theorem RowIm.sl {w : World} {g : Nat} {l : List ISpot} (h : RowIm w g l) : ImSl w (some ⟨g, 0, none⟩) l := fun k hk => ⟨g, 0, rfl, h.lt, by rw [Nat.zero_add]; exact h.im k hk⟩
theorem RowIm.same {w w' : World} {g : Nat} {l : List ISpot} (h : RowIm w g l) (hb : w'.heap[g]? = w.heap[g]?) : RowIm w' g l := by
  refine ⟨fun j hj => (h.im j hj).same hb, fun i => ?_, ?_⟩
  · have := h.fz i
    unfold World.frozen? at this ⊢
    rw [hb]; exact this
  · have e := Array.getElem?_eq_getElem h.lt
    rw [← hb] at e
    exact (Array.getElem?_eq_some_iff.1 e).1
theorem RowIm.below {w w' : World} {g B : Nat} {l : List ISpot} (h : RowIm w g l) (hb : Below B w w') (hB : w.heap.size ≤ B) : RowIm w' g l := h.same (hb.block g (Nat.lt_of_lt_of_le h.lt hB))
theorem RowIm.upd {w w' : World} {g : Nat} {l : List ISpot} (h : RowIm w g l) (k : Nat) (x : ISpot) (hc : ∀ i, ¬ (k * 6 ≤ i ∧ i < k * 6 + 6) → w'.cell? ⟨g, i, none⟩ = w.cell? ⟨g, i, none⟩) (hx : ImAt w' g (k * 6) x)
    (hfz : ∀ i, w'.frozen? ⟨g, i, none⟩ = false) (hlt : g < w'.heap.size) : RowIm w' g (l.set k x) := by
  refine ⟨fun j hj => ?_, hfz, hlt⟩
  rw [List.length_set] at hj
  rw [List.getElem_set]
  split
  · subst_vars; exact hx
  · rename_i hne
    have hj' := h.im j hj
    have o : ∀ m, m < 6 → w'.cell? ⟨g, j * 6 + m, none⟩ = w.cell? ⟨g, j * 6 + m, none⟩ := fun m hm => hc _ (by omega)
    exact ⟨(o 0 (by omega)).trans hj'.c0, (o 1 (by omega)).trans hj'.c1, (o 2 (by omega)).trans hj'.c2, (o 3 (by omega)).trans hj'.c3, (o 4 (by omega)).trans hj'.c4, (o 5 (by omega)).trans hj'.c5⟩
theorem setc_other (w : World) (g k i : Nat) (v : Value) (h : i ≠ k) : (w.setCell ⟨g, k, none⟩ v).cell? ⟨g, i, none⟩ = w.cell? ⟨g, i, none⟩ :=
  World.cell?_setCell_other _ _ _ _ (fun e => h (by injection e with _ e2; exact e2.symm))
theorem RowIm.putX {w : World} {g : Nat} {l : List ISpot} (h : RowIm w g l) (k : Nat) (x : ISpot) (a b : Int) (hk : k < l.length) (hx : l[k] = x) :
    RowIm ((w.setCell ⟨g, k * 6, none⟩ (.int .i64 a)).setCell ⟨g, k * 6 + 1, none⟩ (.int .i64 b)) g (l.set k ⟨⟨a, b⟩, x.y, x.s⟩) := by
  have hE := h.im k hk
  rw [hx] at hE
  have o : ∀ i, i ≠ k * 6 → i ≠ k * 6 + 1 → ((w.setCell ⟨g, k * 6, none⟩ (.int .i64 a)).setCell ⟨g, k * 6 + 1, none⟩ (.int .i64 b)).cell? ⟨g, i, none⟩ = w.cell? ⟨g, i, none⟩ := fun i h0 h1 => by
    rw [setc_other _ _ _ _ _ h1, setc_other _ _ _ _ _ h0]
  refine h.upd k _ (fun i hi => o i (by omega) (by omega)) ⟨?_, ?_, ?_, ?_, ?_, ?_⟩ (fun i => by rw [World.frozen?_setCell, World.frozen?_setCell]; exact h.fz i) (by simpa [World.setCell] using h.lt)
  · rw [setc_other _ _ _ _ _ (by omega)]; exact World.cell?_setCell_same _ _ _ hE.c0
  · exact World.cell?_setCell_same _ _ _ (by rw [setc_other _ _ _ _ _ (by omega)]; exact hE.c1)
  · rw [o _ (by omega) (by omega)]; exact hE.c2
  · rw [o _ (by omega) (by omega)]; exact hE.c3
  · rw [o _ (by omega) (by omega)]; exact hE.c4
  · rw [o _ (by omega) (by omega)]; exact hE.c5
theorem RowIm.putH {w : World} {g : Nat} {l : List ISpot} (h : RowIm w g l) (k : Nat) (x : ISpot) (v : Int) (hk : k < l.length) (hx : l[k] = x) :
    RowIm (w.setCell ⟨g, k * 6 + 5, none⟩ (.int .i64 v)) g (l.set k ⟨x.x, x.y, ⟨x.s.lo, v⟩⟩) := by
  have hE := h.im k hk
  rw [hx] at hE
  have o : ∀ i, i ≠ k * 6 + 5 → (w.setCell ⟨g, k * 6 + 5, none⟩ (.int .i64 v)).cell? ⟨g, i, none⟩ = w.cell? ⟨g, i, none⟩ := fun i h0 => setc_other _ _ _ _ _ h0
  refine h.upd k _ (fun i hi => o i (by omega)) ⟨?_, ?_, ?_, ?_, ?_, ?_⟩ (fun i => by rw [World.frozen?_setCell]; exact h.fz i) (by simpa [World.setCell] using h.lt)
  · rw [o _ (by omega)]; exact hE.c0
  · rw [o _ (by omega)]; exact hE.c1
  · rw [o _ (by omega)]; exact hE.c2
  · rw [o _ (by omega)]; exact hE.c3
  · rw [o _ (by omega)]; exact hE.c4
  · exact World.cell?_setCell_same _ _ _ hE.c5
/-- A whole image is stored. -/
def put6 (w : World) (g k : Nat) (x : ISpot) : World := (((((w.setCell ⟨g, k, none⟩ (.int .i64 x.x.lo)).setCell ⟨g, k + 1, none⟩ (.int .i64 x.x.hi)).setCell ⟨g, k + 2, none⟩ (.int .i64 x.y.lo)).setCell ⟨g, k + 3, none⟩ (.int .i64 x.y.hi)).setCell ⟨g, k + 4, none⟩ (.int .i64 x.s.lo)).setCell ⟨g, k + 5, none⟩ (.int .i64 x.s.hi)
theorem RowIm.put6 {w : World} {g : Nat} {l : List ISpot} (h : RowIm w g l) (k : Nat) (x : ISpot) (hk : k < l.length) : RowIm (put6 w g (k * 6) x) g (l.set k x) := by
  have hE := h.im k hk
  have o : ∀ i, ¬ (k * 6 ≤ i ∧ i < k * 6 + 6) → (Go.Proofs.Ytacioedolmaofaa.put6 w g (k * 6) x).cell? ⟨g, i, none⟩ = w.cell? ⟨g, i, none⟩ := fun i h0 => by
    unfold Go.Proofs.Ytacioedolmaofaa.put6
    rw [setc_other _ _ _ _ _ (by omega), setc_other _ _ _ _ _ (by omega), setc_other _ _ _ _ _ (by omega), setc_other _ _ _ _ _ (by omega), setc_other _ _ _ _ _ (by omega), setc_other _ _ _ _ _ (by omega)]
  refine h.upd k _ (fun i hi => o i (by omega)) ⟨?_, ?_, ?_, ?_, ?_, ?_⟩ (fun i => by unfold Go.Proofs.Ytacioedolmaofaa.put6; rw [World.frozen?_setCell, World.frozen?_setCell, World.frozen?_setCell, World.frozen?_setCell, World.frozen?_setCell, World.frozen?_setCell]; exact h.fz i) (by unfold Go.Proofs.Ytacioedolmaofaa.put6; simpa [World.setCell] using h.lt)
  · unfold Go.Proofs.Ytacioedolmaofaa.put6
    rw [setc_other _ _ _ _ _ (by omega), setc_other _ _ _ _ _ (by omega), setc_other _ _ _ _ _ (by omega), setc_other _ _ _ _ _ (by omega), setc_other _ _ _ _ _ (by omega)]
    exact World.cell?_setCell_same _ _ _ hE.c0
  · unfold Go.Proofs.Ytacioedolmaofaa.put6
    rw [setc_other _ _ _ _ _ (by omega), setc_other _ _ _ _ _ (by omega), setc_other _ _ _ _ _ (by omega), setc_other _ _ _ _ _ (by omega)]
    exact World.cell?_setCell_same _ _ _ (by rw [setc_other _ _ _ _ _ (by omega)]; exact hE.c1)
  · unfold Go.Proofs.Ytacioedolmaofaa.put6
    rw [setc_other _ _ _ _ _ (by omega), setc_other _ _ _ _ _ (by omega), setc_other _ _ _ _ _ (by omega)]
    exact World.cell?_setCell_same _ _ _ (by rw [setc_other _ _ _ _ _ (by omega), setc_other _ _ _ _ _ (by omega)]; exact hE.c2)
  · unfold Go.Proofs.Ytacioedolmaofaa.put6
    rw [setc_other _ _ _ _ _ (by omega), setc_other _ _ _ _ _ (by omega)]
    exact World.cell?_setCell_same _ _ _ (by rw [setc_other _ _ _ _ _ (by omega), setc_other _ _ _ _ _ (by omega), setc_other _ _ _ _ _ (by omega)]; exact hE.c3)
  · unfold Go.Proofs.Ytacioedolmaofaa.put6
    rw [setc_other _ _ _ _ _ (by omega)]
    exact World.cell?_setCell_same _ _ _ (by rw [setc_other _ _ _ _ _ (by omega), setc_other _ _ _ _ _ (by omega), setc_other _ _ _ _ _ (by omega), setc_other _ _ _ _ _ (by omega)]; exact hE.c4)
  · unfold Go.Proofs.Ytacioedolmaofaa.put6
    exact World.cell?_setCell_same _ _ _ (by rw [setc_other _ _ _ _ _ (by omega), setc_other _ _ _ _ _ (by omega), setc_other _ _ _ _ _ (by omega), setc_other _ _ _ _ _ (by omega), setc_other _ _ _ _ _ (by omega)]; exact hE.c5)
theorem put6_steps (w : World) (g k : Nat) (x : ISpot) : Steps (fun j => j = g) w (put6 w g k x) := by
  have h1 : ∀ (A : World) (o : Nat) (v : Value), Steps (fun k => k = g) A (A.setCell ⟨g, o, none⟩ v) := fun A o v => Steps.setCell (own := fun k => k = g) A (p := ⟨g, o, none⟩) rfl v
  unfold put6
  exact (((((h1 _ _ _).trans (h1 _ _ _) (fun _ _ h => h)).trans (h1 _ _ _) (fun _ _ h => h)).trans (h1 _ _ _) (fun _ _ h => h)).trans (h1 _ _ _) (fun _ _ h => h)).trans (h1 _ _ _) (fun _ _ h => h)

theorem iappend_none (w : World) (q c : Nat) : (Builtin.append_ #[28, 28] 28 #[.slice (some ⟨q, 0, none⟩) 0 0, .slice none 0 c]).run Try.prog w = .ok (.slice (some ⟨q, 0, none⟩) 0 0) w := by kernel_rfl
theorem iappend_some (w : World) (q c : Nat) (a : Addr) : (Builtin.append_ #[28, 28] 28 #[.slice (some ⟨q, 0, none⟩) 0 0, .slice (some a) 0 c]).run Try.prog w = .ok (.slice (some ⟨q, 0, none⟩) 0 0) w := by kernel_rfl
theorem infoIm : (Try.prog.info? 61).map (fun i => (i.zero, i.size, i.bytes)) = some (some (.agg #[.int .i64 0, .int .i64 0, .int .i64 0, .int .i64 0, .int .i64 0, .int .i64 0]), 6, 48) := by kernel_rfl
theorem ImSl.cells {w : World} {b o : Nat} {l : List ISpot} (h : ImSl w (some ⟨b, o, none⟩) l) : ∀ j u, (imsCells l)[j]? = some u → w.cell? ((⟨b, o, none⟩ : Addr).add j) = some u := by
  intro j u hu
  have hj : j < l.length * 6 := by
    have := (List.getElem?_eq_some_iff.1 hu).1
    rwa [imsCells_len] at this
  have hk : j / 6 < l.length := by omega
  have e : j = j / 6 * 6 + j % 6 := by omega
  have hm : j % 6 < 6 := Nat.mod_lt _ (by omega)
  obtain ⟨b', o', ha, _, c0, c1, c2, c3, c4, c5⟩ := h (j / 6) hk
  cases ha
  have hadd : ((⟨b, o, none⟩ : Addr).add j) = ⟨b, o + j, none⟩ := by simp [Addr.add]
  rw [hadd]
  rw [e, imsCells_get l _ _ hk hm] at hu
  have e2 : o + j = o + j / 6 * 6 + j % 6 := by omega
  rw [e2]
  generalize j % 6 = m at hm hu ⊢
  generalize l[j / 6] = x at *
  match m, hm with
  | 0, _ => rw [← hu]; exact c0
  | 1, _ => rw [← hu]; exact c1
  | 2, _ => rw [← hu]; exact c2
  | 3, _ => rw [← hu]; exact c3
  | 4, _ => rw [← hu]; exact c4
  | 5, _ => rw [← hu]; exact c5
theorem imsCells_one (l : List ISpot) : ∀ u ∈ imsCells l, u.oneCell' = true := by
  intro u hu
  obtain ⟨x, _, hm⟩ := List.mem_flatMap.1 hu
  exact imCells_one x u hm
/-- A copy of images of which there are some lies in a new block. -/
theorem icopyNew (w : World) (q : Nat) (a : Option Addr) (c : Nat) (l : List ISpot) (h0 : l ≠ []) (hl : l.length ≤ 100) (hx : ImSl w a l) :
    ∃ cap w', (Builtin.append_ #[28, 28] 28 #[.slice (some ⟨q, 0, none⟩) 0 0, .slice a l.length c]).run Try.prog w = .ok (.slice (some ⟨w.heap.size, 0, none⟩) l.length cap) w' ∧ RowIm w' w.heap.size l ∧ Below w.heap.size w w' ∧ w'.heap.size = w.heap.size + 1 := by
  have hl0 : 0 < l.length := List.length_pos_iff.2 h0
  obtain ⟨bq, bo, rfl, hbq, _⟩ := hx 0 hl0
  obtain ⟨i0, hi, hz0, hz1, hz2⟩ := info_parts infoIm
  have hsz : (imsCells l).length = l.length * i0.size := by rw [hz1]; exact imsCells_len l
  have hrun := run_append_grow (P := Try.prog) w 28 28 61 i0 _ Try.underlying28 hi hz0 ⟨q, 0, none⟩ 0 0 [] (by simp) (by simp) ⟨bq, bo, none⟩ l.length c (imsCells l) hsz hx.cells (by omega) (by omega) (growslice_fits (by omega) (by rw [hz2]; omega))
  rw [Nat.zero_add] at hrun
  refine ⟨_, _, hrun, ?_, (Below.refl _ _).drew.alloc (Nat.le_refl _) _, by simp⟩
  have hb : (w.drew.alloc (.cells (([] : List Value).toArray ++ (imsCells l).toArray ++ Builtin.zeroCells (Value.agg #[.int .i64 0, .int .i64 0, .int .i64 0, .int .i64 0, .int .i64 0, .int .i64 0]).cells (grownCap w l.length 0 61 - l.length)) 61)).heap[w.heap.size]? = some (.cells (([] : List Value).toArray ++ (imsCells l).toArray ++ Builtin.zeroCells (Value.agg #[.int .i64 0, .int .i64 0, .int .i64 0, .int .i64 0, .int .i64 0, .int .i64 0]).cells (grownCap w l.length 0 61 - l.length)) 61) := obj_new w.drew _
  have hsl := ImSl.of_cells (l := l) hb (fun i hi => by
    have : i < (imsCells l).length := by rw [imsCells_len]; exact hi
    rw [Array.getElem?_append, if_pos (by simpa using this)]
    simp)
  refine ⟨fun j hj => ?_, fun i => frozen_block hb i, (Array.getElem?_eq_some_iff.1 hb).1⟩
  obtain ⟨b, o, ha, _, hxe⟩ := hsl j hj
  cases ha
  simpa using hxe
end Go.Proofs.Ytacioedolmaofaa
