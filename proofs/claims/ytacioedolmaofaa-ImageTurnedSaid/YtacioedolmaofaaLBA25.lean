/- A sheet, and a trail, among the arguments, opened. -/
import Derived.Test.YtacioedolmaofaaLBA24
import Derived.Deep.Slices
import Derived.ChangeSame
import Derived.WideShapes
import Derived.OpenShut
namespace Go.Proofs.Ytacioedolmaofaa
open Go.RowKit Go.ChangeShapes Go.WideShapes Go.Deep
set_option maxRecDepth 100000
set_option maxHeartbeats 800000

theorem icellsInt : Try.prog.cellsOf 3 = 1 := by kernel_rfl
theorem icellsSpan : Try.prog.cellsOf 23 = 2 := by kernel_rfl
theorem icellsStep : Try.prog.cellsOf 25 = 4 := by kernel_rfl
theorem icellsSteps : Try.prog.cellsOf 26 = 8 := by kernel_rfl
theorem icellsSpans : Try.prog.cellsOf 27 = 4 := by kernel_rfl
theorem icellsSpot : Try.prog.cellsOf 61 = 6 := by kernel_rfl
theorem icellsSpots : Try.prog.cellsOf 28 = 1 := by kernel_rfl
theorem icellsSheet : Try.prog.cellsOf 30 = 15 := by kernel_rfl
theorem icellsTrail : Try.prog.cellsOf 32 = 3 := by kernel_rfl

/-- A cell that is read lies in no inner row. -/
theorem iaddr_plain {w : World} {a : Addr} {v : Value} (h : w.cell? a = some v) : ∃ b o, a = ⟨b, o, none⟩ := by
  obtain ⟨b, o, x⟩ := a
  cases x with
  | none => exact ⟨b, o, rfl⟩
  | some i =>
    exfalso
    unfold World.cell? at h
    split at h <;> simp at h

section
variable {H : Type} {enc : TypeId × Value → H} {w : World} {base : Nat} {spare : Nat → Bool} {held : Bool}

/-- A span's cells. -/
theorem ispan_cells {fuel : Nat} {cs : List Value} {x : DataW H × List MemPlace} (h : DataW.trod enc Try.prog w base spare held fuel 23 cs = some x) : ∃ s : Sp, cs = [.int .i64 s.lo, .int .i64 s.hi] := by
  obtain ⟨ys, n, _, _, hlen, hyl, hf⟩ := DataW.trod_struct Try.underlying23 h
  rw [icellsSpan] at hlen
  match cs, hlen with
  | [c0, c1], _ =>
    have h0 := hf 0 _ rfl
    have h1 := hf 1 _ rfl
    change DataW.trod enc Try.prog w base spare held n 3 (List.take (Try.prog.cellsOf 3) (List.drop 0 [c0, c1])) = _ at h0
    change DataW.trod enc Try.prog w base spare held n 3 (List.take (Try.prog.cellsOf 3) (List.drop 1 [c0, c1])) = _ at h1
    simp only [icellsInt, List.drop_zero, List.take_succ_cons, List.take_zero, List.drop_succ_cons] at h0 h1
    rw [List.getElem?_eq_getElem (by rw [hyl]; decide)] at h0 h1
    obtain ⟨a, ha, _⟩ := DataW.trod_int Try.underlying3 h0
    obtain ⟨b, hb, _⟩ := DataW.trod_int Try.underlying3 h1
    simp at ha hb
    exact ⟨⟨a, b⟩, by rw [ha, hb]⟩
theorem istep_cells {fuel : Nat} {cs : List Value} {x : DataW H × List MemPlace} (h : DataW.trod enc Try.prog w base spare held fuel 25 cs = some x) : ∃ s u : Sp, cs = [.int .i64 s.lo, .int .i64 s.hi, .int .i64 u.lo, .int .i64 u.hi] := by
  obtain ⟨ys, n, _, _, hlen, hyl, hf⟩ := DataW.trod_struct Try.underlying25 h
  rw [icellsStep] at hlen
  match cs, hlen with
  | [c0, c1, c2, c3], _ =>
    have h0 := hf 0 _ rfl
    have h1 := hf 1 _ rfl
    change DataW.trod enc Try.prog w base spare held n 23 (List.take (Try.prog.cellsOf 23) (List.drop 0 [c0, c1, c2, c3])) = _ at h0
    change DataW.trod enc Try.prog w base spare held n 23 (List.take (Try.prog.cellsOf 23) (List.drop 2 [c0, c1, c2, c3])) = _ at h1
    simp only [icellsSpan, List.drop_zero, List.take_succ_cons, List.take_zero, List.drop_succ_cons] at h0 h1
    rw [List.getElem?_eq_getElem (by rw [hyl]; decide)] at h0 h1
    obtain ⟨a, ha⟩ := ispan_cells h0
    obtain ⟨b, hb⟩ := ispan_cells h1
    simp at ha hb
    exact ⟨a, b, by simp [ha, hb]⟩
theorem isteps_cells {fuel : Nat} {cs : List Value} {x : DataW H × List MemPlace} (h : DataW.trod enc Try.prog w base spare held fuel 26 cs = some x) : ∃ s u v z : Sp, cs = [.int .i64 s.lo, .int .i64 s.hi, .int .i64 u.lo, .int .i64 u.hi, .int .i64 v.lo, .int .i64 v.hi, .int .i64 z.lo, .int .i64 z.hi] := by
  obtain ⟨ys, n, _, _, hlen, hyl, hf⟩ := DataW.trod_array Try.underlying26 h
  rw [icellsSteps] at hlen
  rw [icellsStep] at hf
  match cs, hlen with
  | [c0, c1, c2, c3, c4, c5, c6, c7], _ =>
    have h0 := hf 0 (by omega)
    have h1 := hf 1 (by omega)
    rw [List.getElem?_eq_getElem (by rw [hyl]; decide)] at h0 h1
    simp only [Nat.zero_mul, Nat.one_mul, List.drop_zero, List.take_succ_cons, List.take_zero, List.drop_succ_cons] at h0 h1
    obtain ⟨a, a', ha⟩ := istep_cells h0
    obtain ⟨b, b', hb⟩ := istep_cells h1
    simp at ha hb
    exact ⟨a, a', b, b', by simp [ha, hb]⟩
theorem ispans_cells {fuel : Nat} {cs : List Value} {x : DataW H × List MemPlace} (h : DataW.trod enc Try.prog w base spare held fuel 27 cs = some x) : ∃ s u : Sp, cs = [.int .i64 s.lo, .int .i64 s.hi, .int .i64 u.lo, .int .i64 u.hi] := by
  obtain ⟨ys, n, _, _, hlen, hyl, hf⟩ := DataW.trod_array Try.underlying27 h
  rw [icellsSpans] at hlen
  rw [icellsSpan] at hf
  match cs, hlen with
  | [c0, c1, c2, c3], _ =>
    have h0 := hf 0 (by omega)
    have h1 := hf 1 (by omega)
    rw [List.getElem?_eq_getElem (by rw [hyl]; decide)] at h0 h1
    simp only [Nat.zero_mul, Nat.one_mul, List.drop_zero, List.take_succ_cons, List.take_zero, List.drop_succ_cons] at h0 h1
    obtain ⟨a, ha⟩ := ispan_cells h0
    obtain ⟨b, hb⟩ := ispan_cells h1
    simp at ha hb
    exact ⟨a, b, by simp [ha, hb]⟩

/-- An image's cells. -/
theorem ispot_cells {fuel : Nat} {cs : List Value} {x : DataW H × List MemPlace} (h : DataW.trod enc Try.prog w base spare held fuel 61 cs = some x) : ∃ y : ISpot, cs = imCells y := by
  obtain ⟨ys, n, _, _, hlen, hyl, hf⟩ := DataW.trod_struct Try.underlying61 h
  rw [icellsSpot] at hlen
  match cs, hlen with
  | [c0, c1, c2, c3, c4, c5], _ =>
    have h0 := hf 0 _ rfl
    have h1 := hf 1 _ rfl
    have h2 := hf 2 _ rfl
    change DataW.trod enc Try.prog w base spare held n 23 (List.take (Try.prog.cellsOf 23) (List.drop 0 [c0, c1, c2, c3, c4, c5])) = _ at h0
    change DataW.trod enc Try.prog w base spare held n 23 (List.take (Try.prog.cellsOf 23) (List.drop 2 [c0, c1, c2, c3, c4, c5])) = _ at h1
    change DataW.trod enc Try.prog w base spare held n 23 (List.take (Try.prog.cellsOf 23) (List.drop 4 [c0, c1, c2, c3, c4, c5])) = _ at h2
    simp only [icellsSpan, List.drop_zero, List.take_succ_cons, List.take_zero, List.drop_succ_cons] at h0 h1 h2
    rw [List.getElem?_eq_getElem (by rw [hyl]; decide)] at h0 h1 h2
    obtain ⟨a, ha⟩ := ispan_cells h0
    obtain ⟨b, hb⟩ := ispan_cells h1
    obtain ⟨c, hc⟩ := ispan_cells h2
    simp at ha hb hc
    exact ⟨⟨a, b, c⟩, by simp [ha, hb, hc, imCells]⟩

/-- A slice of images. -/
theorem ispots_cells {fuel : Nat} {cs : List Value} {x : DataW H × List MemPlace} (h : DataW.trod enc Try.prog w base spare held fuel 28 cs = some x) : ∃ (a : Option Addr) (l : List ISpot) (cap : Nat), cs = [.slice a l.length cap] ∧ ImSl w a l := by
  rcases open_slice Try.underlying28 h with ⟨hcs, _⟩ | ⟨a, len, cap, m, n, D, Pl, hcs, _, hl, _, hm, _, hi⟩
  · exact ⟨none, [], 0, hcs, ImSl.nil _ _⟩
  · have hlm : len ≤ m := by rw [hm]; split <;> omega
    rw [icellsSpot] at hi
    have hpl : 0 < len → ∃ b o, a = ⟨b, o, none⟩ := fun h0 => by
      obtain ⟨cs', hc, ht⟩ := hi 0 (by omega)
      obtain ⟨_, hlen, hcell⟩ := World.cells?_some hc
      obtain ⟨y, rfl⟩ := ispot_cells ht
      have h1 := hcell 0 (by omega)
      have e : (a.add (0 * 6)).add 0 = a := by rw [add_add]; simp [Addr.add]
      rw [e] at h1
      exact iaddr_plain (h1.trans rfl)
    have hx : ∀ i, i < len → ∃ y : ISpot, ∃ b o, a = ⟨b, o, none⟩ ∧ b < w.heap.size ∧ ImAt w b (o + i * 6) y := fun i hil => by
      obtain ⟨cs', hc, ht⟩ := hi i (by omega)
      obtain ⟨_, hlen, hcell⟩ := World.cells?_some hc
      obtain ⟨y, rfl⟩ := ispot_cells ht
      have k : ∀ j, j < 6 → w.cell? (a.add (i * 6 + j)) = (imCells y)[j]? := fun j hj => by
        rw [← add_add]; exact hcell j hj
      obtain ⟨b, o, ha⟩ := hpl (by omega)
      subst ha
      have hadd : ∀ j, ((⟨b, o, none⟩ : Addr).add j) = ⟨b, o + j, none⟩ := fun j => by unfold Addr.add; split <;> simp_all
      have k' : ∀ j, j < 6 → w.cell? ⟨b, o + i * 6 + j, none⟩ = (imCells y)[j]? := fun j hj => by
        have := k j hj
        rw [hadd, ← Nat.add_assoc] at this
        exact this
      exact ⟨y, b, o, rfl, World.block_lt_of_cell? w _ (k' 0 (by omega)), ⟨k' 0 (by omega), k' 1 (by omega), k' 2 (by omega), k' 3 (by omega), k' 4 (by omega), k' 5 (by omega)⟩⟩
    have hch : ∃ l : List ISpot, l.length = len ∧ ∀ i (hi : i < l.length), ∃ b o, a = ⟨b, o, none⟩ ∧ b < w.heap.size ∧ ImAt w b (o + i * 6) l[i] := by
      have : ∀ n, n ≤ len → ∃ l : List ISpot, l.length = n ∧ ∀ i (hi : i < l.length), ∃ b o, a = ⟨b, o, none⟩ ∧ b < w.heap.size ∧ ImAt w b (o + i * 6) l[i] := by
        intro n
        induction n with
        | zero => exact fun _ => ⟨[], rfl, fun i hi => absurd hi (Nat.not_lt_zero _)⟩
        | succ n ih =>
          intro hn
          obtain ⟨l, hl, hall⟩ := ih (by omega)
          obtain ⟨y, b, o, hab, hbl, hy⟩ := hx n (by omega)
          refine ⟨l ++ [y], by simp [hl], fun i hi => ?_⟩
          by_cases h : i < l.length
          · rw [List.getElem_append_left h]; exact hall i h
          · have : i = n := by simp at hi; omega
            subst this
            rw [List.getElem_append_right (by omega)]
            exact ⟨b, o, hab, hbl, by simpa using hy⟩
      exact this len (Nat.le_refl _)
    obtain ⟨l, hll, hall⟩ := hch
    refine ⟨some a, l, cap, by rw [hcs, hll], fun i hi => ?_⟩
    obtain ⟨b, o, rfl, h1, h2⟩ := hall i hi
    exact ⟨b, o, rfl, h1, h2⟩

/-- A sheet by value. -/
theorem isheet_open {r : Reach} {b0 : Nat} {v : Value} {d : DataW H} {p : List MemPlace} (hv : Value.okWide Try.prog w r b0 30 v) (h : DataW.Trod enc Try.prog w base spare held 30 v d p) :
    ∃ (s : ISheet) (fa : Option Addr) (fc : Nat), v = .agg #[.int .i64 s.ax.lo, .int .i64 s.ax.hi, .int .i64 s.ay.lo, .int .i64 s.ay.hi, .int .i64 s.bx.lo, .int .i64 s.bx.hi, .int .i64 s.by'.lo, .int .i64 s.by'.hi, .int .i64 s.f.lo, .int .i64 s.f.hi, .int .i64 s.g.lo, .int .i64 s.g.hi, .int .i64 s.limit, .int .i64 s.flaws, .slice fa s.l.length fc] ∧ ImSl w fa s.l := by
  obtain ⟨cs, rfl, hsz⟩ := okWide_struct Try.underlying30 hv
  rw [icellsSheet] at hsz
  obtain ⟨l⟩ := cs
  obtain ⟨fuel, hf⟩ := h
  obtain ⟨ys, n, _, _, hlen, hyl, hg⟩ := DataW.trod_struct Try.underlying30 hf
  match l, hsz with
  | [c0, c1, c2, c3, c4, c5, c6, c7, c8, c9, c10, c11, c12, c13, c14], _ =>
    have h0 := hg 0 _ rfl
    have h1 := hg 1 _ rfl
    have h2 := hg 2 _ rfl
    have h3 := hg 3 _ rfl
    have h4 := hg 4 _ rfl
    change DataW.trod enc Try.prog w base spare held n 26 (List.take (Try.prog.cellsOf 26) (List.drop 0 [c0, c1, c2, c3, c4, c5, c6, c7, c8, c9, c10, c11, c12, c13, c14])) = _ at h0
    change DataW.trod enc Try.prog w base spare held n 27 (List.take (Try.prog.cellsOf 27) (List.drop 8 [c0, c1, c2, c3, c4, c5, c6, c7, c8, c9, c10, c11, c12, c13, c14])) = _ at h1
    change DataW.trod enc Try.prog w base spare held n 3 (List.take (Try.prog.cellsOf 3) (List.drop 12 [c0, c1, c2, c3, c4, c5, c6, c7, c8, c9, c10, c11, c12, c13, c14])) = _ at h2
    change DataW.trod enc Try.prog w base spare held n 3 (List.take (Try.prog.cellsOf 3) (List.drop 13 [c0, c1, c2, c3, c4, c5, c6, c7, c8, c9, c10, c11, c12, c13, c14])) = _ at h3
    change DataW.trod enc Try.prog w base spare held n 28 (List.take (Try.prog.cellsOf 28) (List.drop 14 [c0, c1, c2, c3, c4, c5, c6, c7, c8, c9, c10, c11, c12, c13, c14])) = _ at h4
    simp only [icellsSteps, icellsSpans, icellsInt, icellsSpots, List.drop_zero, List.take_succ_cons, List.take_zero, List.drop_succ_cons] at h0 h1 h2 h3 h4
    rw [List.getElem?_eq_getElem (by rw [hyl]; decide)] at h0 h1 h2 h3 h4
    obtain ⟨a0, a1, a2, a3, ha⟩ := isteps_cells h0
    obtain ⟨b0, b1, hb⟩ := ispans_cells h1
    obtain ⟨m, hm, _⟩ := DataW.trod_int Try.underlying3 h2
    obtain ⟨k, hk, _⟩ := DataW.trod_int Try.underlying3 h3
    obtain ⟨fa, fl, fc, hfs, hfe⟩ := ispots_cells h4
    simp at ha hb hm hk hfs
    exact ⟨⟨a0, a1, a2, a3, b0, b1, m, k, fl⟩, fa, fc, by simp [ha, hb, hm, hk, hfs], hfe⟩

/-- A trail by value. -/
theorem itrail_open {r : Reach} {b0 : Nat} {v : Value} {d : DataW H} {p : List MemPlace} (hv : Value.okWide Try.prog w r b0 32 v) (h : DataW.Trod enc Try.prog w base spare held 32 v d p) :
    ∃ t : ITr, v = .agg #[.int .i64 t.a, .int .i64 t.b, .int .i64 t.c] := by
  simp only [Value.okWide, Try.underlying32] at hv
  obtain ⟨cs, rfl, hsz, _⟩ := hv
  rw [icellsTrail] at hsz
  obtain ⟨l⟩ := cs
  obtain ⟨fuel, hf⟩ := h
  obtain ⟨ys, n, _, _, hlen, hyl, hg⟩ := DataW.trod_array Try.underlying32 hf
  rw [icellsInt] at hg
  match l, hsz with
  | [c0, c1, c2], _ =>
    have h0 := hg 0 (by omega)
    have h1 := hg 1 (by omega)
    have h2 := hg 2 (by omega)
    rw [List.getElem?_eq_getElem (by rw [hyl]; decide)] at h0 h1 h2
    simp only [Value.cells, Nat.zero_mul, Nat.one_mul, Nat.reduceMul, List.drop_zero, List.take_succ_cons, List.take_zero, List.drop_succ_cons] at h0 h1 h2
    obtain ⟨a, ha, _⟩ := DataW.trod_int Try.underlying3 h0
    obtain ⟨b, hb, _⟩ := DataW.trod_int Try.underlying3 h1
    obtain ⟨c, hc, _⟩ := DataW.trod_int Try.underlying3 h2
    simp at ha hb hc
    exact ⟨⟨a, b, c⟩, by simp [ha, hb, hc]⟩
end
end Go.Proofs.Ytacioedolmaofaa
