/- A border among the arguments, opened: spans, and slices of stars. -/
import Derived.Test.YtjkegmjjhdmkiaaBU18
import Derived.Deep.Slices
import Derived.ChangeSame
import Derived.WideShapes
namespace Go.Proofs.Ytjkegmjjhdmkiaa
open Go.RowKit Go.ChangeShapes Go.WideShapes Go.Deep
set_option maxRecDepth 100000
set_option maxHeartbeats 800000

theorem cells3 : Try.prog.cellsOf 3 = 1 := by kernel_rfl
theorem cells4 : Try.prog.cellsOf 4 = 1 := by kernel_rfl
theorem cells23 : Try.prog.cellsOf 23 = 2 := by kernel_rfl
theorem cells24 : Try.prog.cellsOf 24 = 1 := by kernel_rfl
theorem cells26 : Try.prog.cellsOf 26 = 6 := by kernel_rfl
theorem cells55 : Try.prog.cellsOf 55 = 7 := by kernel_rfl

/-- A cell that is read lies in no inner row. -/
theorem addr_plain {w : World} {a : Addr} {v : Value} (h : w.cell? a = some v) : ∃ b o, a = ⟨b, o, none⟩ := by
  obtain ⟨b, o, x⟩ := a
  cases x with
  | none => exact ⟨b, o, rfl⟩
  | some i =>
    exfalso
    unfold World.cell? at h
    split at h <;> simp at h

section
variable {H : Type} {enc : TypeId × Value → H} {w : World} {base : Nat} {spare : Nat → Bool} {held : Bool}

/-- A span's cells. -/
theorem span_cells {fuel : Nat} {cs : List Value} {x : DataW H × List MemPlace} (h : DataW.trod enc Try.prog w base spare held fuel 23 cs = some x) : ∃ lo hi : Int, cs = [.int .i64 lo, .int .i64 hi] := by
  obtain ⟨ys, n, _, _, hlen, hyl, hf⟩ := DataW.trod_struct Try.underlying23 h
  rw [cells23] at hlen
  match cs, hlen with
  | [c0, c1], _ =>
    have h0 := hf 0 _ rfl
    have h1 := hf 1 _ rfl
    change DataW.trod enc Try.prog w base spare held n 3 (List.take (Try.prog.cellsOf 3) (List.drop 0 [c0, c1])) = _ at h0
    change DataW.trod enc Try.prog w base spare held n 3 (List.take (Try.prog.cellsOf 3) (List.drop 1 [c0, c1])) = _ at h1
    simp only [cells3, List.drop_zero, List.take_succ_cons, List.take_zero, List.drop_succ_cons] at h0 h1
    have e0 : ys[0]? = some (ys[0]'(by rw [hyl]; decide)) := List.getElem?_eq_getElem _
    have e1 : ys[1]? = some (ys[1]'(by rw [hyl]; decide)) := List.getElem?_eq_getElem _
    rw [e0] at h0
    rw [e1] at h1
    obtain ⟨a, ha, _⟩ := DataW.trod_int Try.underlying3 h0
    obtain ⟨b, hb, _⟩ := DataW.trod_int Try.underlying3 h1
    simp at ha hb
    exact ⟨a, b, by rw [ha, hb]⟩

/-- A star's cells. -/
theorem edge_cells {fuel : Nat} {cs : List Value} {x : DataW H × List MemPlace} (h : DataW.trod enc Try.prog w base spare held fuel 55 cs = some x) : ∃ y : Ed, cs = [.int .i64 y.e.lo, .int .i64 y.e.hi, .int .i64 y.n.lo, .int .i64 y.n.hi, .int .i64 y.b.lo, .int .i64 y.b.hi, .bool y.sure] := by
  obtain ⟨ys, n, _, _, hlen, hyl, hf⟩ := DataW.trod_struct Try.underlying55 h
  rw [cells55] at hlen
  match cs, hlen with
  | [c0, c1, c2, c3, c4, c5, c6], _ =>
    have h0 := hf 0 _ rfl
    have h1 := hf 1 _ rfl
    have h2 := hf 2 _ rfl
    have h3 := hf 3 _ rfl
    change DataW.trod enc Try.prog w base spare held n 23 (List.take (Try.prog.cellsOf 23) (List.drop 0 [c0, c1, c2, c3, c4, c5, c6])) = _ at h0
    change DataW.trod enc Try.prog w base spare held n 23 (List.take (Try.prog.cellsOf 23) (List.drop 2 [c0, c1, c2, c3, c4, c5, c6])) = _ at h1
    change DataW.trod enc Try.prog w base spare held n 23 (List.take (Try.prog.cellsOf 23) (List.drop 4 [c0, c1, c2, c3, c4, c5, c6])) = _ at h2
    change DataW.trod enc Try.prog w base spare held n 4 (List.take (Try.prog.cellsOf 4) (List.drop 6 [c0, c1, c2, c3, c4, c5, c6])) = _ at h3
    simp only [cells23, cells4, List.drop_zero, List.take_succ_cons, List.take_zero, List.drop_succ_cons] at h0 h1 h2 h3
    rw [List.getElem?_eq_getElem (by rw [hyl]; decide)] at h0 h1 h2 h3
    obtain ⟨a0, a1, ha⟩ := span_cells h0
    obtain ⟨b0, b1, hb⟩ := span_cells h1
    obtain ⟨d0, d1, hd⟩ := span_cells h2
    obtain ⟨q, hq, _⟩ := DataW.trod_bool Try.underlying4 h3
    simp at ha hb hd hq
    exact ⟨⟨⟨a0, a1⟩, ⟨b0, b1⟩, ⟨d0, d1⟩, q⟩, by simp [ha, hb, hd, hq]⟩

/-- A slice of stars. -/
theorem edges_cells {fuel : Nat} {cs : List Value} {x : DataW H × List MemPlace} (h : DataW.trod enc Try.prog w base spare held fuel 24 cs = some x) : ∃ (a : Option Addr) (l : List Ed) (cap : Nat), cs = [.slice a l.length cap] ∧ EdSl w a l := by
  rcases open_slice Try.underlying24 h with ⟨hcs, _⟩ | ⟨a, len, cap, m, n, D, Pl, hcs, _, hl, _, hm, _, hi⟩
  · exact ⟨none, [], 0, hcs, EdSl.nil _ _⟩
  · have hlm : len ≤ m := by rw [hm]; split <;> omega
    rw [cells55] at hi
    have hpl : 0 < len → ∃ b o, a = ⟨b, o, none⟩ := fun h0 => by
      obtain ⟨cs', hc, ht⟩ := hi 0 (by omega)
      obtain ⟨_, hlen, hcell⟩ := World.cells?_some hc
      obtain ⟨y, rfl⟩ := edge_cells ht
      have h1 := hcell 0 (by omega)
      have e : (a.add (0 * 7)).add 0 = a := by rw [add_add]; simp [Addr.add]
      rw [e] at h1
      exact addr_plain (h1.trans rfl)
    have hx : ∀ i, i < len → ∃ y : Ed, ∃ b o, a.add (i * 7) = a.add (i * 7) ∧ a = ⟨b, o, none⟩ ∧ b < w.heap.size ∧ EdAt w b (o + i * 7) y := fun i hil => by
      obtain ⟨cs', hc, ht⟩ := hi i (by omega)
      obtain ⟨_, hlen, hcell⟩ := World.cells?_some hc
      obtain ⟨y, rfl⟩ := edge_cells ht
      have k : ∀ j, j < 7 → w.cell? (a.add (i * 7 + j)) = ([Value.int .i64 y.e.lo, .int .i64 y.e.hi, .int .i64 y.n.lo, .int .i64 y.n.hi, .int .i64 y.b.lo, .int .i64 y.b.hi, .bool y.sure] : List Value)[j]? := fun j hj => by
        rw [← add_add]; exact hcell j hj
      obtain ⟨b, o, ha⟩ := hpl (by omega)
      subst ha
      have hadd : ∀ j, ((⟨b, o, none⟩ : Addr).add j) = ⟨b, o + j, none⟩ := fun j => by unfold Addr.add; split <;> simp_all
      have k' : ∀ j, j < 7 → w.cell? ⟨b, o + i * 7 + j, none⟩ = ([Value.int .i64 y.e.lo, .int .i64 y.e.hi, .int .i64 y.n.lo, .int .i64 y.n.hi, .int .i64 y.b.lo, .int .i64 y.b.hi, .bool y.sure] : List Value)[j]? := fun j hj => by
        have := k j hj
        rw [hadd, ← Nat.add_assoc] at this
        exact this
      exact ⟨y, b, o, rfl, rfl, World.block_lt_of_cell? w _ (k' 0 (by omega)), ⟨k' 0 (by omega), k' 1 (by omega), k' 2 (by omega), k' 3 (by omega), k' 4 (by omega), k' 5 (by omega), k' 6 (by omega)⟩⟩
    have hch : ∃ l : List Ed, l.length = len ∧ ∀ i (hi : i < l.length), ∃ b o, a = ⟨b, o, none⟩ ∧ b < w.heap.size ∧ EdAt w b (o + i * 7) l[i] := by
      have : ∀ n, n ≤ len → ∃ l : List Ed, l.length = n ∧ ∀ i (hi : i < l.length), ∃ b o, a = ⟨b, o, none⟩ ∧ b < w.heap.size ∧ EdAt w b (o + i * 7) l[i] := by
        intro n
        induction n with
        | zero => exact fun _ => ⟨[], rfl, fun i hi => absurd hi (Nat.not_lt_zero _)⟩
        | succ n ih =>
          intro hn
          obtain ⟨l, hl, hall⟩ := ih (by omega)
          obtain ⟨y, b, o, _, hab, hbl, hy⟩ := hx n (by omega)
          refine ⟨l ++ [y], by simp [hl], fun i hi => ?_⟩
          by_cases h : i < l.length
          · rw [List.getElem_append_left h]; exact hall i h
          · have : i = n := by simp at hi; omega
            subst this
            rw [List.getElem_append_right (by omega)]
            exact ⟨b, o, hab, hbl, by simpa using hy⟩
      exact this len (Nat.le_refl _)
    obtain ⟨l, hll, hall⟩ := hch
    refine ⟨some a, l, cap, by rw [hcs, hll], fun i hi => ?_⟩
    obtain ⟨b, o, rfl, h1, h2⟩ := hall i hi
    exact ⟨b, o, rfl, h1, h2⟩

/-- A border by value. -/
theorem border_open {r : Reach} {b0 : Nat} {v : Value} {d : DataW H} {p : List MemPlace} (hv : Value.okWide Try.prog w r b0 26 v) (h : DataW.Trod enc Try.prog w base spare held 26 v d p) :
    ∃ (b : Bo) (fa sa : Option Addr) (fc sc : Nat), v = .agg #[.int .i64 b.e.lo, .int .i64 b.e.hi, .int .i64 b.n.lo, .int .i64 b.n.hi, .slice fa b.fs.length fc, .slice sa b.ss.length sc] ∧ BoArg0 w b fa sa := by
  obtain ⟨cs, rfl, hsz⟩ := okWide_struct Try.underlying26 hv
  rw [cells26] at hsz
  obtain ⟨l⟩ := cs
  obtain ⟨fuel, hf⟩ := h
  obtain ⟨ys, n, _, _, hlen, hyl, hg⟩ := DataW.trod_struct Try.underlying26 hf
  match l, hsz with
  | [c0, c1, c2, c3, c4, c5], _ =>
    have h0 := hg 0 _ rfl
    have h1 := hg 1 _ rfl
    have h2 := hg 2 _ rfl
    have h3 := hg 3 _ rfl
    change DataW.trod enc Try.prog w base spare held n 23 (List.take (Try.prog.cellsOf 23) (List.drop 0 [c0, c1, c2, c3, c4, c5])) = _ at h0
    change DataW.trod enc Try.prog w base spare held n 23 (List.take (Try.prog.cellsOf 23) (List.drop 2 [c0, c1, c2, c3, c4, c5])) = _ at h1
    change DataW.trod enc Try.prog w base spare held n 24 (List.take (Try.prog.cellsOf 24) (List.drop 4 [c0, c1, c2, c3, c4, c5])) = _ at h2
    change DataW.trod enc Try.prog w base spare held n 24 (List.take (Try.prog.cellsOf 24) (List.drop 5 [c0, c1, c2, c3, c4, c5])) = _ at h3
    simp only [cells23, cells24, List.drop_zero, List.take_succ_cons, List.take_zero, List.drop_succ_cons] at h0 h1 h2 h3
    rw [List.getElem?_eq_getElem (by rw [hyl]; decide)] at h0 h1 h2 h3
    obtain ⟨a0, a1, ha⟩ := span_cells h0
    obtain ⟨b0', b1', hb⟩ := span_cells h1
    obtain ⟨fa, fl, fc, hfs, hfe⟩ := edges_cells h2
    obtain ⟨sa, sl, sc, hss, hse⟩ := edges_cells h3
    simp at ha hb hfs hss
    exact ⟨⟨⟨a0, a1⟩, ⟨b0', b1'⟩, fl, sl⟩, fa, sa, fc, sc, by simp [ha, hb, hfs, hss], ⟨hfe, hse⟩⟩
end
end Go.Proofs.Ytjkegmjjhdmkiaa
