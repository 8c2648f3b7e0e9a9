/- What the laws of layer 6 call of their own: spans, stars, the sample; and which borders are valid. -/
import Derived.Test.YtjkegmjjhdmkiaaE7
namespace Go.Proofs.Ytjkegmjjhdmkiaa
open Go.RowKit Go.Shelf
set_option maxHeartbeats 1600000
set_option maxRecDepth 100000
set_option linter.unusedSimpArgs false

theorem lspan_any (lo hi : Int) (w : World) : Calls Try.prog 38 #[.int .i64 lo, .int .i64 hi] w fun e w' => e = .returned (.agg #[.int .i64 lo, .int .i64 hi]) ∧ Below w.heap.size w w' := by
  go_enter Try.func38, Try.ntmps38
  go_wp2
  exact bodyPost_ret (v := .agg #[.int .i64 lo, .int .i64 hi]) (by simp [results, Try.results38, go_sem]) rfl ⟨rfl, by first | exact below_alloc _ _ | exact (below_alloc _ _).setCell (Nat.le_refl _) _⟩

def edV (x : Ed) : Value := .agg #[.int .i64 x.e.lo, .int .i64 x.e.hi, .int .i64 x.n.lo, .int .i64 x.n.hi, .int .i64 x.b.lo, .int .i64 x.b.hi, .bool x.sure]

theorem ledge_any (a b c d e f : Int) (q : Bool) (w : World) : Calls Try.prog 66 #[.int .i64 a, .int .i64 b, .int .i64 c, .int .i64 d, .int .i64 e, .int .i64 f, .bool q] w fun r w' =>
    r = .returned (.agg #[.int .i64 a, .int .i64 b, .int .i64 c, .int .i64 d, .int .i64 e, .int .i64 f, .bool q]) ∧ Below w.heap.size w w' := by
  go_enter Try.func66, Try.ntmps66
  go_wp2_with fail
  have hb0 := below_alloc w (.cells #[.int .i64 0, .int .i64 0, .int .i64 0, .int .i64 0, .int .i64 0, .int .i64 0, .bool false] 55)
  have g0 := obj_new w (.cells #[.int .i64 0, .int .i64 0, .int .i64 0, .int .i64 0, .int .i64 0, .int .i64 0, .bool false] 55)
  refine (lspan_any a b _).mono ?_
  rintro r w1 ⟨rfl, hb1⟩
  replace hb0 := hb0.trans (hb1.mono hb0.size)
  replace g0 := obj_later hb1 g0
  clear hb1
  go_wp2_with fail
  refine (lspan_any c d _).mono ?_
  rintro r w2 ⟨rfl, hb1⟩
  replace hb0 := hb0.trans (hb1.mono hb0.size)
  replace g0 := obj_later hb1 g0
  clear hb1
  go_wp2_with fail
  refine (lspan_any e f _).mono ?_
  rintro r w3 ⟨rfl, hb1⟩
  replace hb0 := hb0.trans (hb1.mono hb0.size)
  replace g0 := obj_later hb1 g0
  clear hb1
  have c0 := cell_block g0 0
  have c1 := cell_block g0 1
  have c2 := cell_block g0 2
  have c3 := cell_block g0 3
  have c4 := cell_block g0 4
  have c5 := cell_block g0 5
  have c6 := cell_block g0 6
  simp only [List.getElem?_toArray, List.getElem?_cons_zero, List.getElem?_cons_succ] at c0 c1 c2 c3 c4 c5 c6
  have fz := frozen_block g0
  have f0 := fz 0
  have f1 := fz 1
  have f2 := fz 2
  have f3 := fz 3
  have f4 := fz 4
  have f5 := fz 5
  have f6 := fz 6
  go_wp2_with fail
  have hle : ∀ k, w.heap.size ≤ (⟨w.heap.size, k, none⟩ : Addr).block := fun k => Nat.le_refl _
  refine bodyPost_ret (v := .agg #[.int .i64 a, .int .i64 b, .int .i64 c, .int .i64 d, .int .i64 e, .int .i64 f, .bool q]) (by simp [results, Try.results66, go_sem, c0, c1, c2, c3, c4, c5, c6]) rfl ⟨rfl, ?_⟩
  exact (((((((hb0.setCell (hle 0) _).setCell (hle 1) _).setCell (hle 2) _).setCell (hle 3) _).setCell (hle 4) _).setCell (hle 5) _).setCell (hle 6) _)

theorem rspan_any (s : Sp) (lo hi : Int) (w : World) :
    Calls Try.prog 63 #[.agg #[.int .i64 s.lo, .int .i64 s.hi], .int .i64 lo, .int .i64 hi] w fun e w' => e = .returned (.bool (s.ok lo hi)) ∧ Below w.heap.size w w' := by
  obtain ⟨a, b⟩ := s
  simp only [Sp.ok]
  go_enter Try.func63, Try.ntmps63
  go_wp2
  all_goals (go_ret; refine ⟨ret_bool ?_, (Below.refl _ _).alloc (Nat.le_refl _) _⟩)
  · have h1 : lo ≤ a := by assumption
    have h2 : a ≤ b := by assumption
    simp [h1, h2]
  · have h1 : b < a := by assumption
    simp; omega
  · have h1 : a < lo := by assumption
    simp; omega
end Go.Proofs.Ytjkegmjjhdmkiaa
