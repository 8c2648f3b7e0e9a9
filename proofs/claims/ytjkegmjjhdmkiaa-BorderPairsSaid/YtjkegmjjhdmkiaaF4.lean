/- The sample of the laws of layer 6; lists of numbers. -/
import Derived.Test.YtjkegmjjhdmkiaaF3
namespace Go.Proofs.Ytjkegmjjhdmkiaa
open Go.RowKit Go.Shelf
set_option maxHeartbeats 1600000
set_option maxRecDepth 100000
set_option linter.unusedSimpArgs false

def smp : Bo := ⟨⟨-5, 5⟩, ⟨-5, 5⟩, [⟨⟨100, 101⟩, ⟨50, 50⟩, ⟨500, 520⟩, true⟩, ⟨⟨200, 201⟩, ⟨60, 61⟩, ⟨300, 310⟩, true⟩, ⟨⟨300, 300⟩, ⟨40, 40⟩, ⟨800, 810⟩, false⟩],
  [⟨⟨98, 99⟩, ⟨51, 52⟩, ⟨510, 530⟩, true⟩, ⟨⟨198, 198⟩, ⟨62, 62⟩, ⟨305, 315⟩, false⟩, ⟨⟨250, 250⟩, ⟨10, 10⟩, ⟨100, 120⟩, false⟩]⟩
/-- The sample, its third star Sure too. -/
def smp' : Bo := { smp with fs := [⟨⟨100, 101⟩, ⟨50, 50⟩, ⟨500, 520⟩, true⟩, ⟨⟨200, 201⟩, ⟨60, 61⟩, ⟨300, 310⟩, true⟩, ⟨⟨300, 300⟩, ⟨40, 40⟩, ⟨800, 810⟩, true⟩] }

def edCells (x : Ed) : List Value := [.int .i64 x.e.lo, .int .i64 x.e.hi, .int .i64 x.n.lo, .int .i64 x.n.hi, .int .i64 x.b.lo, .int .i64 x.b.hi, .bool x.sure]
def edsCells (l : List Ed) : List Value := l.flatMap edCells
theorem edsCells_len (l : List Ed) : (edsCells l).length = l.length * 7 := by
  induction l with
  | nil => rfl
  | cons x l ih => unfold edsCells at *; rw [List.flatMap_cons, List.length_append, ih]; simp [edCells]; omega
theorem edsCells_get : ∀ (l : List Ed) (k j : Nat) (h : k < l.length) (_ : j < 7), (edsCells l)[k * 7 + j]? = (edCells l[k])[j]?
  | x :: l, 0, j, _, hj => by
    unfold edsCells
    rw [List.flatMap_cons, List.getElem?_append_left (by simp [edCells]; omega)]
    simp
  | x :: l, k + 1, j, h, hj => by
    have ih := edsCells_get l k j (by simpa using h) hj
    unfold edsCells at *
    rw [List.flatMap_cons, List.getElem?_append_right (by simp [edCells]; omega)]
    have e : (k + 1) * 7 + j - (edCells x).length = k * 7 + j := by simp [edCells]; omega
    rw [e, ih]
    rfl
theorem EdSl.of_block {w : World} {q c : Nat} {l : List Ed} {T : TypeId} {fz : Nat × Nat} {cs : Array Value} (h : w.heap[q]? = some (.cells cs T fz)) (hc : ∀ i, i < l.length * 7 → cs[i]? = (edsCells l)[i]?) (_ : c = c) : EdSl w (some ⟨q, 0, none⟩) l := fun k hk => by
  have hlt := (Array.getElem?_eq_some_iff.1 h).1
  have hj : ∀ j, j < 7 → w.cell? ⟨q, 0 + k * 7 + j, none⟩ = (edCells l[k])[j]? := fun j hj => by
    rw [cell_block h, hc _ (by omega), Nat.zero_add]
    exact edsCells_get l k j hk hj
  exact ⟨q, 0, rfl, hlt, hj 0 (by omega), hj 1 (by omega), hj 2 (by omega), hj 3 (by omega), hj 4 (by omega), hj 5 (by omega), hj 6 (by omega)⟩

/-- How the sample is returned. -/
def SamplePost (w : World) (e : Ending) (w' : World) : Prop :=
  ∃ q1 q2, e = .returned (.agg #[.int .i64 (-5), .int .i64 5, .int .i64 (-5), .int .i64 5, .slice (some ⟨q1, 0, none⟩) 3 3, .slice (some ⟨q2, 0, none⟩) 3 3]) ∧
    w'.heap[q1]? = some (.cells (edsCells smp.fs).toArray 55) ∧ w'.heap[q2]? = some (.cells (edsCells smp.ss).toArray 55) ∧ w.heap.size ≤ q1 ∧ w.heap.size ≤ q2 ∧ q1 ≠ q2 ∧ Below w.heap.size w w'

theorem sample_any (w : World) : Calls Try.prog 39 #[] w (SamplePost w) := by
  go_enter Try.func39, Try.ntmps39
  go_wp2_with fail
  obtain ⟨W0, hW0⟩ : ∃ W, (w.alloc (.cells #[.int .i64 0, .int .i64 0, .int .i64 0, .int .i64 0, .slice none 0 0, .slice none 0 0] 26)) = W := ⟨_, rfl⟩
  rw [hW0]
  try simp only [Nat.add_assoc, Nat.reduceAdd]
  have hst_W0 : Steps (fun _ => False) w W0 := by rw [← hW0]; exact Steps.alloc _ w _
  have hz_W0 : W0.heap.size = w.heap.size + 1 := by rw [← hW0]; simp
  have g0_W0 : W0.heap[w.heap.size]? = some (.cells #[.int .i64 0, .int .i64 0, .int .i64 0, .int .i64 0, .slice none 0 0, .slice none 0 0] 26) := by rw [← hW0]; simp only [alloc_get, World.size_alloc]; repeat (first | exact if_pos trivial | exact if_pos (by omega) | rw [if_neg (by omega)])
  clear hW0
  have hb0 : Below w.heap.size w W0 := hst_W0.below (Nat.le_refl _) (fun _ _ h => h)
  refine (ledge_any _ _ _ _ _ _ _ _).mono ?_
  rintro r w1 ⟨rfl, hb1⟩
  have g1 := obj_later hb1 g0_W0
  replace hb0 := hb0.trans (hb1.mono hb0.size)
  clear hb1 g0_W0
  go_wp2_with fail
  refine (ledge_any _ _ _ _ _ _ _ _).mono ?_
  rintro r w2 ⟨rfl, hb1⟩
  have g2 := obj_later hb1 g1
  replace hb0 := hb0.trans (hb1.mono hb0.size)
  clear hb1 g1
  go_wp2_with fail
  refine (ledge_any _ _ _ _ _ _ _ _).mono ?_
  rintro r w3 ⟨rfl, hb1⟩
  have g3 := obj_later hb1 g2
  replace hb0 := hb0.trans (hb1.mono hb0.size)
  clear hb1 g2
  go_wp2_with fail
  obtain ⟨W3, hW3⟩ : ∃ W, (w3.alloc (.cells #[.int .i64 100, .int .i64 101, .int .i64 50, .int .i64 50, .int .i64 500, .int .i64 520, .bool true, .int .i64 200, .int .i64 201, .int .i64 60, .int .i64 61, .int .i64 300, .int .i64 310, .bool true, .int .i64 300, .int .i64 300, .int .i64 40, .int .i64 40, .int .i64 800, .int .i64 810, .bool false] 55)) = W := ⟨_, rfl⟩
  rw [hW3]
  try simp only [Nat.add_assoc, Nat.reduceAdd]
  have hst_W3 : Steps (fun _ => False) w3 W3 := by rw [← hW3]; exact Steps.alloc _ w3 _
  have hz_W3 : W3.heap.size = w3.heap.size + 1 := by rw [← hW3]; simp
  have g0_W3 : W3.heap[w3.heap.size]? = some (.cells #[.int .i64 100, .int .i64 101, .int .i64 50, .int .i64 50, .int .i64 500, .int .i64 520, .bool true, .int .i64 200, .int .i64 201, .int .i64 60, .int .i64 61, .int .i64 300, .int .i64 310, .bool true, .int .i64 300, .int .i64 300, .int .i64 40, .int .i64 40, .int .i64 800, .int .i64 810, .bool false] 55) := by rw [← hW3]; simp only [alloc_get, World.size_alloc]; repeat (first | exact if_pos trivial | exact if_pos (by omega) | rw [if_neg (by omega)])
  clear hW3
  have hf : W3.heap[w3.heap.size]? = some (.cells (edsCells smp.fs).toArray 55) := g0_W3
  have g4 := obj_later (hst_W3.below (Nat.le_refl _) (fun _ _ h => h)) g3
  have hz3 := hb0.size
  have hlt3 := (Array.getElem?_eq_some_iff.1 g3).1
  replace hb0 := hb0.trans (hst_W3.below (by omega) (fun _ _ h => h))
  clear g3 g0_W3
  refine (ledge_any _ _ _ _ _ _ _ _).mono ?_
  rintro r w4 ⟨rfl, hb1⟩
  have g5 := obj_later hb1 g4
  replace hf := obj_later hb1 hf
  have hz4 := hb1.size
  clear g4
  replace hb0 := hb0.trans (hb1.mono hb0.size)
  clear hb1
  go_wp2_with fail
  refine (ledge_any _ _ _ _ _ _ _ _).mono ?_
  rintro r w5 ⟨rfl, hb1⟩
  have g6 := obj_later hb1 g5
  replace hf := obj_later hb1 hf
  have hz5 := hb1.size
  clear g5
  replace hb0 := hb0.trans (hb1.mono hb0.size)
  clear hb1
  go_wp2_with fail
  refine (ledge_any _ _ _ _ _ _ _ _).mono ?_
  rintro r w6 ⟨rfl, hb1⟩
  have g7 := obj_later hb1 g6
  replace hf := obj_later hb1 hf
  have hz6 := hb1.size
  clear g6
  replace hb0 := hb0.trans (hb1.mono hb0.size)
  clear hb1
  go_wp2_with fail
  obtain ⟨W6, hW6⟩ : ∃ W, (w6.alloc (.cells #[.int .i64 98, .int .i64 99, .int .i64 51, .int .i64 52, .int .i64 510, .int .i64 530, .bool true, .int .i64 198, .int .i64 198, .int .i64 62, .int .i64 62, .int .i64 305, .int .i64 315, .bool false, .int .i64 250, .int .i64 250, .int .i64 10, .int .i64 10, .int .i64 100, .int .i64 120, .bool false] 55)) = W := ⟨_, rfl⟩
  rw [hW6]
  try simp only [Nat.add_assoc, Nat.reduceAdd]
  have hst_W6 : Steps (fun _ => False) w6 W6 := by rw [← hW6]; exact Steps.alloc _ w6 _
  have hz_W6 : W6.heap.size = w6.heap.size + 1 := by rw [← hW6]; simp
  have g0_W6 : W6.heap[w6.heap.size]? = some (.cells #[.int .i64 98, .int .i64 99, .int .i64 51, .int .i64 52, .int .i64 510, .int .i64 530, .bool true, .int .i64 198, .int .i64 198, .int .i64 62, .int .i64 62, .int .i64 305, .int .i64 315, .bool false, .int .i64 250, .int .i64 250, .int .i64 10, .int .i64 10, .int .i64 100, .int .i64 120, .bool false] 55) := by rw [← hW6]; simp only [alloc_get, World.size_alloc]; repeat (first | exact if_pos trivial | exact if_pos (by omega) | rw [if_neg (by omega)])
  clear hW6
  have hs : W6.heap[w6.heap.size]? = some (.cells (edsCells smp.ss).toArray 55) := g0_W6
  have hb6 := hst_W6.below (Nat.le_refl _) (fun _ _ h => h)
  have g8 := obj_later hb6 g7
  replace hf := obj_later hb6 hf
  have hz0 := hb0.size
  replace hb0 := hb0.trans (hb6.mono (by omega))
  clear g7 g0_W6 hb6
  refine (lspan_any _ _ _).mono ?_
  rintro r w7 ⟨rfl, hb1⟩
  have g9 := obj_later hb1 g8
  replace hf := obj_later hb1 hf
  replace hs := obj_later hb1 hs
  clear g8
  replace hb0 := hb0.trans (hb1.mono hb0.size)
  clear hb1
  go_wp2_with fail
  refine (lspan_any _ _ _).mono ?_
  rintro r w8 ⟨rfl, hb1⟩
  have g10 := obj_later hb1 g9
  replace hf := obj_later hb1 hf
  replace hs := obj_later hb1 hs
  replace hb0 := hb0.trans (hb1.mono hb0.size)
  clear hb1 g9
  have c0 := cell_block g10 0
  have c1 := cell_block g10 1
  have c2 := cell_block g10 2
  have c3 := cell_block g10 3
  have c4 := cell_block g10 4
  have c5 := cell_block g10 5
  simp only [List.getElem?_toArray, List.getElem?_cons_zero, List.getElem?_cons_succ] at c0 c1 c2 c3 c4 c5
  have f0 := frozen_block g10 0
  have f1 := frozen_block g10 1
  have f2 := frozen_block g10 2
  have f3 := frozen_block g10 3
  have f4 := frozen_block g10 4
  have f5 := frozen_block g10 5
  go_wp2_with fail
  have hle : ∀ k, w.heap.size ≤ (⟨w.heap.size, k, none⟩ : Addr).block := fun k => Nat.le_refl _
  have hh : ∀ {q : Nat} {o : Option Obj} {W : World}, W.heap[q]? = o → q ≠ w.heap.size → ∀ (i : Nat) (v : Value), (W.setCell ⟨w.heap.size, i, none⟩ v).heap[q]? = o := fun h hne i v => block_other h hne i v
  refine bodyPost_ret (v := .agg #[.int .i64 (-5), .int .i64 5, .int .i64 (-5), .int .i64 5, .slice (some ⟨w3.heap.size, 0, none⟩) 3 3, .slice (some ⟨w6.heap.size, 0, none⟩) 3 3]) (by simp [results, Try.results39, go_sem, c0, c1, c2, c3, c4, c5]) rfl
    ⟨w3.heap.size, w6.heap.size, rfl, ?_, ?_, by omega, by omega, by omega, ?_⟩
  · exact hh (hh (hh (hh (hh (hh hf (by omega) 0 _) (by omega) 1 _) (by omega) 2 _) (by omega) 3 _) (by omega) 4 _) (by omega) 5 _
  · exact hh (hh (hh (hh (hh (hh hs (by omega) 0 _) (by omega) 1 _) (by omega) 2 _) (by omega) 3 _) (by omega) 4 _) (by omega) 5 _
  · exact ((((((hb0.setCell (hle 0) _).setCell (hle 1) _).setCell (hle 2) _).setCell (hle 3) _).setCell (hle 4) _).setCell (hle 5) _)
end Go.Proofs.Ytjkegmjjhdmkiaa
