/- Package border: which shifts there can be. -/
import Derived.Test.YtjkegmjjhdmkiaaD6
import Derived.BigRegion
namespace Go.Proofs.Ytjkegmjjhdmkiaa
open Go.RowKit Go.Shelf
set_option maxHeartbeats 1600000
set_option maxRecDepth 100000
set_option linter.unusedSimpArgs false

def spV (l h : Int) : Value := .agg #[.int .i64 l, .int .i64 h]

/-- What is told of the shifts: the least and the greatest, and the error. -/
def bShift (b : Bo) : Sp × Sp × Int :=
  if b.ok then
    if allOf b (sures b.fs) (sures b.ss) = [] then (⟨0, 0⟩, ⟨0, 0⟩, 4)
    else (⟨(endsOf ((allOf b (sures b.fs) (sures b.ss)).map (·.1.1))).lo, (endsOf ((allOf b (sures b.fs) (sures b.ss)).map (·.1.1))).hi⟩, ⟨(endsOf ((allOf b (sures b.fs) (sures b.ss)).map (·.1.2))).lo, (endsOf ((allOf b (sures b.fs) (sures b.ss)).map (·.1.2))).hi⟩, 0)
  else (⟨0, 0⟩, ⟨0, 0⟩, 1)

/-- A border as an argument. -/
structure BoArg (w : World) (b : Bo) (fa sa : Option Addr) : Prop where
  f : EdSl w fa b.fs
  s : EdSl w sa b.ss
  lf : b.fs.length < 9223372036854775807
  ls : b.ss.length < 9223372036854775807

def ShiftPost (b : Bo) (w : World) (e : Ending) (w' : World) : Prop :=
  e = .returned (.tuple #[spV (bShift b).1.lo (bShift b).1.hi, spV (bShift b).2.1.lo (bShift b).2.1.hi, .int .i64 (bShift b).2.2]) ∧ Below w.heap.size w w'

theorem sures_lt (l : List Ed) : sures l < 2 ^ l.length := maskOf_lt _ _

theorem shift_any (b : Bo) (fa sa : Option Addr) (fc sc : Nat) (w : World) (hb : BoArg w b fa sa) :
    Calls Try.prog 17 #[.agg #[.int .i64 b.e.lo, .int .i64 b.e.hi, .int .i64 b.n.lo, .int .i64 b.n.hi, .slice fa b.fs.length fc, .slice sa b.ss.length sc]] w (ShiftPost b w) := by
  obtain ⟨hf, hs, hlf, hls⟩ := hb
  go_enter_defers Try.func17, Try.ntmps17
  go_wp2_with fail
  obtain ⟨W0, hW0⟩ : ∃ W, (((((w.alloc (.cells #[.int .i64 b.e.lo, .int .i64 b.e.hi, .int .i64 b.n.lo, .int .i64 b.n.hi, .slice fa b.fs.length fc, .slice sa b.ss.length sc] 26)).alloc (.cells #[.int .i64 0, .int .i64 0] 23)).alloc (.cells #[.int .i64 0, .int .i64 0] 23)).alloc (.cells #[.int .i64 0] 29)).alloc (.cells #[.int .i64 0, .int .i64 0, .bool false, .int .i64 0, .int .i64 0, .bool false] 91)) = W := ⟨_, rfl⟩
  rw [hW0]
  try simp only [Nat.add_assoc, Nat.reduceAdd]
  have hst_W0 : Steps (fun _ => False) w W0 := by rw [← hW0]; exact ((((Steps.alloc _ w _).trans (Steps.alloc (fun _ => False) _ _) (fun _ _ h => h)).trans (Steps.alloc (fun _ => False) _ _) (fun _ _ h => h)).trans (Steps.alloc (fun _ => False) _ _) (fun _ _ h => h)).trans (Steps.alloc (fun _ => False) _ _) (fun _ _ h => h)
  have hz_W0 : W0.heap.size = w.heap.size + 5 := by rw [← hW0]; simp
  have g0_W0 : W0.heap[w.heap.size]? = some (.cells #[.int .i64 b.e.lo, .int .i64 b.e.hi, .int .i64 b.n.lo, .int .i64 b.n.hi, .slice fa b.fs.length fc, .slice sa b.ss.length sc] 26) := by rw [← hW0]; simp only [alloc_get, World.size_alloc]; repeat (first | exact if_pos trivial | exact if_pos (by omega) | rw [if_neg (by omega)])
  have g1_W0 : W0.heap[w.heap.size + 1]? = some (.cells #[.int .i64 0, .int .i64 0] 23) := by rw [← hW0]; simp only [alloc_get, World.size_alloc]; repeat (first | exact if_pos trivial | exact if_pos (by omega) | rw [if_neg (by omega)])
  have g2_W0 : W0.heap[w.heap.size + 2]? = some (.cells #[.int .i64 0, .int .i64 0] 23) := by rw [← hW0]; simp only [alloc_get, World.size_alloc]; repeat (first | exact if_pos trivial | exact if_pos (by omega) | rw [if_neg (by omega)])
  have g3_W0 : W0.heap[w.heap.size + 3]? = some (.cells #[.int .i64 0] 29) := by rw [← hW0]; simp only [alloc_get, World.size_alloc]; repeat (first | exact if_pos trivial | exact if_pos (by omega) | rw [if_neg (by omega)])
  have g4_W0 : W0.heap[w.heap.size + 4]? = some (.cells #[.int .i64 0, .int .i64 0, .bool false, .int .i64 0, .int .i64 0, .bool false] 91) := by rw [← hW0]; simp only [alloc_get, World.size_alloc]; repeat (first | exact if_pos trivial | exact if_pos (by omega) | rw [if_neg (by omega)])
  clear hW0
  have hb0 : Below w.heap.size w W0 := hst_W0.below (Nat.le_refl _) (fun _ _ h => h)
  cases hok : b.ok with
  | false =>
    have hB : bShift b = (⟨0, 0⟩, ⟨0, 0⟩, 1) := by simp [bShift, hok]
    have HB := Lib.hid hB
    clear hB
    refine (open_no b fa sa fc sc W0 hok (hf.below hb0 (Nat.le_refl _)) (hs.below hb0 (Nat.le_refl _)) hlf hls).mono ?_
    rintro e W1 ⟨rfl, hb1⟩
    have hW1 : w.heap.size + 4 < W1.heap.size := by have := hb1.size; omega
    have j1 := obj_later hb1 g1_W0
    have j2 := obj_later hb1 g2_W0
    have j3 := obj_later hb1 g3_W0
    refine door_panic (y := 0) (v := .tuple #[spV 0 0, spV 0 0, .int .i64 1]) (cell_block j3 0) (frozen_block j3 0) (fun W' hs' hc' _ => ?_)
    have i1 : W'.heap[w.heap.size + 1]? = some (.cells #[.int .i64 0, .int .i64 0] 23) := hs'.obj (by omega) j1
    have i2 : W'.heap[w.heap.size + 2]? = some (.cells #[.int .i64 0, .int .i64 0] 23) := hs'.obj (by omega) j2
    have c10 := cell_block i1 0
    have c11 := cell_block i1 1
    have c20 := cell_block i2 0
    have c21 := cell_block i2 1
    simp only [List.getElem?_toArray, List.getElem?_cons_zero, List.getElem?_cons_succ] at c10 c11 c20 c21
    refine ⟨by simp [results, Try.results17, go_sem, c10, c11, c20, c21, hc', spV], ?_⟩
    unfold ShiftPost
    rw [HB.out]
    exact ⟨rfl, hb0.trans ((hb1.mono hb0.size).trans (hs'.below (by omega) (fun k hk h => by omega)))⟩
  | true =>
    refine (open_yes b fa sa fc sc W0 hok (hf.below hb0 (Nat.le_refl _)) (hs.below hb0 (Nat.le_refl _))).mono ?_
    rintro e W1 ⟨p, r, rfl, hB1, hr1, hrl, hpl, hb1⟩
    go_wp2_with fail
    have hW1 : w.heap.size + 4 < W1.heap.size := by have := hb1.size; omega
    have hk1 : KnownOk W1 r b := ⟨_, _, hr1, by simp⟩
    have hold : Old w W1 b fa sa (w.heap.size + 4) r := ⟨hf, hs, hb0.trans (hb1.mono hb0.size), by omega, by omega⟩
    have hlens := bo_lens hok
    have j1 := obj_later hb1 g1_W0
    have j2 := obj_later hb1 g2_W0
    have j3 := obj_later hb1 g3_W0
    have j4 := obj_later hb1 g4_W0
    have hA0 : ReachA (w.heap.size + 4) b (fun _ => False) [] W1 := ⟨fun h => h, ⟨cell_block j4 0, cell_block j4 1, cell_block j4 2, fun i => frozen_block j4 i⟩, ⟨cell_block j4 3, cell_block j4 4, cell_block j4 5, fun i => frozen_block j4 i⟩, by simp⟩
    refine (gather_any w 93 110 (w.heap.size + 4) p b fa sa fc sc (sures b.fs) (sures b.ss) r (ReachA (w.heap.size + 4) b) W1 (.inl ⟨rfl, rfl⟩) hB1 hk1 hok
      (Nat.lt_of_lt_of_le (sures_lt _) (Nat.pow_le_pow_right (by omega) hlens.1)) (sures_lt _) (reach_adder _ _ r b _ _ hok (by omega)) hA0 hW1 (by omega) (by omega) hold).mono ?_
    rintro e W2 ⟨hs2, hk2, (⟨hne, rfl, hA⟩ | ⟨hnil, rfl⟩)⟩
    · have hB : bShift b = (⟨(endsOf ((allOf b (sures b.fs) (sures b.ss)).map (·.1.1))).lo, (endsOf ((allOf b (sures b.fs) (sures b.ss)).map (·.1.1))).hi⟩, ⟨(endsOf ((allOf b (sures b.fs) (sures b.ss)).map (·.1.2))).lo, (endsOf ((allOf b (sures b.fs) (sures b.ss)).map (·.1.2))).hi⟩, 0) := by simp [bShift, hok, hne]
      have HB := Lib.hid hB
      clear hB hne
      obtain ⟨_, ⟨d0, d1, _, _⟩, ⟨d3, d4, _, _⟩, _⟩ := hA
      generalize (endsOf ((allOf b (sures b.fs) (sures b.ss)).map (·.1.1))) = E at HB d0 d1
      generalize (endsOf ((allOf b (sures b.fs) (sures b.ss)).map (·.1.2))) = N at HB d3 d4
      have i1 : W2.heap[w.heap.size + 1]? = some (.cells #[.int .i64 0, .int .i64 0] 23) := hs2.obj (by omega) j1
      have i2 : W2.heap[w.heap.size + 2]? = some (.cells #[.int .i64 0, .int .i64 0] 23) := hs2.obj (by omega) j2
      have i3 : W2.heap[w.heap.size + 3]? = some (.cells #[.int .i64 0] 29) := hs2.obj (by omega) j3
      have hb2 : Below w.heap.size w W2 := hb0.trans ((hb1.mono hb0.size).trans (hs2.below (by omega) (fun k hk h => by omega)))
      have hsz2 := hs2.size
      clear hs2 hk2 hB1 hr1 hb1 hk1 hold j1 j2 j3 j4 hA0
      go_wp2_with fail
      have c10 := cell_block i1 0
      have c11 := cell_block i1 1
      have c20 := cell_block i2 0
      have c21 := cell_block i2 1
      have c30 := cell_block i3 0
      simp only [List.getElem?_toArray, List.getElem?_cons_zero, List.getElem?_cons_succ] at c10 c11 c20 c21 c30
      have f10 := frozen_block i1 0
      have f11 := frozen_block i1 1
      have f20 := frozen_block i2 0
      have f21 := frozen_block i2 1
      have f30 := frozen_block i3 0
      simp only [Nat.zero_add, Nat.reduceAdd] at d1 d4
      go_region
      all_goals
        go_wp2_with fail
        refine door_ret (v := .tuple #[spV E.lo E.hi, spV N.lo N.hi, .int .i64 0]) (by simp [results, Try.results17, go_sem, c10, c11, c20, c21, c30, spV]) ?_
        unfold ShiftPost
        rw [HB.out]
        have hle : ∀ k, w.heap.size ≤ w.heap.size + k := fun k => by omega
        exact ⟨rfl, (((((hb2.setCell (p := ⟨w.heap.size + 1, 0, none⟩) (hle _) _).setCell (p := ⟨w.heap.size + 1, 1, none⟩) (hle _) _).setCell (p := ⟨w.heap.size + 2, 0, none⟩) (hle _) _).setCell (p := ⟨w.heap.size + 2, 1, none⟩) (hle _) _).setCell (p := ⟨w.heap.size + 3, 0, none⟩) (hle _) _).drew⟩
    · have hB : bShift b = (⟨0, 0⟩, ⟨0, 0⟩, 4) := by simp [bShift, hok, hnil]
      have HB := Lib.hid hB
      clear hB hnil
      have i1 : W2.heap[w.heap.size + 1]? = some (.cells #[.int .i64 0, .int .i64 0] 23) := hs2.obj (by omega) j1
      have i2 : W2.heap[w.heap.size + 2]? = some (.cells #[.int .i64 0, .int .i64 0] 23) := hs2.obj (by omega) j2
      have i3 : W2.heap[w.heap.size + 3]? = some (.cells #[.int .i64 0] 29) := hs2.obj (by omega) j3
      have hb2 : Below w.heap.size w W2 := hb0.trans ((hb1.mono hb0.size).trans (hs2.below (by omega) (fun k hk h => by omega)))
      have hsz2 := hs2.size
      refine door_panic (y := 0) (v := .tuple #[spV 0 0, spV 0 0, .int .i64 4]) (cell_block i3 0) (frozen_block i3 0) (fun W' hs' hc' _ => ?_)
      have i1' : W'.heap[w.heap.size + 1]? = some (.cells #[.int .i64 0, .int .i64 0] 23) := hs'.obj (by omega) i1
      have i2' : W'.heap[w.heap.size + 2]? = some (.cells #[.int .i64 0, .int .i64 0] 23) := hs'.obj (by omega) i2
      have c10 := cell_block i1' 0
      have c11 := cell_block i1' 1
      have c20 := cell_block i2' 0
      have c21 := cell_block i2' 1
      simp only [List.getElem?_toArray, List.getElem?_cons_zero, List.getElem?_cons_succ] at c10 c11 c20 c21
      refine ⟨by simp [results, Try.results17, go_sem, c10, c11, c20, c21, hc', spV], ?_⟩
      unfold ShiftPost
      rw [HB.out]
      exact ⟨rfl, hb2.trans (hs'.below (by omega) (fun k hk h => by omega))⟩
end Go.Proofs.Ytjkegmjjhdmkiaa
