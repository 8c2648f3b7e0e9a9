/- Package border: which shifts there can be. Package border: which stars a star surely is, and can be. Package border: the stars that have no counterpart. Package border: the best shift and its joining. Package border: whether two stars can be the same. -/
import Derived.Test.YtjkegmjjhdmkiaaBU15
import Derived.BigRegion
import Derived.Test.YtjkegmjjhdmkiaaBU4
namespace Go.Proofs.Ytjkegmjjhdmkiaa
open Go.RowKit Go.Shelf
set_option maxHeartbeats 1600000
set_option maxRecDepth 100000
set_option linter.unusedSimpArgs false

def spV (l h : Int) : Value := .agg #[.int .i64 l, .int .i64 h]

/-- What is told of the shifts: the least and the greatest, and the error. -/
def bShift (b : Bo) : Sp × Sp × Int :=
  if b.ok then
    if allOf b (sures b.fs) (sures b.ss) = [] then (⟨0, 0⟩, ⟨0, 0⟩, 4)
    else (⟨(endsOf ((allOf b (sures b.fs) (sures b.ss)).map (·.1.1))).lo, (endsOf ((allOf b (sures b.fs) (sures b.ss)).map (·.1.1))).hi⟩, ⟨(endsOf ((allOf b (sures b.fs) (sures b.ss)).map (·.1.2))).lo, (endsOf ((allOf b (sures b.fs) (sures b.ss)).map (·.1.2))).hi⟩, 0)
  else (⟨0, 0⟩, ⟨0, 0⟩, 1)

/-- A border as an argument. -/
structure BoArg (w : World) (b : Bo) (fa sa : Option Addr) : Prop where
  f : EdSl w fa b.fs
  s : EdSl w sa b.ss
  lf : b.fs.length < 9223372036854775807
  ls : b.ss.length < 9223372036854775807

def ShiftPost (b : Bo) (w : World) (e : Ending) (w' : World) : Prop :=
  e = .returned (.tuple #[spV (bShift b).1.lo (bShift b).1.hi, spV (bShift b).2.1.lo (bShift b).2.1.hi, .int .i64 (bShift b).2.2]) ∧ Below w.heap.size w w'

theorem sures_lt (l : List Ed) : sures l < 2 ^ l.length := maskOf_lt _ _

theorem shift_any (b : Bo) (fa sa : Option Addr) (fc sc : Nat) (w : World) (hb : BoArg w b fa sa) :
    Calls Try.prog 17 #[.agg #[.int .i64 b.e.lo, .int .i64 b.e.hi, .int .i64 b.n.lo, .int .i64 b.n.hi, .slice fa b.fs.length fc, .slice sa b.ss.length sc]] w (ShiftPost b w) := by
  obtain ⟨hf, hs, hlf, hls⟩ := hb
  go_enter_defers Try.func17, Try.ntmps17
  go_wp2_with fail
  obtain ⟨W0, hW0⟩ : ∃ W, (((((w.alloc (.cells #[.int .i64 b.e.lo, .int .i64 b.e.hi, .int .i64 b.n.lo, .int .i64 b.n.hi, .slice fa b.fs.length fc, .slice sa b.ss.length sc] 26)).alloc (.cells #[.int .i64 0, .int .i64 0] 23)).alloc (.cells #[.int .i64 0, .int .i64 0] 23)).alloc (.cells #[.int .i64 0] 29)).alloc (.cells #[.int .i64 0, .int .i64 0, .bool false, .int .i64 0, .int .i64 0, .bool false] 91)) = W := ⟨_, rfl⟩
  rw [hW0]
  try simp only [Nat.add_assoc, Nat.reduceAdd]
  have hst_W0 : Steps (fun _ => False) w W0 := by rw [← hW0]; exact ((((Steps.alloc _ w _).trans (Steps.alloc (fun _ => False) _ _) (fun _ _ h => h)).trans (Steps.alloc (fun _ => False) _ _) (fun _ _ h => h)).trans (Steps.alloc (fun _ => False) _ _) (fun _ _ h => h)).trans (Steps.alloc (fun _ => False) _ _) (fun _ _ h => h)
  have hz_W0 : W0.heap.size = w.heap.size + 5 := by rw [← hW0]; simp
  have g0_W0 : W0.heap[w.heap.size]? = some (.cells #[.int .i64 b.e.lo, .int .i64 b.e.hi, .int .i64 b.n.lo, .int .i64 b.n.hi, .slice fa b.fs.length fc, .slice sa b.ss.length sc] 26) := by rw [← hW0]; simp only [alloc_get, World.size_alloc]; repeat (first | exact if_pos trivial | exact if_pos (by omega) | rw [if_neg (by omega)])
  have g1_W0 : W0.heap[w.heap.size + 1]? = some (.cells #[.int .i64 0, .int .i64 0] 23) := by rw [← hW0]; simp only [alloc_get, World.size_alloc]; repeat (first | exact if_pos trivial | exact if_pos (by omega) | rw [if_neg (by omega)])
  have g2_W0 : W0.heap[w.heap.size + 2]? = some (.cells #[.int .i64 0, .int .i64 0] 23) := by rw [← hW0]; simp only [alloc_get, World.size_alloc]; repeat (first | exact if_pos trivial | exact if_pos (by omega) | rw [if_neg (by omega)])
  have g3_W0 : W0.heap[w.heap.size + 3]? = some (.cells #[.int .i64 0] 29) := by rw [← hW0]; simp only [alloc_get, World.size_alloc]; repeat (first | exact if_pos trivial | exact if_pos (by omega) | rw [if_neg (by omega)])
  have g4_W0 : W0.heap[w.heap.size + 4]? = some (.cells #[.int .i64 0, .int .i64 0, .bool false, .int .i64 0, .int .i64 0, .bool false] 91) := by rw [← hW0]; simp only [alloc_get, World.size_alloc]; repeat (first | exact if_pos trivial | exact if_pos (by omega) | rw [if_neg (by omega)])
  clear hW0
  have hb0 : Below w.heap.size w W0 := hst_W0.below (Nat.le_refl _) (fun _ _ h => h)
  cases hok : b.ok with
  | false =>
    have hB : bShift b = (⟨0, 0⟩, ⟨0, 0⟩, 1) := by simp [bShift, hok]
    have HB := Lib.hid hB
    clear hB
    refine (open_no b fa sa fc sc W0 hok (hf.below hb0 (Nat.le_refl _)) (hs.below hb0 (Nat.le_refl _)) hlf hls).mono ?_
    rintro e W1 ⟨rfl, hb1⟩
    have hW1 : w.heap.size + 4 < W1.heap.size := by have := hb1.size; omega
    have j1 := obj_later hb1 g1_W0
    have j2 := obj_later hb1 g2_W0
    have j3 := obj_later hb1 g3_W0
    refine door_panic (y := 0) (v := .tuple #[spV 0 0, spV 0 0, .int .i64 1]) (cell_block j3 0) (frozen_block j3 0) (fun W' hs' hc' _ => ?_)
    have i1 : W'.heap[w.heap.size + 1]? = some (.cells #[.int .i64 0, .int .i64 0] 23) := hs'.obj (by omega) j1
    have i2 : W'.heap[w.heap.size + 2]? = some (.cells #[.int .i64 0, .int .i64 0] 23) := hs'.obj (by omega) j2
    have c10 := cell_block i1 0
    have c11 := cell_block i1 1
    have c20 := cell_block i2 0
    have c21 := cell_block i2 1
    simp only [List.getElem?_toArray, List.getElem?_cons_zero, List.getElem?_cons_succ] at c10 c11 c20 c21
    refine ⟨by simp [results, Try.results17, go_sem, c10, c11, c20, c21, hc', spV], ?_⟩
    unfold ShiftPost
    rw [HB.out]
    exact ⟨rfl, hb0.trans ((hb1.mono hb0.size).trans (hs'.below (by omega) (fun k hk h => by omega)))⟩
  | true =>
    refine (open_yes b fa sa fc sc W0 hok (hf.below hb0 (Nat.le_refl _)) (hs.below hb0 (Nat.le_refl _))).mono ?_
    rintro e W1 ⟨p, r, rfl, hB1, hr1, hrl, hpl, hb1⟩
    go_wp2_with fail
    have hW1 : w.heap.size + 4 < W1.heap.size := by have := hb1.size; omega
    have hk1 : KnownOk W1 r b := ⟨_, _, hr1, by simp⟩
    have hold : Old w W1 b fa sa (w.heap.size + 4) r := ⟨hf, hs, hb0.trans (hb1.mono hb0.size), by omega, by omega⟩
    have hlens := bo_lens hok
    have j1 := obj_later hb1 g1_W0
    have j2 := obj_later hb1 g2_W0
    have j3 := obj_later hb1 g3_W0
    have j4 := obj_later hb1 g4_W0
    have hA0 : ReachA (w.heap.size + 4) b (fun _ => False) [] W1 := ⟨fun h => h, ⟨cell_block j4 0, cell_block j4 1, cell_block j4 2, fun i => frozen_block j4 i⟩, ⟨cell_block j4 3, cell_block j4 4, cell_block j4 5, fun i => frozen_block j4 i⟩, by simp⟩
    refine (gather_any w 93 110 (w.heap.size + 4) p b fa sa fc sc (sures b.fs) (sures b.ss) r (ReachA (w.heap.size + 4) b) W1 (.inl ⟨rfl, rfl⟩) hB1 hk1 hok
      (Nat.lt_of_lt_of_le (sures_lt _) (Nat.pow_le_pow_right (by omega) hlens.1)) (sures_lt _) (reach_adder _ _ r b _ _ hok (by omega)) hA0 hW1 (by omega) (by omega) hold).mono ?_
    rintro e W2 ⟨hs2, hk2, (⟨hne, rfl, hA⟩ | ⟨hnil, rfl⟩)⟩
    · have hB : bShift b = (⟨(endsOf ((allOf b (sures b.fs) (sures b.ss)).map (·.1.1))).lo, (endsOf ((allOf b (sures b.fs) (sures b.ss)).map (·.1.1))).hi⟩, ⟨(endsOf ((allOf b (sures b.fs) (sures b.ss)).map (·.1.2))).lo, (endsOf ((allOf b (sures b.fs) (sures b.ss)).map (·.1.2))).hi⟩, 0) := by simp [bShift, hok, hne]
      have HB := Lib.hid hB
      clear hB hne
      obtain ⟨_, ⟨d0, d1, _, _⟩, ⟨d3, d4, _, _⟩, _⟩ := hA
      generalize (endsOf ((allOf b (sures b.fs) (sures b.ss)).map (·.1.1))) = E at HB d0 d1
      generalize (endsOf ((allOf b (sures b.fs) (sures b.ss)).map (·.1.2))) = N at HB d3 d4
      have i1 : W2.heap[w.heap.size + 1]? = some (.cells #[.int .i64 0, .int .i64 0] 23) := hs2.obj (by omega) j1
      have i2 : W2.heap[w.heap.size + 2]? = some (.cells #[.int .i64 0, .int .i64 0] 23) := hs2.obj (by omega) j2
      have i3 : W2.heap[w.heap.size + 3]? = some (.cells #[.int .i64 0] 29) := hs2.obj (by omega) j3
      have hb2 : Below w.heap.size w W2 := hb0.trans ((hb1.mono hb0.size).trans (hs2.below (by omega) (fun k hk h => by omega)))
      have hsz2 := hs2.size
      clear hs2 hk2 hB1 hr1 hb1 hk1 hold j1 j2 j3 j4 hA0
      go_wp2_with fail
      have c10 := cell_block i1 0
      have c11 := cell_block i1 1
      have c20 := cell_block i2 0
      have c21 := cell_block i2 1
      have c30 := cell_block i3 0
      simp only [List.getElem?_toArray, List.getElem?_cons_zero, List.getElem?_cons_succ] at c10 c11 c20 c21 c30
      have f10 := frozen_block i1 0
      have f11 := frozen_block i1 1
      have f20 := frozen_block i2 0
      have f21 := frozen_block i2 1
      have f30 := frozen_block i3 0
      simp only [Nat.zero_add, Nat.reduceAdd] at d1 d4
      go_region
      all_goals
        go_wp2_with fail
        refine door_ret (v := .tuple #[spV E.lo E.hi, spV N.lo N.hi, .int .i64 0]) (by simp [results, Try.results17, go_sem, c10, c11, c20, c21, c30, spV]) ?_
        unfold ShiftPost
        rw [HB.out]
        have hle : ∀ k, w.heap.size ≤ w.heap.size + k := fun k => by omega
        exact ⟨rfl, (((((hb2.setCell (p := ⟨w.heap.size + 1, 0, none⟩) (hle _) _).setCell (p := ⟨w.heap.size + 1, 1, none⟩) (hle _) _).setCell (p := ⟨w.heap.size + 2, 0, none⟩) (hle _) _).setCell (p := ⟨w.heap.size + 2, 1, none⟩) (hle _) _).setCell (p := ⟨w.heap.size + 3, 0, none⟩) (hle _) _).drew⟩
    · have hB : bShift b = (⟨0, 0⟩, ⟨0, 0⟩, 4) := by simp [bShift, hok, hnil]
      have HB := Lib.hid hB
      clear hB hnil
      have i1 : W2.heap[w.heap.size + 1]? = some (.cells #[.int .i64 0, .int .i64 0] 23) := hs2.obj (by omega) j1
      have i2 : W2.heap[w.heap.size + 2]? = some (.cells #[.int .i64 0, .int .i64 0] 23) := hs2.obj (by omega) j2
      have i3 : W2.heap[w.heap.size + 3]? = some (.cells #[.int .i64 0] 29) := hs2.obj (by omega) j3
      have hb2 : Below w.heap.size w W2 := hb0.trans ((hb1.mono hb0.size).trans (hs2.below (by omega) (fun k hk h => by omega)))
      have hsz2 := hs2.size
      refine door_panic (y := 0) (v := .tuple #[spV 0 0, spV 0 0, .int .i64 4]) (cell_block i3 0) (frozen_block i3 0) (fun W' hs' hc' _ => ?_)
      have i1' : W'.heap[w.heap.size + 1]? = some (.cells #[.int .i64 0, .int .i64 0] 23) := hs'.obj (by omega) i1
      have i2' : W'.heap[w.heap.size + 2]? = some (.cells #[.int .i64 0, .int .i64 0] 23) := hs'.obj (by omega) i2
      have c10 := cell_block i1' 0
      have c11 := cell_block i1' 1
      have c20 := cell_block i2' 0
      have c21 := cell_block i2' 1
      simp only [List.getElem?_toArray, List.getElem?_cons_zero, List.getElem?_cons_succ] at c10 c11 c20 c21
      refine ⟨by simp [results, Try.results17, go_sem, c10, c11, c20, c21, hc', spV], ?_⟩
      unfold ShiftPost
      rw [HB.out]
      exact ⟨rfl, hb2.trans (hs'.below (by omega) (fun k hk h => by omega))⟩
end Go.Proofs.Ytjkegmjjhdmkiaa
namespace Go.Proofs.Ytjkegmjjhdmkiaa
open Go.RowKit Go.Shelf
set_option maxHeartbeats 1600000
set_option maxRecDepth 100000
set_option linter.unusedSimpArgs false

/-- What is told of a star's pairs. -/
def bPairs (b : Bo) (first : Int) : Nat × Nat × Int :=
  if b.ok then
    if decide (0 ≤ first) && decide (first ≤ b.fs.length - 1) then
      if allOf b (sures b.fs) (sures b.ss) = [] then (0, 0, 4)
      else ((prsOf ((allOf b (sures b.fs) (sures b.ss)).map fun z => bitOf (z.2.getD first.toNat (-1)))).every, (prsOf ((allOf b (sures b.fs) (sures b.ss)).map fun z => bitOf (z.2.getD first.toNat (-1)))).some, 0)
    else (0, 0, 2)
  else (0, 0, 1)

def PairsPost (b : Bo) (first : Int) (w : World) (e : Ending) (w' : World) : Prop :=
  e = .returned (.tuple #[.int .i64 (bPairs b first).1, .int .i64 (bPairs b first).2.1, .int .i64 (bPairs b first).2.2]) ∧ Below w.heap.size w w'

theorem within_b (n lo hi : Int) (q : Bool) (h : (decide (lo ≤ n) && decide (n ≤ hi)) = q) (w : World) :
    Calls Try.prog 43 #[.int .i64 n, .int .i64 lo, .int .i64 hi] w fun e w' => e = .returned (.bool q) ∧ w = w' := by
  refine (within_any n lo hi w).mono ?_
  rintro e w' ⟨rfl, rfl⟩
  exact ⟨by rw [h], rfl⟩

theorem allOf_mem {b : Bo} {f s : Nat} {z : Joined} (h : z ∈ allOf b f s) : z.1 ∈ shiftsOf b ∧ z.2 ∈ bJoins b f s z.1 := by
  unfold allOf joinedOf withShift at h
  rw [List.mem_flatMap] at h
  obtain ⟨x, hx, h⟩ := h
  rw [List.mem_map] at h
  obtain ⟨y, hy, rfl⟩ := h
  exact ⟨hx, hy⟩

theorem pairs_any (b : Bo) (first : Int) (fa sa : Option Addr) (fc sc : Nat) (w : World) (hb : BoArg w b fa sa) :
    Calls Try.prog 19 #[.agg #[.int .i64 b.e.lo, .int .i64 b.e.hi, .int .i64 b.n.lo, .int .i64 b.n.hi, .slice fa b.fs.length fc, .slice sa b.ss.length sc], .int .i64 first] w (PairsPost b first w) := by
  obtain ⟨hf, hs, hlf, hls⟩ := hb
  go_enter_defers Try.func19, Try.ntmps19
  go_wp2_with fail
  obtain ⟨W0, hW0⟩ : ∃ W, ((w.alloc (.cells #[.int .i64 b.e.lo, .int .i64 b.e.hi, .int .i64 b.n.lo, .int .i64 b.n.hi, .slice fa b.fs.length fc, .slice sa b.ss.length sc] 26)).alloc (.cells #[.int .i64 0] 29)) = W := ⟨_, rfl⟩
  rw [hW0]
  try simp only [Nat.add_assoc, Nat.reduceAdd]
  have hst_W0 : Steps (fun _ => False) w W0 := by rw [← hW0]; exact (Steps.alloc _ w _).trans (Steps.alloc (fun _ => False) _ _) (fun _ _ h => h)
  have hz_W0 : W0.heap.size = w.heap.size + 2 := by rw [← hW0]; simp
  have g0_W0 : W0.heap[w.heap.size]? = some (.cells #[.int .i64 b.e.lo, .int .i64 b.e.hi, .int .i64 b.n.lo, .int .i64 b.n.hi, .slice fa b.fs.length fc, .slice sa b.ss.length sc] 26) := by rw [← hW0]; simp only [alloc_get, World.size_alloc]; repeat (first | exact if_pos trivial | exact if_pos (by omega) | rw [if_neg (by omega)])
  have g1_W0 : W0.heap[w.heap.size + 1]? = some (.cells #[.int .i64 0] 29) := by rw [← hW0]; simp only [alloc_get, World.size_alloc]; repeat (first | exact if_pos trivial | exact if_pos (by omega) | rw [if_neg (by omega)])
  clear hW0
  have hb0 : Below w.heap.size w W0 := hst_W0.below (Nat.le_refl _) (fun _ _ h => h)
  cases hok : b.ok with
  | false =>
    have hB : bPairs b first = (0, 0, 1) := by simp [bPairs, hok]
    have HB := Lib.hid hB
    clear hB
    refine (open_no b fa sa fc sc W0 hok (hf.below hb0 (Nat.le_refl _)) (hs.below hb0 (Nat.le_refl _)) hlf hls).mono ?_
    rintro e W1 ⟨rfl, hb1⟩
    have hW1 : w.heap.size + 1 < W1.heap.size := by have := hb1.size; omega
    have j1 := obj_later hb1 g1_W0
    refine door_panic (y := 0) (v := .tuple #[.int .i64 0, .int .i64 0, .int .i64 1]) (cell_block j1 0) (frozen_block j1 0) (fun W' hs' hc' _ => ?_)
    refine ⟨by simp [results, Try.results19, go_sem, hc'], ?_⟩
    unfold PairsPost
    rw [HB.out]
    exact ⟨rfl, hb0.trans ((hb1.mono hb0.size).trans (hs'.below (by omega) (fun k hk h => by omega)))⟩
  | true =>
    refine (open_yes b fa sa fc sc W0 hok (hf.below hb0 (Nat.le_refl _)) (hs.below hb0 (Nat.le_refl _))).mono ?_
    rintro e W1 ⟨p, r, rfl, hB1, hr1, hrl, hpl, hb1⟩
    have hW1 : w.heap.size + 1 < W1.heap.size := by have := hb1.size; omega
    have hk1 : KnownOk W1 r b := ⟨_, _, hr1, by simp⟩
    have hlens := bo_lens hok
    have j0 := obj_later hb1 g0_W0
    have j1 := obj_later hb1 g1_W0
    have c4 := cell_block j0 4
    simp only [List.getElem?_toArray, List.getElem?_cons_zero, List.getElem?_cons_succ] at c4
    obtain ⟨q, hq⟩ : ∃ q, (decide (0 ≤ first) && decide (first ≤ (b.fs.length : Int) - 1)) = q := ⟨_, rfl⟩
    have HQ := Lib.hid hq
    clear hq
    have hl6 := hlens.1
    have hl6' : (b.fs.length : Int) ≤ 6 := by omega
    have hl0' : (0 : Int) ≤ b.fs.length := by omega
    go_wp2_with fail
    refine (within_b first 0 ((b.fs.length : Int) - 1) q HQ.out _).mono ?_
    rintro e W1' ⟨rfl, rfl⟩
    cases q with
    | false =>
      have hB : bPairs b first = (0, 0, 2) := by simp only [bPairs, hok, HQ.out]; simp
      have HB := Lib.hid hB
      clear hB
      go_wp2_with (go_at_call 42; refine (must_no _ _).mono ?_; rintro e w' ⟨rfl, rfl⟩)
      refine door_panic (y := 0) (v := .tuple #[.int .i64 0, .int .i64 0, .int .i64 2]) (cell_block j1 0) (frozen_block j1 0) (fun W' hs' hc' _ => ?_)
      refine ⟨by simp [results, Try.results19, go_sem, hc'], ?_⟩
      unfold PairsPost
      rw [HB.out]
      exact ⟨rfl, hb0.trans ((hb1.mono hb0.size).trans (hs'.below (by omega) (fun k hk h => by omega)))⟩
    | true =>
      have hrange := HQ.out
      simp only [Bool.and_eq_true, decide_eq_true_eq] at hrange
      obtain ⟨i, rfl⟩ := Int.eq_ofNat_of_zero_le hrange.1
      have hi : i < b.fs.length := by omega
      clear hrange
      go_wp2_with (go_at_call 42; refine (must_yes _ _).mono ?_; rintro e w' ⟨rfl, rfl⟩)
      obtain ⟨W2, hW2⟩ : ∃ W, (W1.alloc (.cells #[.int .i64 i, .int .u64 0, .int .u64 0, .bool false] 100)) = W := ⟨_, rfl⟩
      rw [hW2]
      try simp only [Nat.add_assoc, Nat.reduceAdd]
      have hst_W2 : Steps (fun _ => False) W1 W2 := by rw [← hW2]; exact Steps.alloc _ W1 _
      have hz_W2 : W2.heap.size = W1.heap.size + 1 := by rw [← hW2]; simp
      have g0_W2 : W2.heap[W1.heap.size]? = some (.cells #[.int .i64 i, .int .u64 0, .int .u64 0, .bool false] 100) := by rw [← hW2]; simp only [alloc_get, World.size_alloc]; repeat (first | exact if_pos trivial | exact if_pos (by omega) | rw [if_neg (by omega)])
      clear hW2
      have hb2 : Below W1.heap.size W1 W2 := hst_W2.below (Nat.le_refl _) (fun _ _ h => h)
      have hold : Old w W2 b fa sa W1.heap.size r := ⟨hf, hs, hb0.trans ((hb1.mono hb0.size).trans (hb2.mono (by omega))), by omega, by omega⟩
      have hA0 : PairsA W1.heap.size i b (sures b.fs) (sures b.ss) (fun _ => False) [] W2 := ⟨fun h => h, ⟨cell_block g0_W2 0, cell_block g0_W2 1, cell_block g0_W2 2, cell_block g0_W2 3, fun i => frozen_block g0_W2 i⟩, by simp⟩
      have hr1l : r < W1.heap.size := hk1.lt
      have hp1l : p < W1.heap.size := World.block_lt_of_cell? W1 _ hB1.c6
      have h2 := obj_later hb2 j1
      refine (gather_any w 101 113 W1.heap.size p b fa sa fc sc (sures b.fs) (sures b.ss) r (PairsA W1.heap.size i b (sures b.fs) (sures b.ss)) W2 (.inr (.inl ⟨rfl, rfl⟩)) (hB1.later hb2) (hk1.steps hst_W2 (fun h => h)) hok
        (Nat.lt_of_lt_of_le (sures_lt _) (Nat.pow_le_pow_right (by omega) hlens.1)) (sures_lt _) (pairs_adder _ _ i r b _ _ hok (by omega) hi) hA0 (by omega) (by omega) (by omega) hold).mono ?_
      rintro e W3 ⟨hs3, hk3, (⟨hne, rfl, hA⟩ | ⟨hnil, rfl⟩)⟩
      · have hB : bPairs b (i : Int) = ((prsOf ((allOf b (sures b.fs) (sures b.ss)).map fun z => bitOf (z.2.getD i (-1)))).every, (prsOf ((allOf b (sures b.fs) (sures b.ss)).map fun z => bitOf (z.2.getD i (-1)))).some, 0) := by
          simp only [bPairs, hok, HQ.out, hne, if_true, if_false]; simp
        have HB := Lib.hid hB
        clear hB hne
        have hlt := prsOf_lt (N := 6) ((allOf b (sures b.fs) (sures b.ss)).map fun z => bitOf (z.2.getD i (-1))) (fun y hy => by
          obtain ⟨z', hz', rfl⟩ := List.mem_map.1 hy
          obtain ⟨k1, k2⟩ := bJoins_mem (allOf_mem hz').2
          have hg : z'.2.getD i (-1) ∈ z'.2 := by rw [getD_get (by omega)]; exact List.getElem_mem _
          exact Nat.lt_of_lt_of_le (bitOf_lt (k2 _ hg)) (Nat.pow_le_pow_right (by omega) hlens.2))
        obtain ⟨_, ⟨d0, d1, d2, d3, dz⟩, _⟩ := hA
        generalize (prsOf ((allOf b (sures b.fs) (sures b.ss)).map fun z => bitOf (z.2.getD i (-1)))) = E at HB d1 d2 d3 hlt
        obtain ⟨E1, E2, E3⟩ := E
        simp only at d1 d2 d3 hlt HB
        have i1 : W3.heap[w.heap.size + 1]? = some (.cells #[.int .i64 0] 29) := hs3.obj (by omega) h2
        have hb3 : Below w.heap.size w W3 := hb0.trans ((hb1.mono hb0.size).trans ((hb2.mono (by omega)).trans (hs3.below (by omega) (fun k hk h => by omega))))
        have hl1 : (E1 : Int) < 64 := by omega
        have hl2 : (E2 : Int) < 64 := by omega
        have hsz3 := hs3.size
        have c10 := cell_block i1 0
        simp only [List.getElem?_toArray, List.getElem?_cons_zero, List.getElem?_cons_succ] at c10
        have f10 := frozen_block i1 0
        clear hs3 hk3 hB1 hr1 hb1 hk1 hold j1 j0 c4 hA0 h2 d0 d3 dz hlt
        go_wp2_with fail
        go_region
        all_goals
          go_wp2_with fail
          refine door_ret (v := .tuple #[.int .i64 E1, .int .i64 E2, .int .i64 0]) (by simp [results, Try.results19, go_sem, c10]) ?_
          unfold PairsPost
          rw [HB.out]
          exact ⟨rfl, (hb3.setCell (p := ⟨w.heap.size + 1, 0, none⟩) (by show w.heap.size ≤ w.heap.size + 1; omega) _).drew⟩
      · have hB : bPairs b (i : Int) = (0, 0, 4) := by simp only [bPairs, hok, HQ.out, hnil, if_true]
        have HB := Lib.hid hB
        clear hB hnil
        have i1 : W3.heap[w.heap.size + 1]? = some (.cells #[.int .i64 0] 29) := hs3.obj (by omega) h2
        have hb3 : Below w.heap.size w W3 := hb0.trans ((hb1.mono hb0.size).trans ((hb2.mono (by omega)).trans (hs3.below (by omega) (fun k hk h => by omega))))
        have hsz3 := hs3.size
        refine door_panic (y := 0) (v := .tuple #[.int .i64 0, .int .i64 0, .int .i64 4]) (cell_block i1 0) (frozen_block i1 0) (fun W' hs' hc' _ => ?_)
        refine ⟨by simp [results, Try.results19, go_sem, hc'], ?_⟩
        unfold PairsPost
        rw [HB.out]
        exact ⟨rfl, hb3.trans (hs'.below (by omega) (fun k hk h => by omega))⟩
end Go.Proofs.Ytjkegmjjhdmkiaa
namespace Go.Proofs.Ytjkegmjjhdmkiaa
open Go.RowKit Go.Shelf
set_option maxHeartbeats 1600000
set_option maxRecDepth 100000
set_option linter.unusedSimpArgs false

/-- What is told of the stars without counterpart. -/
def bAlone (b : Bo) : Nat × Nat × Int :=
  if b.ok then
    if allOf b (sures b.fs) (sures b.ss) = [] then (0, 0, 4)
    else (andN (2 ^ b.fs.length - 1) (allFirst ((allOf b (sures b.fs) (sures b.ss)).map (·.2))), andN (2 ^ b.ss.length - 1) (allSecond ((allOf b (sures b.fs) (sures b.ss)).map (·.2))), 0)
  else (0, 0, 1)

def AlonePost (b : Bo) (w : World) (e : Ending) (w' : World) : Prop :=
  e = .returned (.tuple #[.int .i64 (bAlone b).1, .int .i64 (bAlone b).2.1, .int .i64 (bAlone b).2.2]) ∧ Below w.heap.size w w'

theorem pow_sub (n : Nat) (hn : n ≤ 6) : IntKind.u64.wrap (IntKind.u64.wrap (2 ^ n) - 1) = ((2 ^ n - 1 : Nat) : Int) := by
  have h1 : 2 ^ n ≤ 2 ^ 6 := Nat.pow_le_pow_right (by omega) hn
  have h2 := Nat.two_pow_pos n
  rw [pow_u64 n (by omega), IntKind.wrap_u64]
  generalize 2 ^ n = x at h1 h2
  omega

theorem alone1_any (a : Option Addr) (n c : Nat) (hn : n ≤ 6) (w : World) :
    Calls Try.prog 55 #[.slice a n c] w fun e w' => e = .returned (.int .u64 ((2 ^ n - 1 : Nat) : Int)) ∧ w = w' := by
  have hn6 : (n : Int) ≤ 6 := by omega
  have hp := pow_sub n hn
  have hn64 : (n : Int) < 64 := by omega
  go_enter Try.func55, Try.ntmps55
  go_wp2
  go_ret
  exact ⟨rfl, rfl⟩

theorem alone_any (b : Bo) (fa sa : Option Addr) (fc sc : Nat) (w : World) (hb : BoArg w b fa sa) :
    Calls Try.prog 21 #[.agg #[.int .i64 b.e.lo, .int .i64 b.e.hi, .int .i64 b.n.lo, .int .i64 b.n.hi, .slice fa b.fs.length fc, .slice sa b.ss.length sc]] w (AlonePost b w) := by
  obtain ⟨hf, hs, hlf, hls⟩ := hb
  go_enter_defers Try.func21, Try.ntmps21
  go_wp2_with fail
  obtain ⟨W0, hW0⟩ : ∃ W, (((w.alloc (.cells #[.int .i64 b.e.lo, .int .i64 b.e.hi, .int .i64 b.n.lo, .int .i64 b.n.hi, .slice fa b.fs.length fc, .slice sa b.ss.length sc] 26)).alloc (.cells #[.int .i64 0] 29)).alloc (.cells #[.int .u64 0, .int .u64 0] 103)) = W := ⟨_, rfl⟩
  rw [hW0]
  try simp only [Nat.add_assoc, Nat.reduceAdd]
  have hst_W0 : Steps (fun _ => False) w W0 := by rw [← hW0]; exact ((Steps.alloc _ w _).trans (Steps.alloc (fun _ => False) _ _) (fun _ _ h => h)).trans (Steps.alloc (fun _ => False) _ _) (fun _ _ h => h)
  have hz_W0 : W0.heap.size = w.heap.size + 3 := by rw [← hW0]; simp
  have g0_W0 : W0.heap[w.heap.size]? = some (.cells #[.int .i64 b.e.lo, .int .i64 b.e.hi, .int .i64 b.n.lo, .int .i64 b.n.hi, .slice fa b.fs.length fc, .slice sa b.ss.length sc] 26) := by rw [← hW0]; simp only [alloc_get, World.size_alloc]; repeat (first | exact if_pos trivial | exact if_pos (by omega) | rw [if_neg (by omega)])
  have g1_W0 : W0.heap[w.heap.size + 1]? = some (.cells #[.int .i64 0] 29) := by rw [← hW0]; simp only [alloc_get, World.size_alloc]; repeat (first | exact if_pos trivial | exact if_pos (by omega) | rw [if_neg (by omega)])
  have g2_W0 : W0.heap[w.heap.size + 2]? = some (.cells #[.int .u64 0, .int .u64 0] 103) := by rw [← hW0]; simp only [alloc_get, World.size_alloc]; repeat (first | exact if_pos trivial | exact if_pos (by omega) | rw [if_neg (by omega)])
  clear hW0
  have hb0 : Below w.heap.size w W0 := hst_W0.below (Nat.le_refl _) (fun _ _ h => h)
  cases hok : b.ok with
  | false =>
    have hB : bAlone b = (0, 0, 1) := by simp [bAlone, hok]
    have HB := Lib.hid hB
    clear hB
    refine (open_no b fa sa fc sc W0 hok (hf.below hb0 (Nat.le_refl _)) (hs.below hb0 (Nat.le_refl _)) hlf hls).mono ?_
    rintro e W1 ⟨rfl, hb1⟩
    have hW1 : w.heap.size + 2 < W1.heap.size := by have := hb1.size; omega
    have j1 := obj_later hb1 g1_W0
    refine door_panic (y := 0) (v := .tuple #[.int .i64 0, .int .i64 0, .int .i64 1]) (cell_block j1 0) (frozen_block j1 0) (fun W' hs' hc' _ => ?_)
    refine ⟨by simp [results, Try.results21, go_sem, hc'], ?_⟩
    unfold AlonePost
    rw [HB.out]
    exact ⟨rfl, hb0.trans ((hb1.mono hb0.size).trans (hs'.below (by omega) (fun k hk h => by omega)))⟩
  | true =>
    refine (open_yes b fa sa fc sc W0 hok (hf.below hb0 (Nat.le_refl _)) (hs.below hb0 (Nat.le_refl _))).mono ?_
    rintro e W1 ⟨p, r, rfl, hB1, hr1, hrl, hpl, hb1⟩
    go_wp2_with fail
    have hW1 : w.heap.size + 2 < W1.heap.size := by have := hb1.size; omega
    have hk1 : KnownOk W1 r b := ⟨_, _, hr1, by simp⟩
    have hold : Old w W1 b fa sa (w.heap.size + 2) r := ⟨hf, hs, hb0.trans (hb1.mono hb0.size), by omega, by omega⟩
    have hlens := bo_lens hok
    have j0 := obj_later hb1 g0_W0
    have j1 := obj_later hb1 g1_W0
    have j2 := obj_later hb1 g2_W0
    have hA0 : JoinedA (w.heap.size + 2) b (sures b.fs) (sures b.ss) (fun _ => False) [] W1 := ⟨fun h => h, ⟨cell_block j2 0, cell_block j2 1, fun i => frozen_block j2 i⟩, by simp⟩
    refine (gather_any w 104 114 (w.heap.size + 2) p b fa sa fc sc (sures b.fs) (sures b.ss) r (JoinedA (w.heap.size + 2) b (sures b.fs) (sures b.ss)) W1 (.inr (.inr (.inl ⟨rfl, rfl⟩))) hB1 hk1 hok
      (Nat.lt_of_lt_of_le (sures_lt _) (Nat.pow_le_pow_right (by omega) hlens.1)) (sures_lt _) (joined_adder _ _ r b _ _ hok (by omega)) hA0 hW1 (by omega) (by omega) hold).mono ?_
    rintro e W2 ⟨hs2, hk2, (⟨hne, rfl, hA⟩ | ⟨hnil, rfl⟩)⟩
    · have hB : bAlone b = (andN (2 ^ b.fs.length - 1) (allFirst ((allOf b (sures b.fs) (sures b.ss)).map (·.2))), andN (2 ^ b.ss.length - 1) (allSecond ((allOf b (sures b.fs) (sures b.ss)).map (·.2))), 0) := by simp [bAlone, hok, hne]
      have HB := Lib.hid hB
      clear hB hne
      have e1 := allFirst_lt (N := 6) ((allOf b (sures b.fs) (sures b.ss)).map (·.2)) (fun y hy => by
        obtain ⟨z', hz', rfl⟩ := List.mem_map.1 hy
        have := (bJoins_mem (allOf_mem hz').2).1; omega)
      have e2 := allSecond_lt (N := 6) ((allOf b (sures b.fs) (sures b.ss)).map (·.2)) (fun y hy e he => by
        obtain ⟨z', hz', rfl⟩ := List.mem_map.1 hy
        have := (bJoins_mem (allOf_mem hz').2).2 e he; omega)
      obtain ⟨_, ⟨d0, d1, _⟩, _⟩ := hA
      generalize allFirst ((allOf b (sures b.fs) (sures b.ss)).map (·.2)) = E at HB d0 e1
      generalize allSecond ((allOf b (sures b.fs) (sures b.ss)).map (·.2)) = N at HB d1 e2
      have i0 : W2.heap[w.heap.size]? = some (.cells #[.int .i64 b.e.lo, .int .i64 b.e.hi, .int .i64 b.n.lo, .int .i64 b.n.hi, .slice fa b.fs.length fc, .slice sa b.ss.length sc] 26) := hs2.obj (by omega) j0
      have i1 : W2.heap[w.heap.size + 1]? = some (.cells #[.int .i64 0] 29) := hs2.obj (by omega) j1
      have hb2 : Below w.heap.size w W2 := hb0.trans ((hb1.mono hb0.size).trans (hs2.below (by omega) (fun k hk h => by omega)))
      have hsz2 := hs2.size
      clear hs2 hk2 hB1 hr1 hb1 hk1 hold j0 j1 j2 hA0
      have q1 : 2 ^ b.fs.length ≤ 2 ^ 6 := Nat.pow_le_pow_right (by omega) hlens.1
      have q2 : 2 ^ b.ss.length ≤ 2 ^ 6 := Nat.pow_le_pow_right (by omega) hlens.2
      have b1 := andN_bits (2 ^ b.fs.length - 1) E (by omega) (by omega)
      have b2 := andN_bits (2 ^ b.ss.length - 1) N (by omega) (by omega)
      have b3 : andN (2 ^ b.fs.length - 1) E < 64 := Nat.lt_of_le_of_lt Nat.and_le_left (by omega)
      have b4 : andN (2 ^ b.ss.length - 1) N < 64 := Nat.lt_of_le_of_lt Nat.and_le_left (by omega)
      generalize andN (2 ^ b.fs.length - 1) E = R1 at HB b1 b3
      generalize andN (2 ^ b.ss.length - 1) N = R2 at HB b2 b4
      have hc1 := alone1_any fa b.fs.length fc hlens.1 W2.drew
      have hc2 := alone1_any sa b.ss.length sc hlens.2 W2.drew
      generalize hX1 : 2 ^ b.fs.length - 1 = X1 at b1 hc1
      generalize hX2 : 2 ^ b.ss.length - 1 = X2 at b2 hc2
      clear hX1 hX2 q1 q2 hlens
      have b3' : (R1 : Int) < 64 := by omega
      have b4' : (R2 : Int) < 64 := by omega
      have w1 : IntKind.i64.wrap (R1 : Int) = R1 := by rw [IntKind.wrap_i64]; omega
      have w2 : IntKind.i64.wrap (R2 : Int) = R2 := by rw [IntKind.wrap_i64]; omega
      have c04 := cell_block i0 4
      have c05 := cell_block i0 5
      have c10 := cell_block i1 0
      simp only [List.getElem?_toArray, List.getElem?_cons_zero, List.getElem?_cons_succ] at c04 c05 c10
      have f10 := frozen_block i1 0
      go_upto_region 5 with fail
      have k0 : ∀ W', KeepCells (fun k => k = w.heap.size ∨ k = w.heap.size + 2) W2 W' → W'.cell? ⟨w.heap.size, 4, none⟩ = some (.slice fa b.fs.length fc) ∧ W'.cell? ⟨w.heap.size, 5, none⟩ = some (.slice sa b.ss.length sc) ∧ W'.cell? ⟨w.heap.size + 2, 0, none⟩ = some (.int .u64 E) ∧ W'.cell? ⟨w.heap.size + 2, 1, none⟩ = some (.int .u64 N) :=
        fun W' h => ⟨h _ _ (.inl rfl) c04, h _ _ (.inl rfl) c05, h _ _ (.inr rfl) d0, h _ _ (.inr rfl) d1⟩
      refine (wpIn_wide (n := 1)).1 ?_
      refine wpIn_region_Wn (S := fun W' => KeepCells (fun k => k = w.heap.size ∨ k = w.heap.size + 2) W2 W') 19 (by kernel_rfl) (by kernel_rfl) (fun a v _ h => h) (fun hHeld => ?_)
      refine wpAnyW_takeD 0 11 (v := ?_) (by kernel_rfl) (by kernel_rfl) (by kernel_rfl) (by kernel_rfl) (fun _ _ _ h => h) ?_ (by assumption) ?_
      rotate_left
      · intro oi hoi w hSw; (try dsimp only at hSw); simp only [List.getElem?_toArray, List.getElem?_cons_zero, List.getElem?_cons_succ, Option.some.injEq] at hoi; subst hoi; go_simp; try with_reducible rfl
      simp only [Act.put, List.setIfInBounds_toArray, List.set_cons_zero, List.set_cons_succ]
      refine wpAnyW_takeD 1 12 (v := ?_) (by kernel_rfl) (by kernel_rfl) (by kernel_rfl) (by kernel_rfl) (fun _ _ _ h => h) ?_ (by assumption) ?_
      rotate_left
      · intro oi hoi w hSw; (try dsimp only at hSw); simp only [List.getElem?_toArray, List.getElem?_cons_zero, List.getElem?_cons_succ, Option.some.injEq] at hoi; subst hoi; go_simp; try with_reducible rfl
      simp only [Act.put, List.setIfInBounds_toArray, List.set_cons_zero, List.set_cons_succ]
      refine wpAnyW_takeD 2 13 (v := ?_) (by kernel_rfl) (by kernel_rfl) (by kernel_rfl) (by kernel_rfl) (fun _ _ _ h => h) ?_ (by assumption) ?_
      rotate_left
      · intro oi hoi w hSw; (try dsimp only at hSw); simp only [List.getElem?_toArray, List.getElem?_cons_zero, List.getElem?_cons_succ, Option.some.injEq] at hoi; subst hoi; go_simp; try with_reducible rfl
      simp only [Act.put, List.setIfInBounds_toArray, List.set_cons_zero, List.set_cons_succ]
      refine wpAnyW_takeD 4 15 (v := ?_) (by kernel_rfl) (by kernel_rfl) (by kernel_rfl) (by kernel_rfl) (fun _ _ _ h => h) ?_ (by assumption) ?_
      rotate_left
      · intro oi hoi w hSw; (try dsimp only at hSw); simp only [List.getElem?_toArray, List.getElem?_cons_zero, List.getElem?_cons_succ, Option.some.injEq] at hoi; subst hoi; go_simp; try with_reducible rfl
      simp only [Act.put, List.setIfInBounds_toArray, List.set_cons_zero, List.set_cons_succ]
      refine wpAnyW_takeD 5 16 (v := ?_) (by kernel_rfl) (by kernel_rfl) (by kernel_rfl) (by kernel_rfl) (fun _ _ _ h => h) ?_ (by assumption) ?_
      rotate_left
      · intro oi hoi w hSw; (try dsimp only at hSw); simp only [List.getElem?_toArray, List.getElem?_cons_zero, List.getElem?_cons_succ, Option.some.injEq] at hoi; subst hoi; go_simp; try with_reducible rfl
      simp only [Act.put, List.setIfInBounds_toArray, List.set_cons_zero, List.set_cons_succ]
      refine wpAnyW_takeD 8 19 (v := ?_) (by kernel_rfl) (by kernel_rfl) (by kernel_rfl) (by kernel_rfl) (fun _ _ _ h => h) ?_ (by assumption) ?_
      rotate_left
      · intro oi hoi w hSw; (try dsimp only at hSw); simp only [List.getElem?_toArray, List.getElem?_cons_zero, List.getElem?_cons_succ, Option.some.injEq] at hoi; subst hoi; go_simp; try with_reducible rfl
      simp only [Act.put, List.setIfInBounds_toArray, List.set_cons_zero, List.set_cons_succ]
      refine wpAnyW_takeD 9 20 (v := ?_) (by kernel_rfl) (by kernel_rfl) (by kernel_rfl) (by kernel_rfl) (fun _ _ _ h => h) ?_ (by assumption) ?_
      rotate_left
      · intro oi hoi w hSw; (try dsimp only at hSw); simp only [List.getElem?_toArray, List.getElem?_cons_zero, List.getElem?_cons_succ, Option.some.injEq] at hoi; subst hoi; go_simp; try with_reducible rfl
      simp only [Act.put, List.setIfInBounds_toArray, List.set_cons_zero, List.set_cons_succ]
      refine wpAnyW_takeD 10 21 (v := ?_) (by kernel_rfl) (by kernel_rfl) (by kernel_rfl) (by kernel_rfl) (fun _ _ _ h => h) ?_ (by assumption) ?_
      rotate_left
      · intro oi hoi w hSw; (try dsimp only at hSw); simp only [List.getElem?_toArray, List.getElem?_cons_zero, List.getElem?_cons_succ, Option.some.injEq] at hoi; subst hoi; go_simp; try with_reducible rfl
      simp only [Act.put, List.setIfInBounds_toArray, List.set_cons_zero, List.set_cons_succ]
      refine wpAnyW_takeD 12 23 (v := ?_) (by kernel_rfl) (by kernel_rfl) (by kernel_rfl) (by kernel_rfl) (fun _ _ _ h => h) ?_ (by assumption) ?_
      rotate_left
      · intro oi hoi w hSw; (try dsimp only at hSw); simp only [List.getElem?_toArray, List.getElem?_cons_zero, List.getElem?_cons_succ, Option.some.injEq] at hoi; subst hoi; go_simp; try with_reducible rfl
      simp only [Act.put, List.setIfInBounds_toArray, List.set_cons_zero, List.set_cons_succ]
      refine wpAnyW_takeD 13 24 (v := ?_) (by kernel_rfl) (by kernel_rfl) (by kernel_rfl) (by kernel_rfl) (fun _ _ _ h => h) ?_ (by assumption) ?_
      rotate_left
      · intro oi hoi w hSw; (try dsimp only at hSw); simp only [List.getElem?_toArray, List.getElem?_cons_zero, List.getElem?_cons_succ, Option.some.injEq] at hoi; subst hoi; go_simp; try with_reducible rfl
      simp only [Act.put, List.setIfInBounds_toArray, List.set_cons_zero, List.set_cons_succ]
      refine wpAnyW_one 3 (by kernel_rfl) (by kernel_rfl) ?_
      intro o ho K hK
      simp only [List.getElem?_toArray, List.getElem?_cons_zero, List.getElem?_cons_succ, Option.some.injEq] at ho
      subst ho
      go_simp
      refine ⟨trivial, CallsIn.mono (callsIn_wide.2 hc1) ?_⟩
      rintro e W3 ⟨rfl, rfl⟩
      refine hK _ _ hHeld (fun _ => ?_)
      clear hK K
      try simp only [Act.put, List.setIfInBounds_toArray, List.set_cons_zero, List.set_cons_succ]
      refine wpAnyW_takeD 6 17 (v := ?_) (by kernel_rfl) (by kernel_rfl) (by kernel_rfl) (by kernel_rfl) (fun _ _ _ h => h) ?_ (by assumption) ?_
      rotate_left
      · intro oi hoi w hSw; (try dsimp only at hSw); simp only [List.getElem?_toArray, List.getElem?_cons_zero, List.getElem?_cons_succ, Option.some.injEq] at hoi; subst hoi; go_simp; try with_reducible rfl
      simp only [Act.put, List.setIfInBounds_toArray, List.set_cons_zero, List.set_cons_succ]
      refine wpAnyW_takeD 7 18 (v := ?_) (by kernel_rfl) (by kernel_rfl) (by kernel_rfl) (by kernel_rfl) (fun _ _ _ h => h) ?_ (by assumption) ?_
      rotate_left
      · intro oi hoi w hSw; (try dsimp only at hSw); simp only [List.getElem?_toArray, List.getElem?_cons_zero, List.getElem?_cons_succ, Option.some.injEq] at hoi; subst hoi; go_simp; try with_reducible rfl
      simp only [Act.put, List.setIfInBounds_toArray, List.set_cons_zero, List.set_cons_succ]
      refine wpAnyW_one 11 (by kernel_rfl) (by kernel_rfl) ?_
      intro o ho K hK
      simp only [List.getElem?_toArray, List.getElem?_cons_zero, List.getElem?_cons_succ, Option.some.injEq] at ho
      subst ho
      go_simp
      refine ⟨trivial, CallsIn.mono (callsIn_wide.2 hc2) ?_⟩
      rintro e W3 ⟨rfl, rfl⟩
      refine hK _ _ hHeld (fun _ => ?_)
      clear hK K
      try simp only [Act.put, List.setIfInBounds_toArray, List.set_cons_zero, List.set_cons_succ]
      refine wpAnyW_takeD 14 25 (v := ?_) (by kernel_rfl) (by kernel_rfl) (by kernel_rfl) (by kernel_rfl) (fun _ _ _ h => h) ?_ (by assumption) ?_
      rotate_left
      · intro oi hoi w hSw; (try dsimp only at hSw); simp only [List.getElem?_toArray, List.getElem?_cons_zero, List.getElem?_cons_succ, Option.some.injEq] at hoi; subst hoi; go_simp; try with_reducible rfl
      simp only [Act.put, List.setIfInBounds_toArray, List.set_cons_zero, List.set_cons_succ]
      refine wpAnyW_takeD 15 26 (v := ?_) (by kernel_rfl) (by kernel_rfl) (by kernel_rfl) (by kernel_rfl) (fun _ _ _ h => h) ?_ (by assumption) ?_
      rotate_left
      · intro oi hoi w hSw; (try dsimp only at hSw); simp only [List.getElem?_toArray, List.getElem?_cons_zero, List.getElem?_cons_succ, Option.some.injEq] at hoi; subst hoi; go_simp; try with_reducible rfl
      simp only [Act.put, List.setIfInBounds_toArray, List.set_cons_zero, List.set_cons_succ]
      refine wpAnyW_takeD 16 2 (v := ?_) (by kernel_rfl) (by kernel_rfl) (by kernel_rfl) (by kernel_rfl) (fun _ _ _ h => h) ?_ (by assumption) ?_
      rotate_left
      · intro oi hoi w hSw; (try dsimp only at hSw); simp only [List.getElem?_toArray, List.getElem?_cons_zero, List.getElem?_cons_succ, Option.some.injEq] at hoi; subst hoi; go_simp; try with_reducible rfl
      simp only [Act.put, List.setIfInBounds_toArray, List.set_cons_zero, List.set_cons_succ]
      refine wpAnyW_takeD 17 3 (v := ?_) (by kernel_rfl) (by kernel_rfl) (by kernel_rfl) (by kernel_rfl) (fun _ _ _ h => h) ?_ (by assumption) ?_
      rotate_left
      · intro oi hoi w hSw; (try dsimp only at hSw); simp only [List.getElem?_toArray, List.getElem?_cons_zero, List.getElem?_cons_succ, Option.some.injEq] at hoi; subst hoi; go_simp; try with_reducible rfl
      simp only [Act.put, List.setIfInBounds_toArray, List.set_cons_zero, List.set_cons_succ]
      refine wpAnyW_one 18 (by kernel_rfl) (by kernel_rfl) ?_
      intro o ho K hK
      simp only [List.getElem?_toArray, List.getElem?_cons_zero, List.getElem?_cons_succ, Option.some.injEq] at ho
      subst ho
      go_simp
      refine hK _ _ (KeepCells.trans hHeld (KeepCells.of_steps (Steps.setCell (own := fun k => k = w.heap.size + 1) W2.drew (p := ⟨w.heap.size + 1, 0, none⟩) rfl _) (fun k hk h => by omega))) (fun _ => ?_)
      clear hK K
      try simp only [Act.put, List.setIfInBounds_toArray, List.set_cons_zero, List.set_cons_succ]
      refine wpAnyW_done (by kernel_rfl) ?_ _
      dsimp only [onNormal]
      go_wp2_with fail
      refine door_ret (v := .tuple #[.int .i64 R1, .int .i64 R2, .int .i64 0]) (by simp [results, Try.results21, go_sem, c10, w1, w2]) ?_
      unfold AlonePost
      rw [HB.out]
      exact ⟨rfl, (hb2.setCell (p := ⟨w.heap.size + 1, 0, none⟩) (by show w.heap.size ≤ w.heap.size + 1; omega) _).drew⟩
    · have hB : bAlone b = (0, 0, 4) := by simp [bAlone, hok, hnil]
      have HB := Lib.hid hB
      clear hB hnil
      have i1 : W2.heap[w.heap.size + 1]? = some (.cells #[.int .i64 0] 29) := hs2.obj (by omega) j1
      have hb2 : Below w.heap.size w W2 := hb0.trans ((hb1.mono hb0.size).trans (hs2.below (by omega) (fun k hk h => by omega)))
      have hsz2 := hs2.size
      refine door_panic (y := 0) (v := .tuple #[.int .i64 0, .int .i64 0, .int .i64 4]) (cell_block i1 0) (frozen_block i1 0) (fun W' hs' hc' _ => ?_)
      refine ⟨by simp [results, Try.results21, go_sem, hc'], ?_⟩
      unfold AlonePost
      rw [HB.out]
      exact ⟨rfl, hb2.trans (hs'.below (by omega) (fun k hk h => by omega))⟩
end Go.Proofs.Ytjkegmjjhdmkiaa
namespace Go.Proofs.Ytjkegmjjhdmkiaa
open Go.RowKit Go.Shelf
set_option maxHeartbeats 1600000
set_option maxRecDepth 100000
set_option linter.unusedSimpArgs false

/-- The best joining, and the error. -/
def bBest (b : Bo) : Option Joined × Int :=
  if b.ok then
    match bestOf (allOf b (sures b.fs) (sures b.ss)) with
    | none => (none, 4)
    | some y => (some y, 0)
  else (none, 1)

/-- What is returned of it. -/
def BestOut (w' : World) (e : Ending) : Option Joined × Int → Prop
  | (none, x) => e = .returned (.tuple #[.int .i64 0, .int .i64 0, .slice none 0 0, .int .i64 x])
  | (some y, x) => ∃ q cap, e = .returned (.tuple #[.int .i64 y.1.1, .int .i64 y.1.2, .slice (some ⟨q, 0, none⟩) y.2.length cap, .int .i64 x]) ∧ IntsAt w' q y.2
def BestPost (b : Bo) (w : World) (e : Ending) (w' : World) : Prop := BestOut w' e (bBest b) ∧ Below w.heap.size w w'

theorem bestOf_none : ∀ {L : List Joined}, bestOf L = none → L = [] := by
  intro L
  unfold bestOf
  suffices h : ∀ (L : List Joined) (o : Option Joined), L.foldl (fun o z => match o with | none => some z | some y => if pairsIn y.2 < pairsIn z.2 then some z else some y) o = none → o = none ∧ L = [] from fun hy => (h L none hy).2
  intro L
  induction L with
  | nil => intro o h; exact ⟨h, rfl⟩
  | cons z L ih =>
    intro o h
    rw [List.foldl_cons] at h
    have := (ih _ h).1
    cases o with
    | none => cases this
    | some v => simp only at this; split at this <;> cases this

theorem best_any (b : Bo) (fa sa : Option Addr) (fc sc : Nat) (w : World) (hb : BoArg w b fa sa) :
    Calls Try.prog 23 #[.agg #[.int .i64 b.e.lo, .int .i64 b.e.hi, .int .i64 b.n.lo, .int .i64 b.n.hi, .slice fa b.fs.length fc, .slice sa b.ss.length sc]] w (BestPost b w) := by
  obtain ⟨hf, hs, hlf, hls⟩ := hb
  go_enter_defers Try.func23, Try.ntmps23
  go_wp2_with fail
  obtain ⟨W0, hW0⟩ : ∃ W, (((w.alloc (.cells #[.int .i64 b.e.lo, .int .i64 b.e.hi, .int .i64 b.n.lo, .int .i64 b.n.hi, .slice fa b.fs.length fc, .slice sa b.ss.length sc] 26)).alloc (.cells #[.int .i64 0] 29)).alloc (.cells #[.int .i64 0, .int .i64 0, .slice none 0 0, .int .i64 0] 108)) = W := ⟨_, rfl⟩
  rw [hW0]
  try simp only [Nat.add_assoc, Nat.reduceAdd]
  have hst_W0 : Steps (fun _ => False) w W0 := by rw [← hW0]; exact ((Steps.alloc _ w _).trans (Steps.alloc (fun _ => False) _ _) (fun _ _ h => h)).trans (Steps.alloc (fun _ => False) _ _) (fun _ _ h => h)
  have hz_W0 : W0.heap.size = w.heap.size + 3 := by rw [← hW0]; simp
  have g0_W0 : W0.heap[w.heap.size]? = some (.cells #[.int .i64 b.e.lo, .int .i64 b.e.hi, .int .i64 b.n.lo, .int .i64 b.n.hi, .slice fa b.fs.length fc, .slice sa b.ss.length sc] 26) := by rw [← hW0]; simp only [alloc_get, World.size_alloc]; repeat (first | exact if_pos trivial | exact if_pos (by omega) | rw [if_neg (by omega)])
  have g1_W0 : W0.heap[w.heap.size + 1]? = some (.cells #[.int .i64 0] 29) := by rw [← hW0]; simp only [alloc_get, World.size_alloc]; repeat (first | exact if_pos trivial | exact if_pos (by omega) | rw [if_neg (by omega)])
  have g2_W0 : W0.heap[w.heap.size + 2]? = some (.cells #[.int .i64 0, .int .i64 0, .slice none 0 0, .int .i64 0] 108) := by rw [← hW0]; simp only [alloc_get, World.size_alloc]; repeat (first | exact if_pos trivial | exact if_pos (by omega) | rw [if_neg (by omega)])
  clear hW0
  have hb0 : Below w.heap.size w W0 := hst_W0.below (Nat.le_refl _) (fun _ _ h => h)
  cases hok : b.ok with
  | false =>
    have hB : bBest b = (none, 1) := by simp [bBest, hok]
    have HB := Lib.hid hB
    clear hB
    refine (open_no b fa sa fc sc W0 hok (hf.below hb0 (Nat.le_refl _)) (hs.below hb0 (Nat.le_refl _)) hlf hls).mono ?_
    rintro e W1 ⟨rfl, hb1⟩
    have hW1 : w.heap.size + 2 < W1.heap.size := by have := hb1.size; omega
    have j1 := obj_later hb1 g1_W0
    refine door_panic (y := 0) (v := .tuple #[.int .i64 0, .int .i64 0, .slice none 0 0, .int .i64 1]) (cell_block j1 0) (frozen_block j1 0) (fun W' hs' hc' _ => ?_)
    refine ⟨by simp [results, Try.results23, go_sem, hc'], ?_⟩
    unfold BestPost
    rw [HB.out]
    exact ⟨rfl, hb0.trans ((hb1.mono hb0.size).trans (hs'.below (by omega) (fun k hk h => by omega)))⟩
  | true =>
    refine (open_yes b fa sa fc sc W0 hok (hf.below hb0 (Nat.le_refl _)) (hs.below hb0 (Nat.le_refl _))).mono ?_
    rintro e W1 ⟨p, r, rfl, hB1, hr1, hrl, hpl, hb1⟩
    go_wp2_with fail
    have hW1 : w.heap.size + 2 < W1.heap.size := by have := hb1.size; omega
    have hk1 : KnownOk W1 r b := ⟨_, _, hr1, by simp⟩
    have hold : Old w W1 b fa sa (w.heap.size + 2) r := ⟨hf, hs, hb0.trans (hb1.mono hb0.size), by omega, by omega⟩
    have hlens := bo_lens hok
    have j1 := obj_later hb1 g1_W0
    have j2 := obj_later hb1 g2_W0
    have hA0 : BestA W1.heap.size (w.heap.size + 2) r b (sures b.fs) (sures b.ss) (fun _ => False) [] W1 := ⟨fun h => h, ⟨cell_block j2 0, cell_block j2 1, cell_block j2 2, cell_block j2 3, fun i => frozen_block j2 i⟩, by simp⟩
    refine (gather_any w 109 115 (w.heap.size + 2) p b fa sa fc sc (sures b.fs) (sures b.ss) r (BestA W1.heap.size (w.heap.size + 2) r b (sures b.fs) (sures b.ss)) W1 (.inr (.inr (.inr ⟨rfl, rfl⟩))) hB1 hk1 hok
      (Nat.lt_of_lt_of_le (sures_lt _) (Nat.pow_le_pow_right (by omega) hlens.1)) (sures_lt _) (best_adder _ _ r b _ _ hok (by omega)) hA0 hW1 (by omega) (by omega) hold).mono ?_
    rintro e W2 ⟨hs2, hk2, (⟨hne, rfl, hA⟩ | ⟨hnil, rfl⟩)⟩
    · have hBe : ∀ y, bestOf (allOf b (sures b.fs) (sures b.ss)) = some y → bBest b = (some y, 0) := fun y hy => by simp [bBest, hok, hy]
      obtain ⟨_, hJ, _⟩ := hA
      cases hy : bestOf (allOf b (sures b.fs) (sures b.ss)) with
      | none => exact absurd (bestOf_none hy) hne
      | some y =>
        rw [hy] at hJ
        have HB := Lib.hid (hBe y hy)
        clear hBe hne hy
        obtain ⟨q, cap, ⟨d0, d1, d2, _, _⟩, hI, _, hqg, _, hqN⟩ := hJ
        obtain ⟨⟨y0, y1⟩, y2⟩ := y
        have i1 : W2.heap[w.heap.size + 1]? = some (.cells #[.int .i64 0] 29) := hs2.obj (by omega) j1
        have hb2 : Below w.heap.size w W2 := hb0.trans ((hb1.mono hb0.size).trans (hs2.below (by omega) (fun k hk h => by omega)))
        have hsz2 := hs2.size
        have hqne : q ≠ w.heap.size + 1 := by omega
        clear hs2 hk2 hB1 hr1 hb1 hk1 hold j1 j2 hA0
        have c10 := cell_block i1 0
        simp only [List.getElem?_toArray, List.getElem?_cons_zero, List.getElem?_cons_succ] at c10
        have f10 := frozen_block i1 0
        go_wp2_with fail
        go_region
        all_goals
          go_wp2_with fail
          refine door_ret (v := .tuple #[.int .i64 y0, .int .i64 y1, .slice (some ⟨q, 0, none⟩) y2.length cap, .int .i64 0]) (by simp [results, Try.results23, go_sem, c10]) ?_
          unfold BestPost
          rw [HB.out]
          exact ⟨⟨q, cap, rfl, hI.later (Below.heap_setCell _ _ _ _ hqne)⟩, (hb2.setCell (p := ⟨w.heap.size + 1, 0, none⟩) (by show w.heap.size ≤ w.heap.size + 1; omega) _).drew⟩
    · have hB : bBest b = (none, 4) := by simp [bBest, hok, hnil, bestOf]
      have HB := Lib.hid hB
      clear hB hnil
      have i1 : W2.heap[w.heap.size + 1]? = some (.cells #[.int .i64 0] 29) := hs2.obj (by omega) j1
      have hb2 : Below w.heap.size w W2 := hb0.trans ((hb1.mono hb0.size).trans (hs2.below (by omega) (fun k hk h => by omega)))
      have hsz2 := hs2.size
      refine door_panic (y := 0) (v := .tuple #[.int .i64 0, .int .i64 0, .slice none 0 0, .int .i64 4]) (cell_block i1 0) (frozen_block i1 0) (fun W' hs' hc' _ => ?_)
      refine ⟨by simp [results, Try.results23, go_sem, hc'], ?_⟩
      unfold BestPost
      rw [HB.out]
      exact ⟨rfl, hb2.trans (hs'.below (by omega) (fun k hk h => by omega))⟩
end Go.Proofs.Ytjkegmjjhdmkiaa
namespace Go.Proofs.Ytjkegmjjhdmkiaa
open Go.RowKit Go.Shelf
set_option maxHeartbeats 1600000
set_option maxRecDepth 100000
set_option linter.unusedSimpArgs false

def inR (n lo hi : Int) : Bool := decide (lo ≤ n) && decide (n ≤ hi)
/-- Whether two stars can be the same, and the error. -/
def bSame (b : Bo) (first second east north : Int) : Bool × Int :=
  if b.ok then
    if inR first 0 (b.fs.length - 1) && inR second 0 (b.ss.length - 1) && b.shift (east, north) then (b.same (east, north) first.toNat second.toNat, 0)
    else (false, 2)
  else (false, 1)

def SamePost (b : Bo) (first second east north : Int) (w : World) (e : Ending) (w' : World) : Prop :=
  e = .returned (.tuple #[.bool (bSame b first second east north).1, .int .i64 (bSame b first second east north).2]) ∧ Below w.heap.size w w'

theorem mxi0 (x0 x1 x2 x3 x4 x5 : Int) (w : World) : (Instr.index 79 (.agg #[.int .u64 x0, .int .u64 x1, .int .u64 x2, .int .u64 x3, .int .u64 x4, .int .u64 x5]) (.int .i64 0)).run Try.prog w = .ok (.int .u64 x0) w := by kernel_rfl
theorem mxi1 (x0 x1 x2 x3 x4 x5 : Int) (w : World) : (Instr.index 79 (.agg #[.int .u64 x0, .int .u64 x1, .int .u64 x2, .int .u64 x3, .int .u64 x4, .int .u64 x5]) (.int .i64 1)).run Try.prog w = .ok (.int .u64 x1) w := by kernel_rfl
theorem mxi2 (x0 x1 x2 x3 x4 x5 : Int) (w : World) : (Instr.index 79 (.agg #[.int .u64 x0, .int .u64 x1, .int .u64 x2, .int .u64 x3, .int .u64 x4, .int .u64 x5]) (.int .i64 2)).run Try.prog w = .ok (.int .u64 x2) w := by kernel_rfl
theorem mxi3 (x0 x1 x2 x3 x4 x5 : Int) (w : World) : (Instr.index 79 (.agg #[.int .u64 x0, .int .u64 x1, .int .u64 x2, .int .u64 x3, .int .u64 x4, .int .u64 x5]) (.int .i64 3)).run Try.prog w = .ok (.int .u64 x3) w := by kernel_rfl
theorem mxi4 (x0 x1 x2 x3 x4 x5 : Int) (w : World) : (Instr.index 79 (.agg #[.int .u64 x0, .int .u64 x1, .int .u64 x2, .int .u64 x3, .int .u64 x4, .int .u64 x5]) (.int .i64 4)).run Try.prog w = .ok (.int .u64 x4) w := by kernel_rfl
theorem mxi5 (x0 x1 x2 x3 x4 x5 : Int) (w : World) : (Instr.index 79 (.agg #[.int .u64 x0, .int .u64 x1, .int .u64 x2, .int .u64 x3, .int .u64 x4, .int .u64 x5]) (.int .i64 5)).run Try.prog w = .ok (.int .u64 x5) w := by kernel_rfl
theorem xsame_any (b : Bo) (first second east north : Int) (fa sa : Option Addr) (fc sc : Nat) (w : World) (hb : BoArg w b fa sa) :
    Calls Try.prog 13 #[.agg #[.int .i64 b.e.lo, .int .i64 b.e.hi, .int .i64 b.n.lo, .int .i64 b.n.hi, .slice fa b.fs.length fc, .slice sa b.ss.length sc], .int .i64 first, .int .i64 second, .int .i64 east, .int .i64 north] w (SamePost b first second east north w) := by
  obtain ⟨hf, hs, hlf, hls⟩ := hb
  go_enter_defers Try.func13, Try.ntmps13
  go_wp2_with fail
  obtain ⟨W0, hW0⟩ : ∃ W, ((w.alloc (.cells #[.int .i64 b.e.lo, .int .i64 b.e.hi, .int .i64 b.n.lo, .int .i64 b.n.hi, .slice fa b.fs.length fc, .slice sa b.ss.length sc] 26)).alloc (.cells #[.int .i64 0] 29)) = W := ⟨_, rfl⟩
  rw [hW0]
  try simp only [Nat.add_assoc, Nat.reduceAdd]
  have hst_W0 : Steps (fun _ => False) w W0 := by rw [← hW0]; exact (Steps.alloc _ w _).trans (Steps.alloc (fun _ => False) _ _) (fun _ _ h => h)
  have hz_W0 : W0.heap.size = w.heap.size + 2 := by rw [← hW0]; simp
  have g0_W0 : W0.heap[w.heap.size]? = some (.cells #[.int .i64 b.e.lo, .int .i64 b.e.hi, .int .i64 b.n.lo, .int .i64 b.n.hi, .slice fa b.fs.length fc, .slice sa b.ss.length sc] 26) := by rw [← hW0]; simp only [alloc_get, World.size_alloc]; repeat (first | exact if_pos trivial | exact if_pos (by omega) | rw [if_neg (by omega)])
  have g1_W0 : W0.heap[w.heap.size + 1]? = some (.cells #[.int .i64 0] 29) := by rw [← hW0]; simp only [alloc_get, World.size_alloc]; repeat (first | exact if_pos trivial | exact if_pos (by omega) | rw [if_neg (by omega)])
  clear hW0
  have hb0 : Below w.heap.size w W0 := hst_W0.below (Nat.le_refl _) (fun _ _ h => h)
  cases hok : b.ok with
  | false =>
    have hB : bSame b first second east north = (false, 1) := by simp [bSame, hok]
    have HB := Lib.hid hB
    clear hB
    refine (open_no b fa sa fc sc W0 hok (hf.below hb0 (Nat.le_refl _)) (hs.below hb0 (Nat.le_refl _)) hlf hls).mono ?_
    rintro e W1 ⟨rfl, hb1⟩
    have hW1 : w.heap.size + 1 < W1.heap.size := by have := hb1.size; omega
    have j1 := obj_later hb1 g1_W0
    refine door_panic (y := 0) (v := .tuple #[.bool false, .int .i64 1]) (cell_block j1 0) (frozen_block j1 0) (fun W' hs' hc' _ => ?_)
    refine ⟨by simp [results, Try.results13, go_sem, hc'], ?_⟩
    unfold SamePost
    rw [HB.out]
    exact ⟨rfl, hb0.trans ((hb1.mono hb0.size).trans (hs'.below (by omega) (fun k hk h => by omega)))⟩
  | true =>
    refine (open_yes b fa sa fc sc W0 hok (hf.below hb0 (Nat.le_refl _)) (hs.below hb0 (Nat.le_refl _))).mono ?_
    rintro e W1 ⟨p, r, rfl, hB1, hr1, hrl, hpl, hb1⟩
    have hW1 : w.heap.size + 1 < W1.heap.size := by have := hb1.size; omega
    have hk1 : KnownOk W1 r b := ⟨_, _, hr1, by simp⟩
    have hlens := bo_lens hok
    have hl6 : (b.fs.length : Int) ≤ 6 := by omega
    have hl6s : (b.ss.length : Int) ≤ 6 := by omega
    obtain ⟨q1, hq1⟩ : ∃ q, inR first 0 ((b.fs.length : Int) - 1) = q := ⟨_, rfl⟩
    obtain ⟨q2, hq2⟩ : ∃ q, inR second 0 ((b.ss.length : Int) - 1) = q := ⟨_, rfl⟩
    obtain ⟨q3, hq3⟩ : ∃ q, b.shift (east, north) = q := ⟨_, rfl⟩
    have HQ1 := Lib.hid hq1
    have HQ2 := Lib.hid hq2
    have HQ3 := Lib.hid hq3
    have hBad : (q1 && q2 && q3) = false → bSame b first second east north = (false, 2) := fun h => by
      simp only [bSame, hok, if_true, hq1, hq2, hq3, h, Bool.false_eq_true, if_false]
    have HBAD := Lib.hid hBad
    clear hq1 hq2 hq3 hBad
    go_upto_region 3 with fail
    obtain ⟨W2, hW2⟩ : ∃ W, (W1.alloc (.cells #[.int .i64 east, .int .i64 north] 72)) = W := ⟨_, rfl⟩
    rw [hW2]
    try simp only [Nat.add_assoc, Nat.reduceAdd]
    have hst_W2 : Steps (fun _ => False) W1 W2 := by rw [← hW2]; exact Steps.alloc _ W1 _
    have hz_W2 : W2.heap.size = W1.heap.size + 1 := by rw [← hW2]; simp
    have g0_W2 : W2.heap[W1.heap.size]? = some (.cells #[.int .i64 east, .int .i64 north] 72) := by rw [← hW2]; simp only [alloc_get, World.size_alloc]; repeat (first | exact if_pos trivial | exact if_pos (by omega) | rw [if_neg (by omega)])
    clear hW2
    have hb2 : Below W1.heap.size W1 W2 := hst_W2.below (Nat.le_refl _) (fun _ _ h => h)
    have hB2 := hB1.later hb2
    have hk2 := hk1.steps hst_W2 (fun h => h)
    have j0 := obj_later hb2 (obj_later hb1 g0_W0)
    have j1 := obj_later hb2 (obj_later hb1 g1_W0)
    have c04 := cell_block j0 4
    have c05 := cell_block j0 5
    have e0 := cell_block g0_W2 0
    have e1 := cell_block g0_W2 1
    simp only [List.getElem?_toArray, List.getElem?_cons_zero, List.getElem?_cons_succ] at c04 c05 e0 e1
    have hbw : Below w.heap.size w W2 := hb0.trans ((hb1.mono hb0.size).trans (hb2.mono (by omega)))
    go_wp2_with fail
    refine (within_b first 0 ((b.fs.length : Int) - 1) q1 HQ1.out _).mono ?_
    rintro e W2' ⟨rfl, rfl⟩
    cases q1 with
    | false =>
      go_wp2_with (go_at_call 42; refine (must_no _ _).mono ?_; rintro e w' ⟨rfl, rfl⟩)
      refine door_panic (y := 0) (v := .tuple #[.bool false, .int .i64 2]) (cell_block j1 0) (frozen_block j1 0) (fun W' hs' hc' _ => ?_)
      refine ⟨by simp [results, Try.results13, go_sem, hc'], ?_⟩
      unfold SamePost
      rw [HBAD.out rfl]
      exact ⟨rfl, hbw.trans (hs'.below (by omega) (fun k hk h => by omega))⟩
    | true =>
      go_wp2_with fail
      refine (within_b second 0 ((b.ss.length : Int) - 1) q2 HQ2.out _).mono ?_
      rintro e W2' ⟨rfl, rfl⟩
      cases q2 with
      | false =>
        go_wp2_with (go_at_call 42; refine (must_no _ _).mono ?_; rintro e w' ⟨rfl, rfl⟩)
        refine door_panic (y := 0) (v := .tuple #[.bool false, .int .i64 2]) (cell_block j1 0) (frozen_block j1 0) (fun W' hs' hc' _ => ?_)
        refine ⟨by simp [results, Try.results13, go_sem, hc'], ?_⟩
        unfold SamePost
        rw [HBAD.out rfl]
        exact ⟨rfl, hbw.trans (hs'.below (by omega) (fun k hk h => by omega))⟩
      | true =>
        go_wp2_with fail
        refine (isShift_any p b fa sa fc sc (east, north) _ hB2.bo).mono ?_
        rintro e W3 ⟨rfl, hb3⟩
        rw [HQ3.out]
        have j1' := obj_later hb3 j1
        have hz3 := hb3.size
        cases q3 with
        | false =>
          go_wp2_with (go_at_call 42; refine (must_no _ _).mono ?_; rintro e w' ⟨rfl, rfl⟩)
          refine door_panic (y := 0) (v := .tuple #[.bool false, .int .i64 2]) (cell_block j1' 0) (frozen_block j1' 0) (fun W' hs' hc' _ => ?_)
          refine ⟨by simp [results, Try.results13, go_sem, hc'], ?_⟩
          unfold SamePost
          rw [HBAD.out rfl]
          exact ⟨rfl, hbw.trans ((hb3.mono (by omega)).trans (hs'.below (by omega) (fun k hk h => by omega)))⟩
        | true =>
          have hsh := HQ3.out
          have r1 := HQ1.out
          have r2 := HQ2.out
          simp only [inR, Bool.and_eq_true, decide_eq_true_eq] at r1 r2
          obtain ⟨i, rfl⟩ := Int.eq_ofNat_of_zero_le r1.1
          obtain ⟨k, rfl⟩ := Int.eq_ofNat_of_zero_le r2.1
          have hi : i < b.fs.length := by omega
          have hk : k < b.ss.length := by omega
          have hB : bSame b (i : Int) (k : Int) east north = ((b.row (east, north) i).testBit k, 0) := by
            simp only [bSame, hok, HQ1.out, HQ2.out, HQ3.out, Bool.and_self, if_true, Int.toNat_natCast]
            unfold Bo.row
            rw [maskOf_testBit]
            simp [hk]
          have HB := Lib.hid hB
          have hB3 := hB2.later hb3
          have hk3 : KnownOk W3 r b := by
            obtain ⟨es, clk, h1, h2⟩ := hk2
            exact ⟨es, clk, obj_later hb3 h1, h2⟩
          have i0 := obj_later hb3 g0_W2
          have e0 := cell_block i0 0
          have e1 := cell_block i0 1
          simp only [List.getElem?_toArray, List.getElem?_cons_zero, List.getElem?_cons_succ] at e0 e1
          clear r1 r2 hB hsh
          go_wp2_with (go_at_call 42; refine (must_yes _ _).mono ?_; rintro e w' ⟨rfl, rfl⟩)
          refine (matches_any p b fa sa fc sc (sures b.fs) (sures b.ss) r (east, north) W3 hB3 hk3 hok HQ3.out).mono ?_
          rintro e W4 ⟨rfl, hs4, hk4⟩
          unfold mtV
          have j4 : W4.heap[w.heap.size + 1]? = some (.cells #[.int .i64 0] 29) := hs4.obj (by omega) j1'
          have c40 := cell_block j4 0
          simp only [List.getElem?_toArray, List.getElem?_cons_zero, List.getElem?_cons_succ] at c40
          have f40 := frozen_block j4 0
          have hb4 : Below w.heap.size w W4 := hbw.trans ((hb3.mono (by omega)).trans (hs4.below (by omega) (fun k hk h => by omega)))
          have hz4 := hs4.size
          have hrl := fun i => Nat.lt_of_lt_of_le (row_lt b (east, north) i) (Nat.pow_le_pow_right (n := 2) (by omega) (show b.ss.length ≤ 64 by omega))
          have hhas := has_any (b.row (east, north) i) k W4 (hrl i) (by omega)
          have hB := HB.out
          generalize (b.row (east, north) i).testBit k = tb at hhas hB
          have HB' := Lib.hid hB
          clear hB HB
          have h6 : i = 0 ∨ i = 1 ∨ i = 2 ∨ i = 3 ∨ i = 4 ∨ i = 5 := by omega
          have HH := Lib.hid hhas
          clear hhas hrl j0 j1 j1' i0 hb3 hk2 hk3 hB3 hB2 hs4 hk4 hb2 c04 c05 e0 e1
          have n0 := mxi0
          have n1 := mxi1
          have n2 := mxi2
          have n3 := mxi3
          have n4 := mxi4
          have n5 := mxi5
          rcases h6 with rfl | rfl | rfl | rfl | rfl | rfl
          all_goals
            go_wp2_with (go_at_call 46; refine HH.out.mono ?_; rintro e w' ⟨rfl, rfl⟩)
            refine door_ret (v := .tuple #[.bool tb, .int .i64 0]) (by simp [results, Try.results13, go_sem, c40]) ?_
            unfold SamePost
            rw [HB'.out]
            exact ⟨rfl, hb4.setCell (p := ⟨w.heap.size + 1, 0, none⟩) (by show w.heap.size ≤ w.heap.size + 1; omega) _⟩
end Go.Proofs.Ytjkegmjjhdmkiaa
