/- Package border: whether two stars can be the same. -/
import Derived.Test.YtjkegmjjhdmkiaaE4
namespace Go.Proofs.Ytjkegmjjhdmkiaa
open Go.RowKit Go.Shelf
set_option maxHeartbeats 1600000
set_option maxRecDepth 100000
set_option linter.unusedSimpArgs false

def inR (n lo hi : Int) : Bool := decide (lo ≤ n) && decide (n ≤ hi)
/-- Whether two stars can be the same, and the error. -/
def bSame (b : Bo) (first second east north : Int) : Bool × Int :=
  if b.ok then
    if inR first 0 (b.fs.length - 1) && inR second 0 (b.ss.length - 1) && b.shift (east, north) then (b.same (east, north) first.toNat second.toNat, 0)
    else (false, 2)
  else (false, 1)

def SamePost (b : Bo) (first second east north : Int) (w : World) (e : Ending) (w' : World) : Prop :=
  e = .returned (.tuple #[.bool (bSame b first second east north).1, .int .i64 (bSame b first second east north).2]) ∧ Below w.heap.size w w'

theorem mxi0 (x0 x1 x2 x3 x4 x5 : Int) (w : World) : (Instr.index 79 (.agg #[.int .u64 x0, .int .u64 x1, .int .u64 x2, .int .u64 x3, .int .u64 x4, .int .u64 x5]) (.int .i64 0)).run Try.prog w = .ok (.int .u64 x0) w := by kernel_rfl
theorem mxi1 (x0 x1 x2 x3 x4 x5 : Int) (w : World) : (Instr.index 79 (.agg #[.int .u64 x0, .int .u64 x1, .int .u64 x2, .int .u64 x3, .int .u64 x4, .int .u64 x5]) (.int .i64 1)).run Try.prog w = .ok (.int .u64 x1) w := by kernel_rfl
theorem mxi2 (x0 x1 x2 x3 x4 x5 : Int) (w : World) : (Instr.index 79 (.agg #[.int .u64 x0, .int .u64 x1, .int .u64 x2, .int .u64 x3, .int .u64 x4, .int .u64 x5]) (.int .i64 2)).run Try.prog w = .ok (.int .u64 x2) w := by kernel_rfl
theorem mxi3 (x0 x1 x2 x3 x4 x5 : Int) (w : World) : (Instr.index 79 (.agg #[.int .u64 x0, .int .u64 x1, .int .u64 x2, .int .u64 x3, .int .u64 x4, .int .u64 x5]) (.int .i64 3)).run Try.prog w = .ok (.int .u64 x3) w := by kernel_rfl
theorem mxi4 (x0 x1 x2 x3 x4 x5 : Int) (w : World) : (Instr.index 79 (.agg #[.int .u64 x0, .int .u64 x1, .int .u64 x2, .int .u64 x3, .int .u64 x4, .int .u64 x5]) (.int .i64 4)).run Try.prog w = .ok (.int .u64 x4) w := by kernel_rfl
theorem mxi5 (x0 x1 x2 x3 x4 x5 : Int) (w : World) : (Instr.index 79 (.agg #[.int .u64 x0, .int .u64 x1, .int .u64 x2, .int .u64 x3, .int .u64 x4, .int .u64 x5]) (.int .i64 5)).run Try.prog w = .ok (.int .u64 x5) w := by kernel_rfl
theorem xsame_any (b : Bo) (first second east north : Int) (fa sa : Option Addr) (fc sc : Nat) (w : World) (hb : BoArg w b fa sa) :
    Calls Try.prog 13 #[.agg #[.int .i64 b.e.lo, .int .i64 b.e.hi, .int .i64 b.n.lo, .int .i64 b.n.hi, .slice fa b.fs.length fc, .slice sa b.ss.length sc], .int .i64 first, .int .i64 second, .int .i64 east, .int .i64 north] w (SamePost b first second east north w) := by
  obtain ⟨hf, hs, hlf, hls⟩ := hb
  go_enter_defers Try.func13, Try.ntmps13
  go_wp2_with fail
  obtain ⟨W0, hW0⟩ : ∃ W, ((w.alloc (.cells #[.int .i64 b.e.lo, .int .i64 b.e.hi, .int .i64 b.n.lo, .int .i64 b.n.hi, .slice fa b.fs.length fc, .slice sa b.ss.length sc] 26)).alloc (.cells #[.int .i64 0] 29)) = W := ⟨_, rfl⟩
  rw [hW0]
  try simp only [Nat.add_assoc, Nat.reduceAdd]
  have hst_W0 : Steps (fun _ => False) w W0 := by rw [← hW0]; exact (Steps.alloc _ w _).trans (Steps.alloc (fun _ => False) _ _) (fun _ _ h => h)
  have hz_W0 : W0.heap.size = w.heap.size + 2 := by rw [← hW0]; simp
  have g0_W0 : W0.heap[w.heap.size]? = some (.cells #[.int .i64 b.e.lo, .int .i64 b.e.hi, .int .i64 b.n.lo, .int .i64 b.n.hi, .slice fa b.fs.length fc, .slice sa b.ss.length sc] 26) := by rw [← hW0]; simp only [alloc_get, World.size_alloc]; repeat (first | exact if_pos trivial | exact if_pos (by omega) | rw [if_neg (by omega)])
  have g1_W0 : W0.heap[w.heap.size + 1]? = some (.cells #[.int .i64 0] 29) := by rw [← hW0]; simp only [alloc_get, World.size_alloc]; repeat (first | exact if_pos trivial | exact if_pos (by omega) | rw [if_neg (by omega)])
  clear hW0
  have hb0 : Below w.heap.size w W0 := hst_W0.below (Nat.le_refl _) (fun _ _ h => h)
  cases hok : b.ok with
  | false =>
    have hB : bSame b first second east north = (false, 1) := by simp [bSame, hok]
    have HB := Lib.hid hB
    clear hB
    refine (open_no b fa sa fc sc W0 hok (hf.below hb0 (Nat.le_refl _)) (hs.below hb0 (Nat.le_refl _)) hlf hls).mono ?_
    rintro e W1 ⟨rfl, hb1⟩
    have hW1 : w.heap.size + 1 < W1.heap.size := by have := hb1.size; omega
    have j1 := obj_later hb1 g1_W0
    refine door_panic (y := 0) (v := .tuple #[.bool false, .int .i64 1]) (cell_block j1 0) (frozen_block j1 0) (fun W' hs' hc' _ => ?_)
    refine ⟨by simp [results, Try.results13, go_sem, hc'], ?_⟩
    unfold SamePost
    rw [HB.out]
    exact ⟨rfl, hb0.trans ((hb1.mono hb0.size).trans (hs'.below (by omega) (fun k hk h => by omega)))⟩
  | true =>
    refine (open_yes b fa sa fc sc W0 hok (hf.below hb0 (Nat.le_refl _)) (hs.below hb0 (Nat.le_refl _))).mono ?_
    rintro e W1 ⟨p, r, rfl, hB1, hr1, hrl, hpl, hb1⟩
    have hW1 : w.heap.size + 1 < W1.heap.size := by have := hb1.size; omega
    have hk1 : KnownOk W1 r b := ⟨_, _, hr1, by simp⟩
    have hlens := bo_lens hok
    have hl6 : (b.fs.length : Int) ≤ 6 := by omega
    have hl6s : (b.ss.length : Int) ≤ 6 := by omega
    obtain ⟨q1, hq1⟩ : ∃ q, inR first 0 ((b.fs.length : Int) - 1) = q := ⟨_, rfl⟩
    obtain ⟨q2, hq2⟩ : ∃ q, inR second 0 ((b.ss.length : Int) - 1) = q := ⟨_, rfl⟩
    obtain ⟨q3, hq3⟩ : ∃ q, b.shift (east, north) = q := ⟨_, rfl⟩
    have HQ1 := Lib.hid hq1
    have HQ2 := Lib.hid hq2
    have HQ3 := Lib.hid hq3
    have hBad : (q1 && q2 && q3) = false → bSame b first second east north = (false, 2) := fun h => by
      simp only [bSame, hok, if_true, hq1, hq2, hq3, h, Bool.false_eq_true, if_false]
    have HBAD := Lib.hid hBad
    clear hq1 hq2 hq3 hBad
    go_upto_region 3 with fail
    obtain ⟨W2, hW2⟩ : ∃ W, (W1.alloc (.cells #[.int .i64 east, .int .i64 north] 72)) = W := ⟨_, rfl⟩
    rw [hW2]
    try simp only [Nat.add_assoc, Nat.reduceAdd]
    have hst_W2 : Steps (fun _ => False) W1 W2 := by rw [← hW2]; exact Steps.alloc _ W1 _
    have hz_W2 : W2.heap.size = W1.heap.size + 1 := by rw [← hW2]; simp
    have g0_W2 : W2.heap[W1.heap.size]? = some (.cells #[.int .i64 east, .int .i64 north] 72) := by rw [← hW2]; simp only [alloc_get, World.size_alloc]; repeat (first | exact if_pos trivial | exact if_pos (by omega) | rw [if_neg (by omega)])
    clear hW2
    have hb2 : Below W1.heap.size W1 W2 := hst_W2.below (Nat.le_refl _) (fun _ _ h => h)
    have hB2 := hB1.later hb2
    have hk2 := hk1.steps hst_W2 (fun h => h)
    have j0 := obj_later hb2 (obj_later hb1 g0_W0)
    have j1 := obj_later hb2 (obj_later hb1 g1_W0)
    have c04 := cell_block j0 4
    have c05 := cell_block j0 5
    have e0 := cell_block g0_W2 0
    have e1 := cell_block g0_W2 1
    simp only [List.getElem?_toArray, List.getElem?_cons_zero, List.getElem?_cons_succ] at c04 c05 e0 e1
    have hbw : Below w.heap.size w W2 := hb0.trans ((hb1.mono hb0.size).trans (hb2.mono (by omega)))
    go_wp2_with fail
    refine (within_b first 0 ((b.fs.length : Int) - 1) q1 HQ1.out _).mono ?_
    rintro e W2' ⟨rfl, rfl⟩
    cases q1 with
    | false =>
      go_wp2_with (go_at_call 42; refine (must_no _ _).mono ?_; rintro e w' ⟨rfl, rfl⟩)
      refine door_panic (y := 0) (v := .tuple #[.bool false, .int .i64 2]) (cell_block j1 0) (frozen_block j1 0) (fun W' hs' hc' _ => ?_)
      refine ⟨by simp [results, Try.results13, go_sem, hc'], ?_⟩
      unfold SamePost
      rw [HBAD.out rfl]
      exact ⟨rfl, hbw.trans (hs'.below (by omega) (fun k hk h => by omega))⟩
    | true =>
      go_wp2_with fail
      refine (within_b second 0 ((b.ss.length : Int) - 1) q2 HQ2.out _).mono ?_
      rintro e W2' ⟨rfl, rfl⟩
      cases q2 with
      | false =>
        go_wp2_with (go_at_call 42; refine (must_no _ _).mono ?_; rintro e w' ⟨rfl, rfl⟩)
        refine door_panic (y := 0) (v := .tuple #[.bool false, .int .i64 2]) (cell_block j1 0) (frozen_block j1 0) (fun W' hs' hc' _ => ?_)
        refine ⟨by simp [results, Try.results13, go_sem, hc'], ?_⟩
        unfold SamePost
        rw [HBAD.out rfl]
        exact ⟨rfl, hbw.trans (hs'.below (by omega) (fun k hk h => by omega))⟩
      | true =>
        go_wp2_with fail
        refine (isShift_any p b fa sa fc sc (east, north) _ hB2.bo).mono ?_
        rintro e W3 ⟨rfl, hb3⟩
        rw [HQ3.out]
        have j1' := obj_later hb3 j1
        have hz3 := hb3.size
        cases q3 with
        | false =>
          go_wp2_with (go_at_call 42; refine (must_no _ _).mono ?_; rintro e w' ⟨rfl, rfl⟩)
          refine door_panic (y := 0) (v := .tuple #[.bool false, .int .i64 2]) (cell_block j1' 0) (frozen_block j1' 0) (fun W' hs' hc' _ => ?_)
          refine ⟨by simp [results, Try.results13, go_sem, hc'], ?_⟩
          unfold SamePost
          rw [HBAD.out rfl]
          exact ⟨rfl, hbw.trans ((hb3.mono (by omega)).trans (hs'.below (by omega) (fun k hk h => by omega)))⟩
        | true =>
          have hsh := HQ3.out
          have r1 := HQ1.out
          have r2 := HQ2.out
          simp only [inR, Bool.and_eq_true, decide_eq_true_eq] at r1 r2
          obtain ⟨i, rfl⟩ := Int.eq_ofNat_of_zero_le r1.1
          obtain ⟨k, rfl⟩ := Int.eq_ofNat_of_zero_le r2.1
          have hi : i < b.fs.length := by omega
          have hk : k < b.ss.length := by omega
          have hB : bSame b (i : Int) (k : Int) east north = ((b.row (east, north) i).testBit k, 0) := by
            simp only [bSame, hok, HQ1.out, HQ2.out, HQ3.out, Bool.and_self, if_true, Int.toNat_natCast]
            unfold Bo.row
            rw [maskOf_testBit]
            simp [hk]
          have HB := Lib.hid hB
          have hB3 := hB2.later hb3
          have hk3 : KnownOk W3 r b := by
            obtain ⟨es, clk, h1, h2⟩ := hk2
            exact ⟨es, clk, obj_later hb3 h1, h2⟩
          have i0 := obj_later hb3 g0_W2
          have e0 := cell_block i0 0
          have e1 := cell_block i0 1
          simp only [List.getElem?_toArray, List.getElem?_cons_zero, List.getElem?_cons_succ] at e0 e1
          clear r1 r2 hB hsh
          go_wp2_with (go_at_call 42; refine (must_yes _ _).mono ?_; rintro e w' ⟨rfl, rfl⟩)
          refine (matches_any p b fa sa fc sc (sures b.fs) (sures b.ss) r (east, north) W3 hB3 hk3 hok HQ3.out).mono ?_
          rintro e W4 ⟨rfl, hs4, hk4⟩
          unfold mtV
          have j4 : W4.heap[w.heap.size + 1]? = some (.cells #[.int .i64 0] 29) := hs4.obj (by omega) j1'
          have c40 := cell_block j4 0
          simp only [List.getElem?_toArray, List.getElem?_cons_zero, List.getElem?_cons_succ] at c40
          have f40 := frozen_block j4 0
          have hb4 : Below w.heap.size w W4 := hbw.trans ((hb3.mono (by omega)).trans (hs4.below (by omega) (fun k hk h => by omega)))
          have hz4 := hs4.size
          have hrl := fun i => Nat.lt_of_lt_of_le (row_lt b (east, north) i) (Nat.pow_le_pow_right (n := 2) (by omega) (show b.ss.length ≤ 64 by omega))
          have hhas := has_any (b.row (east, north) i) k W4 (hrl i) (by omega)
          have hB := HB.out
          generalize (b.row (east, north) i).testBit k = tb at hhas hB
          have HB' := Lib.hid hB
          clear hB HB
          have h6 : i = 0 ∨ i = 1 ∨ i = 2 ∨ i = 3 ∨ i = 4 ∨ i = 5 := by omega
          have HH := Lib.hid hhas
          clear hhas hrl j0 j1 j1' i0 hb3 hk2 hk3 hB3 hB2 hs4 hk4 hb2 c04 c05 e0 e1
          have n0 := mxi0
          have n1 := mxi1
          have n2 := mxi2
          have n3 := mxi3
          have n4 := mxi4
          have n5 := mxi5
          rcases h6 with rfl | rfl | rfl | rfl | rfl | rfl
          all_goals
            go_wp2_with (go_at_call 46; refine HH.out.mono ?_; rintro e w' ⟨rfl, rfl⟩)
            refine door_ret (v := .tuple #[.bool tb, .int .i64 0]) (by simp [results, Try.results13, go_sem, c40]) ?_
            unfold SamePost
            rw [HB'.out]
            exact ⟨rfl, hb4.setCell (p := ⟨w.heap.size + 1, 0, none⟩) (by show w.heap.size ≤ w.heap.size + 1; omega) _⟩
end Go.Proofs.Ytjkegmjjhdmkiaa
