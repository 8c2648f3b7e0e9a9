/- Package border: which stars a star surely is, and can be. -/
import Derived.Test.YtjkegmjjhdmkiaaE1
namespace Go.Proofs.Ytjkegmjjhdmkiaa
open Go.RowKit Go.Shelf
set_option maxHeartbeats 1600000
set_option maxRecDepth 100000
set_option linter.unusedSimpArgs false

/-- What is told of a star's pairs. -/
def bPairs (b : Bo) (first : Int) : Nat × Nat × Int :=
  if b.ok then
    if decide (0 ≤ first) && decide (first ≤ b.fs.length - 1) then
      if allOf b (sures b.fs) (sures b.ss) = [] then (0, 0, 4)
      else ((prsOf ((allOf b (sures b.fs) (sures b.ss)).map fun z => bitOf (z.2.getD first.toNat (-1)))).every, (prsOf ((allOf b (sures b.fs) (sures b.ss)).map fun z => bitOf (z.2.getD first.toNat (-1)))).some, 0)
    else (0, 0, 2)
  else (0, 0, 1)

def PairsPost (b : Bo) (first : Int) (w : World) (e : Ending) (w' : World) : Prop :=
  e = .returned (.tuple #[.int .i64 (bPairs b first).1, .int .i64 (bPairs b first).2.1, .int .i64 (bPairs b first).2.2]) ∧ Below w.heap.size w w'

theorem within_b (n lo hi : Int) (q : Bool) (h : (decide (lo ≤ n) && decide (n ≤ hi)) = q) (w : World) :
    Calls Try.prog 43 #[.int .i64 n, .int .i64 lo, .int .i64 hi] w fun e w' => e = .returned (.bool q) ∧ w = w' := by
  refine (within_any n lo hi w).mono ?_
  rintro e w' ⟨rfl, rfl⟩
  exact ⟨by rw [h], rfl⟩

theorem allOf_mem {b : Bo} {f s : Nat} {z : Joined} (h : z ∈ allOf b f s) : z.1 ∈ shiftsOf b ∧ z.2 ∈ bJoins b f s z.1 := by
  unfold allOf joinedOf withShift at h
  rw [List.mem_flatMap] at h
  obtain ⟨x, hx, h⟩ := h
  rw [List.mem_map] at h
  obtain ⟨y, hy, rfl⟩ := h
  exact ⟨hx, hy⟩

theorem pairs_any (b : Bo) (first : Int) (fa sa : Option Addr) (fc sc : Nat) (w : World) (hb : BoArg w b fa sa) :
    Calls Try.prog 19 #[.agg #[.int .i64 b.e.lo, .int .i64 b.e.hi, .int .i64 b.n.lo, .int .i64 b.n.hi, .slice fa b.fs.length fc, .slice sa b.ss.length sc], .int .i64 first] w (PairsPost b first w) := by
  obtain ⟨hf, hs, hlf, hls⟩ := hb
  go_enter_defers Try.func19, Try.ntmps19
  go_wp2_with fail
  obtain ⟨W0, hW0⟩ : ∃ W, ((w.alloc (.cells #[.int .i64 b.e.lo, .int .i64 b.e.hi, .int .i64 b.n.lo, .int .i64 b.n.hi, .slice fa b.fs.length fc, .slice sa b.ss.length sc] 26)).alloc (.cells #[.int .i64 0] 29)) = W := ⟨_, rfl⟩
  rw [hW0]
  try simp only [Nat.add_assoc, Nat.reduceAdd]
  have hst_W0 : Steps (fun _ => False) w W0 := by rw [← hW0]; exact (Steps.alloc _ w _).trans (Steps.alloc (fun _ => False) _ _) (fun _ _ h => h)
  have hz_W0 : W0.heap.size = w.heap.size + 2 := by rw [← hW0]; simp
  have g0_W0 : W0.heap[w.heap.size]? = some (.cells #[.int .i64 b.e.lo, .int .i64 b.e.hi, .int .i64 b.n.lo, .int .i64 b.n.hi, .slice fa b.fs.length fc, .slice sa b.ss.length sc] 26) := by rw [← hW0]; simp only [alloc_get, World.size_alloc]; repeat (first | exact if_pos trivial | exact if_pos (by omega) | rw [if_neg (by omega)])
  have g1_W0 : W0.heap[w.heap.size + 1]? = some (.cells #[.int .i64 0] 29) := by rw [← hW0]; simp only [alloc_get, World.size_alloc]; repeat (first | exact if_pos trivial | exact if_pos (by omega) | rw [if_neg (by omega)])
  clear hW0
  have hb0 : Below w.heap.size w W0 := hst_W0.below (Nat.le_refl _) (fun _ _ h => h)
  cases hok : b.ok with
  | false =>
    have hB : bPairs b first = (0, 0, 1) := by simp [bPairs, hok]
    have HB := Lib.hid hB
    clear hB
    refine (open_no b fa sa fc sc W0 hok (hf.below hb0 (Nat.le_refl _)) (hs.below hb0 (Nat.le_refl _)) hlf hls).mono ?_
    rintro e W1 ⟨rfl, hb1⟩
    have hW1 : w.heap.size + 1 < W1.heap.size := by have := hb1.size; omega
    have j1 := obj_later hb1 g1_W0
    refine door_panic (y := 0) (v := .tuple #[.int .i64 0, .int .i64 0, .int .i64 1]) (cell_block j1 0) (frozen_block j1 0) (fun W' hs' hc' _ => ?_)
    refine ⟨by simp [results, Try.results19, go_sem, hc'], ?_⟩
    unfold PairsPost
    rw [HB.out]
    exact ⟨rfl, hb0.trans ((hb1.mono hb0.size).trans (hs'.below (by omega) (fun k hk h => by omega)))⟩
  | true =>
    refine (open_yes b fa sa fc sc W0 hok (hf.below hb0 (Nat.le_refl _)) (hs.below hb0 (Nat.le_refl _))).mono ?_
    rintro e W1 ⟨p, r, rfl, hB1, hr1, hrl, hpl, hb1⟩
    have hW1 : w.heap.size + 1 < W1.heap.size := by have := hb1.size; omega
    have hk1 : KnownOk W1 r b := ⟨_, _, hr1, by simp⟩
    have hlens := bo_lens hok
    have j0 := obj_later hb1 g0_W0
    have j1 := obj_later hb1 g1_W0
    have c4 := cell_block j0 4
    simp only [List.getElem?_toArray, List.getElem?_cons_zero, List.getElem?_cons_succ] at c4
    obtain ⟨q, hq⟩ : ∃ q, (decide (0 ≤ first) && decide (first ≤ (b.fs.length : Int) - 1)) = q := ⟨_, rfl⟩
    have HQ := Lib.hid hq
    clear hq
    have hl6 := hlens.1
    have hl6' : (b.fs.length : Int) ≤ 6 := by omega
    have hl0' : (0 : Int) ≤ b.fs.length := by omega
    go_wp2_with fail
    refine (within_b first 0 ((b.fs.length : Int) - 1) q HQ.out _).mono ?_
    rintro e W1' ⟨rfl, rfl⟩
    cases q with
    | false =>
      have hB : bPairs b first = (0, 0, 2) := by simp only [bPairs, hok, HQ.out]; simp
      have HB := Lib.hid hB
      clear hB
      go_wp2_with (go_at_call 42; refine (must_no _ _).mono ?_; rintro e w' ⟨rfl, rfl⟩)
      refine door_panic (y := 0) (v := .tuple #[.int .i64 0, .int .i64 0, .int .i64 2]) (cell_block j1 0) (frozen_block j1 0) (fun W' hs' hc' _ => ?_)
      refine ⟨by simp [results, Try.results19, go_sem, hc'], ?_⟩
      unfold PairsPost
      rw [HB.out]
      exact ⟨rfl, hb0.trans ((hb1.mono hb0.size).trans (hs'.below (by omega) (fun k hk h => by omega)))⟩
    | true =>
      have hrange := HQ.out
      simp only [Bool.and_eq_true, decide_eq_true_eq] at hrange
      obtain ⟨i, rfl⟩ := Int.eq_ofNat_of_zero_le hrange.1
      have hi : i < b.fs.length := by omega
      clear hrange
      go_wp2_with (go_at_call 42; refine (must_yes _ _).mono ?_; rintro e w' ⟨rfl, rfl⟩)
      obtain ⟨W2, hW2⟩ : ∃ W, (W1.alloc (.cells #[.int .i64 i, .int .u64 0, .int .u64 0, .bool false] 100)) = W := ⟨_, rfl⟩
      rw [hW2]
      try simp only [Nat.add_assoc, Nat.reduceAdd]
      have hst_W2 : Steps (fun _ => False) W1 W2 := by rw [← hW2]; exact Steps.alloc _ W1 _
      have hz_W2 : W2.heap.size = W1.heap.size + 1 := by rw [← hW2]; simp
      have g0_W2 : W2.heap[W1.heap.size]? = some (.cells #[.int .i64 i, .int .u64 0, .int .u64 0, .bool false] 100) := by rw [← hW2]; simp only [alloc_get, World.size_alloc]; repeat (first | exact if_pos trivial | exact if_pos (by omega) | rw [if_neg (by omega)])
      clear hW2
      have hb2 : Below W1.heap.size W1 W2 := hst_W2.below (Nat.le_refl _) (fun _ _ h => h)
      have hold : Old w W2 b fa sa W1.heap.size r := ⟨hf, hs, hb0.trans ((hb1.mono hb0.size).trans (hb2.mono (by omega))), by omega, by omega⟩
      have hA0 : PairsA W1.heap.size i b (sures b.fs) (sures b.ss) (fun _ => False) [] W2 := ⟨fun h => h, ⟨cell_block g0_W2 0, cell_block g0_W2 1, cell_block g0_W2 2, cell_block g0_W2 3, fun i => frozen_block g0_W2 i⟩, by simp⟩
      have hr1l : r < W1.heap.size := hk1.lt
      have hp1l : p < W1.heap.size := World.block_lt_of_cell? W1 _ hB1.c6
      have h2 := obj_later hb2 j1
      refine (gather_any w 101 113 W1.heap.size p b fa sa fc sc (sures b.fs) (sures b.ss) r (PairsA W1.heap.size i b (sures b.fs) (sures b.ss)) W2 (.inr (.inl ⟨rfl, rfl⟩)) (hB1.later hb2) (hk1.steps hst_W2 (fun h => h)) hok
        (Nat.lt_of_lt_of_le (sures_lt _) (Nat.pow_le_pow_right (by omega) hlens.1)) (sures_lt _) (pairs_adder _ _ i r b _ _ hok (by omega) hi) hA0 (by omega) (by omega) (by omega) hold).mono ?_
      rintro e W3 ⟨hs3, hk3, (⟨hne, rfl, hA⟩ | ⟨hnil, rfl⟩)⟩
      · have hB : bPairs b (i : Int) = ((prsOf ((allOf b (sures b.fs) (sures b.ss)).map fun z => bitOf (z.2.getD i (-1)))).every, (prsOf ((allOf b (sures b.fs) (sures b.ss)).map fun z => bitOf (z.2.getD i (-1)))).some, 0) := by
          simp only [bPairs, hok, HQ.out, hne, if_true, if_false]; simp
        have HB := Lib.hid hB
        clear hB hne
        have hlt := prsOf_lt (N := 6) ((allOf b (sures b.fs) (sures b.ss)).map fun z => bitOf (z.2.getD i (-1))) (fun y hy => by
          obtain ⟨z', hz', rfl⟩ := List.mem_map.1 hy
          obtain ⟨k1, k2⟩ := bJoins_mem (allOf_mem hz').2
          have hg : z'.2.getD i (-1) ∈ z'.2 := by rw [getD_get (by omega)]; exact List.getElem_mem _
          exact Nat.lt_of_lt_of_le (bitOf_lt (k2 _ hg)) (Nat.pow_le_pow_right (by omega) hlens.2))
        obtain ⟨_, ⟨d0, d1, d2, d3, dz⟩, _⟩ := hA
        generalize (prsOf ((allOf b (sures b.fs) (sures b.ss)).map fun z => bitOf (z.2.getD i (-1)))) = E at HB d1 d2 d3 hlt
        obtain ⟨E1, E2, E3⟩ := E
        simp only at d1 d2 d3 hlt HB
        have i1 : W3.heap[w.heap.size + 1]? = some (.cells #[.int .i64 0] 29) := hs3.obj (by omega) h2
        have hb3 : Below w.heap.size w W3 := hb0.trans ((hb1.mono hb0.size).trans ((hb2.mono (by omega)).trans (hs3.below (by omega) (fun k hk h => by omega))))
        have hl1 : (E1 : Int) < 64 := by omega
        have hl2 : (E2 : Int) < 64 := by omega
        have hsz3 := hs3.size
        have c10 := cell_block i1 0
        simp only [List.getElem?_toArray, List.getElem?_cons_zero, List.getElem?_cons_succ] at c10
        have f10 := frozen_block i1 0
        clear hs3 hk3 hB1 hr1 hb1 hk1 hold j1 j0 c4 hA0 h2 d0 d3 dz hlt
        go_wp2_with fail
        go_region
        all_goals
          go_wp2_with fail
          refine door_ret (v := .tuple #[.int .i64 E1, .int .i64 E2, .int .i64 0]) (by simp [results, Try.results19, go_sem, c10]) ?_
          unfold PairsPost
          rw [HB.out]
          exact ⟨rfl, (hb3.setCell (p := ⟨w.heap.size + 1, 0, none⟩) (by show w.heap.size ≤ w.heap.size + 1; omega) _).drew⟩
      · have hB : bPairs b (i : Int) = (0, 0, 4) := by simp only [bPairs, hok, HQ.out, hnil, if_true]
        have HB := Lib.hid hB
        clear hB hnil
        have i1 : W3.heap[w.heap.size + 1]? = some (.cells #[.int .i64 0] 29) := hs3.obj (by omega) h2
        have hb3 : Below w.heap.size w W3 := hb0.trans ((hb1.mono hb0.size).trans ((hb2.mono (by omega)).trans (hs3.below (by omega) (fun k hk h => by omega))))
        have hsz3 := hs3.size
        refine door_panic (y := 0) (v := .tuple #[.int .i64 0, .int .i64 0, .int .i64 4]) (cell_block i1 0) (frozen_block i1 0) (fun W' hs' hc' _ => ?_)
        refine ⟨by simp [results, Try.results19, go_sem, hc'], ?_⟩
        unfold PairsPost
        rw [HB.out]
        exact ⟨rfl, hb3.trans (hs'.below (by omega) (fun k hk h => by omega))⟩
end Go.Proofs.Ytjkegmjjhdmkiaa
