/- Package border: the best shift and its joining. -/
import Derived.Test.YtjkegmjjhdmkiaaE3
namespace Go.Proofs.Ytjkegmjjhdmkiaa
open Go.RowKit Go.Shelf
set_option maxHeartbeats 1600000
set_option maxRecDepth 100000
set_option linter.unusedSimpArgs false

/-- The best joining, and the error. -/
def bBest (b : Bo) : Option Joined × Int :=
  if b.ok then
    match bestOf (allOf b (sures b.fs) (sures b.ss)) with
    | none => (none, 4)
    | some y => (some y, 0)
  else (none, 1)

/-- What is returned of it. -/
def BestOut (w' : World) (e : Ending) : Option Joined × Int → Prop
  | (none, x) => e = .returned (.tuple #[.int .i64 0, .int .i64 0, .slice none 0 0, .int .i64 x])
  | (some y, x) => ∃ q cap, e = .returned (.tuple #[.int .i64 y.1.1, .int .i64 y.1.2, .slice (some ⟨q, 0, none⟩) y.2.length cap, .int .i64 x]) ∧ IntsAt w' q y.2
def BestPost (b : Bo) (w : World) (e : Ending) (w' : World) : Prop := BestOut w' e (bBest b) ∧ Below w.heap.size w w'

theorem bestOf_none : ∀ {L : List Joined}, bestOf L = none → L = [] := by
  intro L
  unfold bestOf
  suffices h : ∀ (L : List Joined) (o : Option Joined), L.foldl (fun o z => match o with | none => some z | some y => if pairsIn y.2 < pairsIn z.2 then some z else some y) o = none → o = none ∧ L = [] from fun hy => (h L none hy).2
  intro L
  induction L with
  | nil => intro o h; exact ⟨h, rfl⟩
  | cons z L ih =>
    intro o h
    rw [List.foldl_cons] at h
    have := (ih _ h).1
    cases o with
    | none => cases this
    | some v => simp only at this; split at this <;> cases this

theorem best_any (b : Bo) (fa sa : Option Addr) (fc sc : Nat) (w : World) (hb : BoArg w b fa sa) :
    Calls Try.prog 23 #[.agg #[.int .i64 b.e.lo, .int .i64 b.e.hi, .int .i64 b.n.lo, .int .i64 b.n.hi, .slice fa b.fs.length fc, .slice sa b.ss.length sc]] w (BestPost b w) := by
  obtain ⟨hf, hs, hlf, hls⟩ := hb
  go_enter_defers Try.func23, Try.ntmps23
  go_wp2_with fail
  obtain ⟨W0, hW0⟩ : ∃ W, (((w.alloc (.cells #[.int .i64 b.e.lo, .int .i64 b.e.hi, .int .i64 b.n.lo, .int .i64 b.n.hi, .slice fa b.fs.length fc, .slice sa b.ss.length sc] 26)).alloc (.cells #[.int .i64 0] 29)).alloc (.cells #[.int .i64 0, .int .i64 0, .slice none 0 0, .int .i64 0] 108)) = W := ⟨_, rfl⟩
  rw [hW0]
  try simp only [Nat.add_assoc, Nat.reduceAdd]
  have hst_W0 : Steps (fun _ => False) w W0 := by rw [← hW0]; exact ((Steps.alloc _ w _).trans (Steps.alloc (fun _ => False) _ _) (fun _ _ h => h)).trans (Steps.alloc (fun _ => False) _ _) (fun _ _ h => h)
  have hz_W0 : W0.heap.size = w.heap.size + 3 := by rw [← hW0]; simp
  have g0_W0 : W0.heap[w.heap.size]? = some (.cells #[.int .i64 b.e.lo, .int .i64 b.e.hi, .int .i64 b.n.lo, .int .i64 b.n.hi, .slice fa b.fs.length fc, .slice sa b.ss.length sc] 26) := by rw [← hW0]; simp only [alloc_get, World.size_alloc]; repeat (first | exact if_pos trivial | exact if_pos (by omega) | rw [if_neg (by omega)])
  have g1_W0 : W0.heap[w.heap.size + 1]? = some (.cells #[.int .i64 0] 29) := by rw [← hW0]; simp only [alloc_get, World.size_alloc]; repeat (first | exact if_pos trivial | exact if_pos (by omega) | rw [if_neg (by omega)])
  have g2_W0 : W0.heap[w.heap.size + 2]? = some (.cells #[.int .i64 0, .int .i64 0, .slice none 0 0, .int .i64 0] 108) := by rw [← hW0]; simp only [alloc_get, World.size_alloc]; repeat (first | exact if_pos trivial | exact if_pos (by omega) | rw [if_neg (by omega)])
  clear hW0
  have hb0 : Below w.heap.size w W0 := hst_W0.below (Nat.le_refl _) (fun _ _ h => h)
  cases hok : b.ok with
  | false =>
    have hB : bBest b = (none, 1) := by simp [bBest, hok]
    have HB := Lib.hid hB
    clear hB
    refine (open_no b fa sa fc sc W0 hok (hf.below hb0 (Nat.le_refl _)) (hs.below hb0 (Nat.le_refl _)) hlf hls).mono ?_
    rintro e W1 ⟨rfl, hb1⟩
    have hW1 : w.heap.size + 2 < W1.heap.size := by have := hb1.size; omega
    have j1 := obj_later hb1 g1_W0
    refine door_panic (y := 0) (v := .tuple #[.int .i64 0, .int .i64 0, .slice none 0 0, .int .i64 1]) (cell_block j1 0) (frozen_block j1 0) (fun W' hs' hc' _ => ?_)
    refine ⟨by simp [results, Try.results23, go_sem, hc'], ?_⟩
    unfold BestPost
    rw [HB.out]
    exact ⟨rfl, hb0.trans ((hb1.mono hb0.size).trans (hs'.below (by omega) (fun k hk h => by omega)))⟩
  | true =>
    refine (open_yes b fa sa fc sc W0 hok (hf.below hb0 (Nat.le_refl _)) (hs.below hb0 (Nat.le_refl _))).mono ?_
    rintro e W1 ⟨p, r, rfl, hB1, hr1, hrl, hpl, hb1⟩
    go_wp2_with fail
    have hW1 : w.heap.size + 2 < W1.heap.size := by have := hb1.size; omega
    have hk1 : KnownOk W1 r b := ⟨_, _, hr1, by simp⟩
    have hold : Old w W1 b fa sa (w.heap.size + 2) r := ⟨hf, hs, hb0.trans (hb1.mono hb0.size), by omega, by omega⟩
    have hlens := bo_lens hok
    have j1 := obj_later hb1 g1_W0
    have j2 := obj_later hb1 g2_W0
    have hA0 : BestA W1.heap.size (w.heap.size + 2) r b (sures b.fs) (sures b.ss) (fun _ => False) [] W1 := ⟨fun h => h, ⟨cell_block j2 0, cell_block j2 1, cell_block j2 2, cell_block j2 3, fun i => frozen_block j2 i⟩, by simp⟩
    refine (gather_any w 109 115 (w.heap.size + 2) p b fa sa fc sc (sures b.fs) (sures b.ss) r (BestA W1.heap.size (w.heap.size + 2) r b (sures b.fs) (sures b.ss)) W1 (.inr (.inr (.inr ⟨rfl, rfl⟩))) hB1 hk1 hok
      (Nat.lt_of_lt_of_le (sures_lt _) (Nat.pow_le_pow_right (by omega) hlens.1)) (sures_lt _) (best_adder _ _ r b _ _ hok (by omega)) hA0 hW1 (by omega) (by omega) hold).mono ?_
    rintro e W2 ⟨hs2, hk2, (⟨hne, rfl, hA⟩ | ⟨hnil, rfl⟩)⟩
    · have hBe : ∀ y, bestOf (allOf b (sures b.fs) (sures b.ss)) = some y → bBest b = (some y, 0) := fun y hy => by simp [bBest, hok, hy]
      obtain ⟨_, hJ, _⟩ := hA
      cases hy : bestOf (allOf b (sures b.fs) (sures b.ss)) with
      | none => exact absurd (bestOf_none hy) hne
      | some y =>
        rw [hy] at hJ
        have HB := Lib.hid (hBe y hy)
        clear hBe hne hy
        obtain ⟨q, cap, ⟨d0, d1, d2, _, _⟩, hI, _, hqg, _, hqN⟩ := hJ
        obtain ⟨⟨y0, y1⟩, y2⟩ := y
        have i1 : W2.heap[w.heap.size + 1]? = some (.cells #[.int .i64 0] 29) := hs2.obj (by omega) j1
        have hb2 : Below w.heap.size w W2 := hb0.trans ((hb1.mono hb0.size).trans (hs2.below (by omega) (fun k hk h => by omega)))
        have hsz2 := hs2.size
        have hqne : q ≠ w.heap.size + 1 := by omega
        clear hs2 hk2 hB1 hr1 hb1 hk1 hold j1 j2 hA0
        have c10 := cell_block i1 0
        simp only [List.getElem?_toArray, List.getElem?_cons_zero, List.getElem?_cons_succ] at c10
        have f10 := frozen_block i1 0
        go_wp2_with fail
        go_region
        all_goals
          go_wp2_with fail
          refine door_ret (v := .tuple #[.int .i64 y0, .int .i64 y1, .slice (some ⟨q, 0, none⟩) y2.length cap, .int .i64 0]) (by simp [results, Try.results23, go_sem, c10]) ?_
          unfold BestPost
          rw [HB.out]
          exact ⟨⟨q, cap, rfl, hI.later (Below.heap_setCell _ _ _ _ hqne)⟩, (hb2.setCell (p := ⟨w.heap.size + 1, 0, none⟩) (by show w.heap.size ≤ w.heap.size + 1; omega) _).drew⟩
    · have hB : bBest b = (none, 4) := by simp [bBest, hok, hnil, bestOf]
      have HB := Lib.hid hB
      clear hB hnil
      have i1 : W2.heap[w.heap.size + 1]? = some (.cells #[.int .i64 0] 29) := hs2.obj (by omega) j1
      have hb2 : Below w.heap.size w W2 := hb0.trans ((hb1.mono hb0.size).trans (hs2.below (by omega) (fun k hk h => by omega)))
      have hsz2 := hs2.size
      refine door_panic (y := 0) (v := .tuple #[.int .i64 0, .int .i64 0, .slice none 0 0, .int .i64 4]) (cell_block i1 0) (frozen_block i1 0) (fun W' hs' hc' _ => ?_)
      refine ⟨by simp [results, Try.results23, go_sem, hc'], ?_⟩
      unfold BestPost
      rw [HB.out]
      exact ⟨rfl, hb2.trans (hs'.below (by omega) (fun k hk h => by omega))⟩
end Go.Proofs.Ytjkegmjjhdmkiaa
