/- Package border: the stars that have no counterpart. -/
import Derived.Test.YtjkegmjjhdmkiaaE2
import Derived.Test.YtjkegmjjhdmkiaaRg
namespace Go.Proofs.Ytjkegmjjhdmkiaa
open Go.RowKit Go.Shelf
set_option maxHeartbeats 1600000
set_option maxRecDepth 100000
set_option linter.unusedSimpArgs false

/-- What is told of the stars without counterpart. -/
def bAlone (b : Bo) : Nat × Nat × Int :=
  if b.ok then
    if allOf b (sures b.fs) (sures b.ss) = [] then (0, 0, 4)
    else (andN (2 ^ b.fs.length - 1) (allFirst ((allOf b (sures b.fs) (sures b.ss)).map (·.2))), andN (2 ^ b.ss.length - 1) (allSecond ((allOf b (sures b.fs) (sures b.ss)).map (·.2))), 0)
  else (0, 0, 1)

def AlonePost (b : Bo) (w : World) (e : Ending) (w' : World) : Prop :=
  e = .returned (.tuple #[.int .i64 (bAlone b).1, .int .i64 (bAlone b).2.1, .int .i64 (bAlone b).2.2]) ∧ Below w.heap.size w w'

theorem pow_sub (n : Nat) (hn : n ≤ 6) : IntKind.u64.wrap (IntKind.u64.wrap (2 ^ n) - 1) = ((2 ^ n - 1 : Nat) : Int) := by
  have h1 : 2 ^ n ≤ 2 ^ 6 := Nat.pow_le_pow_right (by omega) hn
  have h2 := Nat.two_pow_pos n
  rw [pow_u64 n (by omega), IntKind.wrap_u64]
  generalize 2 ^ n = x at h1 h2
  omega

theorem alone1_any (a : Option Addr) (n c : Nat) (hn : n ≤ 6) (w : World) :
    Calls Try.prog 55 #[.slice a n c] w fun e w' => e = .returned (.int .u64 ((2 ^ n - 1 : Nat) : Int)) ∧ w = w' := by
  have hn6 : (n : Int) ≤ 6 := by omega
  have hp := pow_sub n hn
  have hn64 : (n : Int) < 64 := by omega
  go_enter Try.func55, Try.ntmps55
  go_wp2
  go_ret
  exact ⟨rfl, rfl⟩

theorem alone_any (b : Bo) (fa sa : Option Addr) (fc sc : Nat) (w : World) (hb : BoArg w b fa sa) :
    Calls Try.prog 21 #[.agg #[.int .i64 b.e.lo, .int .i64 b.e.hi, .int .i64 b.n.lo, .int .i64 b.n.hi, .slice fa b.fs.length fc, .slice sa b.ss.length sc]] w (AlonePost b w) := by
  obtain ⟨hf, hs, hlf, hls⟩ := hb
  go_enter_defers Try.func21, Try.ntmps21
  go_wp2_with fail
  obtain ⟨W0, hW0⟩ : ∃ W, (((w.alloc (.cells #[.int .i64 b.e.lo, .int .i64 b.e.hi, .int .i64 b.n.lo, .int .i64 b.n.hi, .slice fa b.fs.length fc, .slice sa b.ss.length sc] 26)).alloc (.cells #[.int .i64 0] 29)).alloc (.cells #[.int .u64 0, .int .u64 0] 103)) = W := ⟨_, rfl⟩
  rw [hW0]
  try simp only [Nat.add_assoc, Nat.reduceAdd]
  have hst_W0 : Steps (fun _ => False) w W0 := by rw [← hW0]; exact ((Steps.alloc _ w _).trans (Steps.alloc (fun _ => False) _ _) (fun _ _ h => h)).trans (Steps.alloc (fun _ => False) _ _) (fun _ _ h => h)
  have hz_W0 : W0.heap.size = w.heap.size + 3 := by rw [← hW0]; simp
  have g0_W0 : W0.heap[w.heap.size]? = some (.cells #[.int .i64 b.e.lo, .int .i64 b.e.hi, .int .i64 b.n.lo, .int .i64 b.n.hi, .slice fa b.fs.length fc, .slice sa b.ss.length sc] 26) := by rw [← hW0]; simp only [alloc_get, World.size_alloc]; repeat (first | exact if_pos trivial | exact if_pos (by omega) | rw [if_neg (by omega)])
  have g1_W0 : W0.heap[w.heap.size + 1]? = some (.cells #[.int .i64 0] 29) := by rw [← hW0]; simp only [alloc_get, World.size_alloc]; repeat (first | exact if_pos trivial | exact if_pos (by omega) | rw [if_neg (by omega)])
  have g2_W0 : W0.heap[w.heap.size + 2]? = some (.cells #[.int .u64 0, .int .u64 0] 103) := by rw [← hW0]; simp only [alloc_get, World.size_alloc]; repeat (first | exact if_pos trivial | exact if_pos (by omega) | rw [if_neg (by omega)])
  clear hW0
  have hb0 : Below w.heap.size w W0 := hst_W0.below (Nat.le_refl _) (fun _ _ h => h)
  cases hok : b.ok with
  | false =>
    have hB : bAlone b = (0, 0, 1) := by simp [bAlone, hok]
    have HB := Lib.hid hB
    clear hB
    refine (open_no b fa sa fc sc W0 hok (hf.below hb0 (Nat.le_refl _)) (hs.below hb0 (Nat.le_refl _)) hlf hls).mono ?_
    rintro e W1 ⟨rfl, hb1⟩
    have hW1 : w.heap.size + 2 < W1.heap.size := by have := hb1.size; omega
    have j1 := obj_later hb1 g1_W0
    refine door_panic (y := 0) (v := .tuple #[.int .i64 0, .int .i64 0, .int .i64 1]) (cell_block j1 0) (frozen_block j1 0) (fun W' hs' hc' _ => ?_)
    refine ⟨by simp [results, Try.results21, go_sem, hc'], ?_⟩
    unfold AlonePost
    rw [HB.out]
    exact ⟨rfl, hb0.trans ((hb1.mono hb0.size).trans (hs'.below (by omega) (fun k hk h => by omega)))⟩
  | true =>
    refine (open_yes b fa sa fc sc W0 hok (hf.below hb0 (Nat.le_refl _)) (hs.below hb0 (Nat.le_refl _))).mono ?_
    rintro e W1 ⟨p, r, rfl, hB1, hr1, hrl, hpl, hb1⟩
    go_wp2_with fail
    have hW1 : w.heap.size + 2 < W1.heap.size := by have := hb1.size; omega
    have hk1 : KnownOk W1 r b := ⟨_, _, hr1, by simp⟩
    have hold : Old w W1 b fa sa (w.heap.size + 2) r := ⟨hf, hs, hb0.trans (hb1.mono hb0.size), by omega, by omega⟩
    have hlens := bo_lens hok
    have j0 := obj_later hb1 g0_W0
    have j1 := obj_later hb1 g1_W0
    have j2 := obj_later hb1 g2_W0
    have hA0 : JoinedA (w.heap.size + 2) b (sures b.fs) (sures b.ss) (fun _ => False) [] W1 := ⟨fun h => h, ⟨cell_block j2 0, cell_block j2 1, fun i => frozen_block j2 i⟩, by simp⟩
    refine (gather_any w 104 114 (w.heap.size + 2) p b fa sa fc sc (sures b.fs) (sures b.ss) r (JoinedA (w.heap.size + 2) b (sures b.fs) (sures b.ss)) W1 (.inr (.inr (.inl ⟨rfl, rfl⟩))) hB1 hk1 hok
      (Nat.lt_of_lt_of_le (sures_lt _) (Nat.pow_le_pow_right (by omega) hlens.1)) (sures_lt _) (joined_adder _ _ r b _ _ hok (by omega)) hA0 hW1 (by omega) (by omega) hold).mono ?_
    rintro e W2 ⟨hs2, hk2, (⟨hne, rfl, hA⟩ | ⟨hnil, rfl⟩)⟩
    · have hB : bAlone b = (andN (2 ^ b.fs.length - 1) (allFirst ((allOf b (sures b.fs) (sures b.ss)).map (·.2))), andN (2 ^ b.ss.length - 1) (allSecond ((allOf b (sures b.fs) (sures b.ss)).map (·.2))), 0) := by simp [bAlone, hok, hne]
      have HB := Lib.hid hB
      clear hB hne
      have e1 := allFirst_lt (N := 6) ((allOf b (sures b.fs) (sures b.ss)).map (·.2)) (fun y hy => by
        obtain ⟨z', hz', rfl⟩ := List.mem_map.1 hy
        have := (bJoins_mem (allOf_mem hz').2).1; omega)
      have e2 := allSecond_lt (N := 6) ((allOf b (sures b.fs) (sures b.ss)).map (·.2)) (fun y hy e he => by
        obtain ⟨z', hz', rfl⟩ := List.mem_map.1 hy
        have := (bJoins_mem (allOf_mem hz').2).2 e he; omega)
      obtain ⟨_, ⟨d0, d1, _⟩, _⟩ := hA
      generalize allFirst ((allOf b (sures b.fs) (sures b.ss)).map (·.2)) = E at HB d0 e1
      generalize allSecond ((allOf b (sures b.fs) (sures b.ss)).map (·.2)) = N at HB d1 e2
      have i0 : W2.heap[w.heap.size]? = some (.cells #[.int .i64 b.e.lo, .int .i64 b.e.hi, .int .i64 b.n.lo, .int .i64 b.n.hi, .slice fa b.fs.length fc, .slice sa b.ss.length sc] 26) := hs2.obj (by omega) j0
      have i1 : W2.heap[w.heap.size + 1]? = some (.cells #[.int .i64 0] 29) := hs2.obj (by omega) j1
      have hb2 : Below w.heap.size w W2 := hb0.trans ((hb1.mono hb0.size).trans (hs2.below (by omega) (fun k hk h => by omega)))
      have hsz2 := hs2.size
      clear hs2 hk2 hB1 hr1 hb1 hk1 hold j0 j1 j2 hA0
      have q1 : 2 ^ b.fs.length ≤ 2 ^ 6 := Nat.pow_le_pow_right (by omega) hlens.1
      have q2 : 2 ^ b.ss.length ≤ 2 ^ 6 := Nat.pow_le_pow_right (by omega) hlens.2
      have b1 := andN_bits (2 ^ b.fs.length - 1) E (by omega) (by omega)
      have b2 := andN_bits (2 ^ b.ss.length - 1) N (by omega) (by omega)
      have b3 : andN (2 ^ b.fs.length - 1) E < 64 := Nat.lt_of_le_of_lt Nat.and_le_left (by omega)
      have b4 : andN (2 ^ b.ss.length - 1) N < 64 := Nat.lt_of_le_of_lt Nat.and_le_left (by omega)
      generalize andN (2 ^ b.fs.length - 1) E = R1 at HB b1 b3
      generalize andN (2 ^ b.ss.length - 1) N = R2 at HB b2 b4
      have hc1 := alone1_any fa b.fs.length fc hlens.1 W2.drew
      have hc2 := alone1_any sa b.ss.length sc hlens.2 W2.drew
      generalize hX1 : 2 ^ b.fs.length - 1 = X1 at b1 hc1
      generalize hX2 : 2 ^ b.ss.length - 1 = X2 at b2 hc2
      clear hX1 hX2 q1 q2 hlens
      have b3' : (R1 : Int) < 64 := by omega
      have b4' : (R2 : Int) < 64 := by omega
      have w1 : IntKind.i64.wrap (R1 : Int) = R1 := by rw [IntKind.wrap_i64]; omega
      have w2 : IntKind.i64.wrap (R2 : Int) = R2 := by rw [IntKind.wrap_i64]; omega
      have c04 := cell_block i0 4
      have c05 := cell_block i0 5
      have c10 := cell_block i1 0
      simp only [List.getElem?_toArray, List.getElem?_cons_zero, List.getElem?_cons_succ] at c04 c05 c10
      have f10 := frozen_block i1 0
      go_upto_region 5 with fail
      have k0 : ∀ W', KeepCells (fun k => k = w.heap.size ∨ k = w.heap.size + 2) W2 W' → W'.cell? ⟨w.heap.size, 4, none⟩ = some (.slice fa b.fs.length fc) ∧ W'.cell? ⟨w.heap.size, 5, none⟩ = some (.slice sa b.ss.length sc) ∧ W'.cell? ⟨w.heap.size + 2, 0, none⟩ = some (.int .u64 E) ∧ W'.cell? ⟨w.heap.size + 2, 1, none⟩ = some (.int .u64 N) :=
        fun W' h => ⟨h _ _ (.inl rfl) c04, h _ _ (.inl rfl) c05, h _ _ (.inr rfl) d0, h _ _ (.inr rfl) d1⟩
      refine (wpIn_wide (n := 1)).1 ?_
      refine wpIn_region_Wn (S := fun W' => KeepCells (fun k => k = w.heap.size ∨ k = w.heap.size + 2) W2 W') 19 (by kernel_rfl) (by kernel_rfl) (fun a v _ h => h) (fun hHeld => ?_)
      refine wpAnyW_takeD 0 11 (v := ?_) (by kernel_rfl) (by kernel_rfl) (by kernel_rfl) (by kernel_rfl) (fun _ _ _ h => h) ?_ (by assumption) ?_
      rotate_left
      · intro oi hoi w hSw; (try dsimp only at hSw); simp only [List.getElem?_toArray, List.getElem?_cons_zero, List.getElem?_cons_succ, Option.some.injEq] at hoi; subst hoi; go_simp; try with_reducible rfl
      simp only [Act.put, List.setIfInBounds_toArray, List.set_cons_zero, List.set_cons_succ]
      refine wpAnyW_takeD 1 12 (v := ?_) (by kernel_rfl) (by kernel_rfl) (by kernel_rfl) (by kernel_rfl) (fun _ _ _ h => h) ?_ (by assumption) ?_
      rotate_left
      · intro oi hoi w hSw; (try dsimp only at hSw); simp only [List.getElem?_toArray, List.getElem?_cons_zero, List.getElem?_cons_succ, Option.some.injEq] at hoi; subst hoi; go_simp; try with_reducible rfl
      simp only [Act.put, List.setIfInBounds_toArray, List.set_cons_zero, List.set_cons_succ]
      refine wpAnyW_takeD 2 13 (v := ?_) (by kernel_rfl) (by kernel_rfl) (by kernel_rfl) (by kernel_rfl) (fun _ _ _ h => h) ?_ (by assumption) ?_
      rotate_left
      · intro oi hoi w hSw; (try dsimp only at hSw); simp only [List.getElem?_toArray, List.getElem?_cons_zero, List.getElem?_cons_succ, Option.some.injEq] at hoi; subst hoi; go_simp; try with_reducible rfl
      simp only [Act.put, List.setIfInBounds_toArray, List.set_cons_zero, List.set_cons_succ]
      refine wpAnyW_takeD 4 15 (v := ?_) (by kernel_rfl) (by kernel_rfl) (by kernel_rfl) (by kernel_rfl) (fun _ _ _ h => h) ?_ (by assumption) ?_
      rotate_left
      · intro oi hoi w hSw; (try dsimp only at hSw); simp only [List.getElem?_toArray, List.getElem?_cons_zero, List.getElem?_cons_succ, Option.some.injEq] at hoi; subst hoi; go_simp; try with_reducible rfl
      simp only [Act.put, List.setIfInBounds_toArray, List.set_cons_zero, List.set_cons_succ]
      refine wpAnyW_takeD 5 16 (v := ?_) (by kernel_rfl) (by kernel_rfl) (by kernel_rfl) (by kernel_rfl) (fun _ _ _ h => h) ?_ (by assumption) ?_
      rotate_left
      · intro oi hoi w hSw; (try dsimp only at hSw); simp only [List.getElem?_toArray, List.getElem?_cons_zero, List.getElem?_cons_succ, Option.some.injEq] at hoi; subst hoi; go_simp; try with_reducible rfl
      simp only [Act.put, List.setIfInBounds_toArray, List.set_cons_zero, List.set_cons_succ]
      refine wpAnyW_takeD 8 19 (v := ?_) (by kernel_rfl) (by kernel_rfl) (by kernel_rfl) (by kernel_rfl) (fun _ _ _ h => h) ?_ (by assumption) ?_
      rotate_left
      · intro oi hoi w hSw; (try dsimp only at hSw); simp only [List.getElem?_toArray, List.getElem?_cons_zero, List.getElem?_cons_succ, Option.some.injEq] at hoi; subst hoi; go_simp; try with_reducible rfl
      simp only [Act.put, List.setIfInBounds_toArray, List.set_cons_zero, List.set_cons_succ]
      refine wpAnyW_takeD 9 20 (v := ?_) (by kernel_rfl) (by kernel_rfl) (by kernel_rfl) (by kernel_rfl) (fun _ _ _ h => h) ?_ (by assumption) ?_
      rotate_left
      · intro oi hoi w hSw; (try dsimp only at hSw); simp only [List.getElem?_toArray, List.getElem?_cons_zero, List.getElem?_cons_succ, Option.some.injEq] at hoi; subst hoi; go_simp; try with_reducible rfl
      simp only [Act.put, List.setIfInBounds_toArray, List.set_cons_zero, List.set_cons_succ]
      refine wpAnyW_takeD 10 21 (v := ?_) (by kernel_rfl) (by kernel_rfl) (by kernel_rfl) (by kernel_rfl) (fun _ _ _ h => h) ?_ (by assumption) ?_
      rotate_left
      · intro oi hoi w hSw; (try dsimp only at hSw); simp only [List.getElem?_toArray, List.getElem?_cons_zero, List.getElem?_cons_succ, Option.some.injEq] at hoi; subst hoi; go_simp; try with_reducible rfl
      simp only [Act.put, List.setIfInBounds_toArray, List.set_cons_zero, List.set_cons_succ]
      refine wpAnyW_takeD 12 23 (v := ?_) (by kernel_rfl) (by kernel_rfl) (by kernel_rfl) (by kernel_rfl) (fun _ _ _ h => h) ?_ (by assumption) ?_
      rotate_left
      · intro oi hoi w hSw; (try dsimp only at hSw); simp only [List.getElem?_toArray, List.getElem?_cons_zero, List.getElem?_cons_succ, Option.some.injEq] at hoi; subst hoi; go_simp; try with_reducible rfl
      simp only [Act.put, List.setIfInBounds_toArray, List.set_cons_zero, List.set_cons_succ]
      refine wpAnyW_takeD 13 24 (v := ?_) (by kernel_rfl) (by kernel_rfl) (by kernel_rfl) (by kernel_rfl) (fun _ _ _ h => h) ?_ (by assumption) ?_
      rotate_left
      · intro oi hoi w hSw; (try dsimp only at hSw); simp only [List.getElem?_toArray, List.getElem?_cons_zero, List.getElem?_cons_succ, Option.some.injEq] at hoi; subst hoi; go_simp; try with_reducible rfl
      simp only [Act.put, List.setIfInBounds_toArray, List.set_cons_zero, List.set_cons_succ]
      refine wpAnyW_one 3 (by kernel_rfl) (by kernel_rfl) ?_
      intro o ho K hK
      simp only [List.getElem?_toArray, List.getElem?_cons_zero, List.getElem?_cons_succ, Option.some.injEq] at ho
      subst ho
      go_simp
      refine ⟨trivial, CallsIn.mono (callsIn_wide.2 hc1) ?_⟩
      rintro e W3 ⟨rfl, rfl⟩
      refine hK _ _ hHeld (fun _ => ?_)
      clear hK K
      try simp only [Act.put, List.setIfInBounds_toArray, List.set_cons_zero, List.set_cons_succ]
      refine wpAnyW_takeD 6 17 (v := ?_) (by kernel_rfl) (by kernel_rfl) (by kernel_rfl) (by kernel_rfl) (fun _ _ _ h => h) ?_ (by assumption) ?_
      rotate_left
      · intro oi hoi w hSw; (try dsimp only at hSw); simp only [List.getElem?_toArray, List.getElem?_cons_zero, List.getElem?_cons_succ, Option.some.injEq] at hoi; subst hoi; go_simp; try with_reducible rfl
      simp only [Act.put, List.setIfInBounds_toArray, List.set_cons_zero, List.set_cons_succ]
      refine wpAnyW_takeD 7 18 (v := ?_) (by kernel_rfl) (by kernel_rfl) (by kernel_rfl) (by kernel_rfl) (fun _ _ _ h => h) ?_ (by assumption) ?_
      rotate_left
      · intro oi hoi w hSw; (try dsimp only at hSw); simp only [List.getElem?_toArray, List.getElem?_cons_zero, List.getElem?_cons_succ, Option.some.injEq] at hoi; subst hoi; go_simp; try with_reducible rfl
      simp only [Act.put, List.setIfInBounds_toArray, List.set_cons_zero, List.set_cons_succ]
      refine wpAnyW_one 11 (by kernel_rfl) (by kernel_rfl) ?_
      intro o ho K hK
      simp only [List.getElem?_toArray, List.getElem?_cons_zero, List.getElem?_cons_succ, Option.some.injEq] at ho
      subst ho
      go_simp
      refine ⟨trivial, CallsIn.mono (callsIn_wide.2 hc2) ?_⟩
      rintro e W3 ⟨rfl, rfl⟩
      refine hK _ _ hHeld (fun _ => ?_)
      clear hK K
      try simp only [Act.put, List.setIfInBounds_toArray, List.set_cons_zero, List.set_cons_succ]
      refine wpAnyW_takeD 14 25 (v := ?_) (by kernel_rfl) (by kernel_rfl) (by kernel_rfl) (by kernel_rfl) (fun _ _ _ h => h) ?_ (by assumption) ?_
      rotate_left
      · intro oi hoi w hSw; (try dsimp only at hSw); simp only [List.getElem?_toArray, List.getElem?_cons_zero, List.getElem?_cons_succ, Option.some.injEq] at hoi; subst hoi; go_simp; try with_reducible rfl
      simp only [Act.put, List.setIfInBounds_toArray, List.set_cons_zero, List.set_cons_succ]
      refine wpAnyW_takeD 15 26 (v := ?_) (by kernel_rfl) (by kernel_rfl) (by kernel_rfl) (by kernel_rfl) (fun _ _ _ h => h) ?_ (by assumption) ?_
      rotate_left
      · intro oi hoi w hSw; (try dsimp only at hSw); simp only [List.getElem?_toArray, List.getElem?_cons_zero, List.getElem?_cons_succ, Option.some.injEq] at hoi; subst hoi; go_simp; try with_reducible rfl
      simp only [Act.put, List.setIfInBounds_toArray, List.set_cons_zero, List.set_cons_succ]
      refine wpAnyW_takeD 16 2 (v := ?_) (by kernel_rfl) (by kernel_rfl) (by kernel_rfl) (by kernel_rfl) (fun _ _ _ h => h) ?_ (by assumption) ?_
      rotate_left
      · intro oi hoi w hSw; (try dsimp only at hSw); simp only [List.getElem?_toArray, List.getElem?_cons_zero, List.getElem?_cons_succ, Option.some.injEq] at hoi; subst hoi; go_simp; try with_reducible rfl
      simp only [Act.put, List.setIfInBounds_toArray, List.set_cons_zero, List.set_cons_succ]
      refine wpAnyW_takeD 17 3 (v := ?_) (by kernel_rfl) (by kernel_rfl) (by kernel_rfl) (by kernel_rfl) (fun _ _ _ h => h) ?_ (by assumption) ?_
      rotate_left
      · intro oi hoi w hSw; (try dsimp only at hSw); simp only [List.getElem?_toArray, List.getElem?_cons_zero, List.getElem?_cons_succ, Option.some.injEq] at hoi; subst hoi; go_simp; try with_reducible rfl
      simp only [Act.put, List.setIfInBounds_toArray, List.set_cons_zero, List.set_cons_succ]
      refine wpAnyW_one 18 (by kernel_rfl) (by kernel_rfl) ?_
      intro o ho K hK
      simp only [List.getElem?_toArray, List.getElem?_cons_zero, List.getElem?_cons_succ, Option.some.injEq] at ho
      subst ho
      go_simp
      refine hK _ _ (KeepCells.trans hHeld (KeepCells.of_steps (Steps.setCell (own := fun k => k = w.heap.size + 1) W2.drew (p := ⟨w.heap.size + 1, 0, none⟩) rfl _) (fun k hk h => by omega))) (fun _ => ?_)
      clear hK K
      try simp only [Act.put, List.setIfInBounds_toArray, List.set_cons_zero, List.set_cons_succ]
      refine wpAnyW_done (by kernel_rfl) ?_ _
      dsimp only [onNormal]
      go_wp2_with fail
      refine door_ret (v := .tuple #[.int .i64 R1, .int .i64 R2, .int .i64 0]) (by simp [results, Try.results21, go_sem, c10, w1, w2]) ?_
      unfold AlonePost
      rw [HB.out]
      exact ⟨rfl, (hb2.setCell (p := ⟨w.heap.size + 1, 0, none⟩) (by show w.heap.size ≤ w.heap.size + 1; omega) _).drew⟩
    · have hB : bAlone b = (0, 0, 4) := by simp [bAlone, hok, hnil]
      have HB := Lib.hid hB
      clear hB hnil
      have i1 : W2.heap[w.heap.size + 1]? = some (.cells #[.int .i64 0] 29) := hs2.obj (by omega) j1
      have hb2 : Below w.heap.size w W2 := hb0.trans ((hb1.mono hb0.size).trans (hs2.below (by omega) (fun k hk h => by omega)))
      have hsz2 := hs2.size
      refine door_panic (y := 0) (v := .tuple #[.int .i64 0, .int .i64 0, .int .i64 4]) (cell_block i1 0) (frozen_block i1 0) (fun W' hs' hc' _ => ?_)
      refine ⟨by simp [results, Try.results21, go_sem, hc'], ?_⟩
      unfold AlonePost
      rw [HB.out]
      exact ⟨rfl, hb2.trans (hs'.below (by omega) (fun k hk h => by omega))⟩
end Go.Proofs.Ytjkegmjjhdmkiaa
