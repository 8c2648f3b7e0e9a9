/- Package border: what gathers the shifts. -/
import Derived.Test.YtjkegmjjhdmkiaaD1
namespace Go.Proofs.Ytjkegmjjhdmkiaa
open Go.RowKit Go.Shelf
set_option maxHeartbeats 1600000
set_option maxRecDepth 100000
set_option linter.unusedSimpArgs false

structure Ends where
  lo : Int
  hi : Int
  some : Bool
def Ends.put (e : Ends) (n : Int) : Ends := ⟨if e.some then min e.lo n else n, if e.some then max e.hi n else n, true⟩
def endsOf (l : List Int) : Ends := l.foldl Ends.put ⟨0, 0, false⟩
theorem endsOf_snoc (l : List Int) (n : Int) : endsOf (l ++ [n]) = (endsOf l).put n := by simp [endsOf]
theorem ends_near (l : List Int) : ∀ e : Ends, (-100 ≤ e.lo ∧ e.lo ≤ 100) ∧ (-100 ≤ e.hi ∧ e.hi ≤ 100) → (∀ n ∈ l, -100 ≤ n ∧ n ≤ 100) →
    (-100 ≤ (l.foldl Ends.put e).lo ∧ (l.foldl Ends.put e).lo ≤ 100) ∧ (-100 ≤ (l.foldl Ends.put e).hi ∧ (l.foldl Ends.put e).hi ≤ 100) := by
  induction l with
  | nil => exact fun e he _ => he
  | cons n l ih =>
    intro e he h
    have hn := h n (by simp)
    refine ih (e.put n) ?_ (fun m hm => h m (by simp [hm]))
    unfold Ends.put
    cases e.some <;> simp <;> omega
theorem endsOf_near (l : List Int) (h : ∀ n ∈ l, -100 ≤ n ∧ n ≤ 100) : (-100 ≤ (endsOf l).lo ∧ (endsOf l).lo ≤ 100) ∧ (-100 ≤ (endsOf l).hi ∧ (endsOf l).hi ≤ 100) :=
  ends_near l _ (by simp) h

/-- What 'reach' holds. -/
structure ReachA (g : Nat) (b : Bo) (own : Nat → Prop) (pre : List Joined) (W : World) : Prop where
  o : ¬ own g
  e : EndsAt W g 0 (endsOf (pre.map (·.1.1))).lo (endsOf (pre.map (·.1.1))).hi (endsOf (pre.map (·.1.1))).some
  n : EndsAt W g 3 (endsOf (pre.map (·.1.2))).lo (endsOf (pre.map (·.1.2))).hi (endsOf (pre.map (·.1.2))).some
  s : ∀ z ∈ pre, z.1 ∈ shiftsOf b

theorem EndsAt.lt {w : World} {b o : Nat} {lo hi : Int} {q : Bool} (h : EndsAt w b o lo hi q) : b < w.heap.size := World.block_lt_of_cell? w _ h.lo

theorem near_of {b : Bo} (hok : b.ok = true) {pre : List Joined} (h : ∀ z ∈ pre, z.1 ∈ shiftsOf b) : (∀ n ∈ pre.map (·.1.1), -100 ≤ n ∧ n ≤ 100) ∧ (∀ n ∈ pre.map (·.1.2), -100 ≤ n ∧ n ≤ 100) := by
  constructor <;>
  · intro n hn
    obtain ⟨z, hz, rfl⟩ := List.mem_map.1 hn
    have := shift_bd hok (shifts_mem (h z hz))
    omega

theorem reach_adder (N g r : Nat) (b : Bo) (f s : Nat) (hok : b.ok = true) (hgr : g ≠ r) : Adder 110 g r b f s N (ReachA g b) where
  bides := by
    rintro own own' pre A C ⟨h1, h2, h3, h4⟩ hs ho
    exact ⟨fun h => by rcases ho g h with h | h; exact h1 h; have := h2.lt; omega, h2.steps hs h1, h3.steps hs h1, h4⟩
  known := by
    rintro own pre A C ⟨h1, h2, h3, h4⟩ hs
    exact ⟨h1, h2.steps hs hgr, h3.steps hs hgr, h4⟩
  add := by
    rintro own pre z x q cap W ⟨h1, h2, h3, h4⟩ hz hx hqN hq hqg hqr hql hqi hown
    obtain ⟨hne, hnn⟩ := near_of hok h4
    obtain ⟨⟨e1, e2⟩, e3, e4⟩ := endsOf_near _ hne
    obtain ⟨⟨n1, n2⟩, n3, n4⟩ := endsOf_near _ hnn
    have hsh := shift_bd hok (shifts_mem hz)
    have hgW := h2.lt
    unfold shV
    go_enter Try.func110, Try.ntmps110
    go_upto_region 1 with fail
    obtain ⟨W1, hW1⟩ : ∃ W1, W.alloc (.cells #[.int .i64 z.1, .int .i64 z.2] 72) = W1 := ⟨_, rfl⟩
    rw [hW1]
    have hs1 : Steps (fun _ => False) W W1 := by rw [← hW1]; exact Steps.alloc _ _ _
    have b1 : W1.heap[W.heap.size]? = some (.cells #[.int .i64 z.1, .int .i64 z.2] 72) := by rw [← hW1]; exact obj_new _ _
    clear hW1
    have c0 := cell_block b1 0
    have c1 := cell_block b1 1
    simp only [List.getElem?_toArray, List.getElem?_cons_zero, List.getElem?_cons_succ] at c0 c1
    have k0 : ∀ W', KeepCells (fun k => k = W.heap.size) W1 W' → W'.cell? ⟨W.heap.size, 0, none⟩ = some (.int .i64 z.1) := fun W' h => h ⟨W.heap.size, 0, none⟩ _ rfl c0
    have k1 : ∀ W', KeepCells (fun k => k = W.heap.size) W1 W' → W'.cell? ⟨W.heap.size, 1, none⟩ = some (.int .i64 z.2) := fun W' h => h ⟨W.heap.size, 1, none⟩ _ rfl c1
    refine (wpIn_wide (n := 1)).1 ?_
    refine wpIn_region_W (S := fun W' => KeepCells (fun k => k = W.heap.size) W1 W') 6 (by kernel_rfl) (by kernel_rfl) (fun a v _ h => h) (fun hHeld => ?_)
    refine wpAnyW_takeD 0 6 (v := ?_) (by kernel_rfl) (by kernel_rfl) (by kernel_rfl) (by kernel_rfl) (fun _ _ _ h => h) ?_ (by assumption) ?_
    rotate_left
    · intro oi hoi w hSw; (try dsimp only at hSw); simp only [List.getElem?_toArray, List.getElem?_cons_zero, List.getElem?_cons_succ, Option.some.injEq] at hoi; subst hoi; go_simp; try with_reducible rfl
    simp only [Act.put, List.setIfInBounds_toArray, List.set_cons_zero, List.set_cons_succ]
    refine wpAnyW_takeD 1 7 (v := ?_) (by kernel_rfl) (by kernel_rfl) (by kernel_rfl) (by kernel_rfl) (fun _ _ _ h => h) ?_ (by assumption) ?_
    rotate_left
    · intro oi hoi w hSw; (try dsimp only at hSw); simp only [List.getElem?_toArray, List.getElem?_cons_zero, List.getElem?_cons_succ, Option.some.injEq] at hoi; subst hoi; go_simp; try with_reducible rfl
    simp only [Act.put, List.setIfInBounds_toArray, List.set_cons_zero, List.set_cons_succ]
    refine wpAnyW_takeD 2 8 (v := ?_) (by kernel_rfl) (by kernel_rfl) (by kernel_rfl) (by kernel_rfl) (fun _ _ _ h => h) ?_ (by assumption) ?_
    rotate_left
    · intro oi hoi w hSw; (try dsimp only at hSw); simp only [List.getElem?_toArray, List.getElem?_cons_zero, List.getElem?_cons_succ, Option.some.injEq] at hoi; subst hoi; go_simp; try with_reducible rfl
    simp only [Act.put, List.setIfInBounds_toArray, List.set_cons_zero, List.set_cons_succ]
    refine wpAnyW_takeD 3 9 (v := ?_) (by kernel_rfl) (by kernel_rfl) (by kernel_rfl) (by kernel_rfl) (fun _ _ _ h => h) ?_ (by assumption) ?_
    rotate_left
    · intro oi hoi w hSw; (try dsimp only at hSw); simp only [List.getElem?_toArray, List.getElem?_cons_zero, List.getElem?_cons_succ, Option.some.injEq] at hoi; subst hoi; go_simp; try with_reducible rfl
    simp only [Act.put, List.setIfInBounds_toArray, List.set_cons_zero, List.set_cons_succ]
    refine wpAnyW_takeD 4 10 (v := ?_) (by kernel_rfl) (by kernel_rfl) (by kernel_rfl) (by kernel_rfl) (fun _ _ _ h => h) ?_ (by assumption) ?_
    rotate_left
    · intro oi hoi w hSw; (try dsimp only at hSw); simp only [List.getElem?_toArray, List.getElem?_cons_zero, List.getElem?_cons_succ, Option.some.injEq] at hoi; subst hoi; go_simp; try with_reducible rfl
    simp only [Act.put, List.setIfInBounds_toArray, List.set_cons_zero, List.set_cons_succ]
    have hp := put_any g 0 _ _ z.1 _ W1.drew ((h2.steps hs1 (fun h => h)).steps (Steps.refl (fun _ => False) W1).drew (fun h => h)) (by omega) (by omega) (by omega)
    refine wpAnyW_one 5 (by kernel_rfl) (by kernel_rfl) ?_
    intro o ho K hK
    simp only [List.getElem?_toArray, List.getElem?_cons_zero, List.getElem?_cons_succ, Option.some.injEq] at ho
    subst ho
    go_simp
    refine ⟨trivial, CallsIn.mono (callsIn_wide.2 hp) ?_⟩
    rintro e W2 ⟨rfl, hs2, ho2, hE2⟩
    have hWg : ¬ W.heap.size = g := by omega
    have hgs : Steps (fun k => k = g) W W2 := (hs1.mono (own' := fun k => k = g) (fun _ _ h => h.elim)).trans ((Steps.refl (fun k => k = g) W1).drew.trans hs2 (fun _ _ h => h)) (fun _ _ h => h)
    have hk2 : KeepCells (fun k => k = W.heap.size) W1 W2 := fun a v ha hv => KeepCells.of_steps (bs := fun k => k = W.heap.size) hs2 (fun k (hk : k = W.heap.size) (h : k = g) => hWg (hk.symm.trans h)) a v ha hv
    refine hK _ _ hk2 (fun _ => ?_)
    clear hK K
    try simp only [Act.put, List.setIfInBounds_toArray, List.set_cons_zero, List.set_cons_succ]
    refine wpAnyW_done (by kernel_rfl) ?_ _
    have hN2 : EndsAt W2 g 3 (endsOf (pre.map (·.1.2))).lo (endsOf (pre.map (·.1.2))).hi (endsOf (pre.map (·.1.2))).some := by
      have hN1 := h3.steps hs1 (fun h => h)
      exact ⟨(ho2 3 (by omega)).trans hN1.lo, (ho2 4 (by omega)).trans hN1.hi, (ho2 5 (by omega)).trans hN1.sm, hE2.fz⟩
    have d1 := hk2 ⟨W.heap.size, 1, none⟩ _ rfl c1
    clear k0 k1 hHeld
    go_upto_region 2 with fail
    have k1 : ∀ W', KeepCells (fun k => k = W.heap.size) W2 W' → W'.cell? ⟨W.heap.size, 1, none⟩ = some (.int .i64 z.2) := fun W' h => h ⟨W.heap.size, 1, none⟩ _ rfl d1
    refine (wpIn_wide (n := 1)).1 ?_
    refine wpIn_region_W (S := fun W' => KeepCells (fun k => k = W.heap.size) W2 W') 6 (by kernel_rfl) (by kernel_rfl) (fun a v _ h => h) (fun hHeld => ?_)
    refine wpAnyW_takeD 0 12 (v := ?_) (by kernel_rfl) (by kernel_rfl) (by kernel_rfl) (by kernel_rfl) (fun _ _ _ h => h) ?_ (by assumption) ?_
    rotate_left
    · intro oi hoi w hSw; (try dsimp only at hSw); simp only [List.getElem?_toArray, List.getElem?_cons_zero, List.getElem?_cons_succ, Option.some.injEq] at hoi; subst hoi; go_simp; try with_reducible rfl
    simp only [Act.put, List.setIfInBounds_toArray, List.set_cons_zero, List.set_cons_succ]
    refine wpAnyW_takeD 1 13 (v := ?_) (by kernel_rfl) (by kernel_rfl) (by kernel_rfl) (by kernel_rfl) (fun _ _ _ h => h) ?_ (by assumption) ?_
    rotate_left
    · intro oi hoi w hSw; (try dsimp only at hSw); simp only [List.getElem?_toArray, List.getElem?_cons_zero, List.getElem?_cons_succ, Option.some.injEq] at hoi; subst hoi; go_simp; try with_reducible rfl
    simp only [Act.put, List.setIfInBounds_toArray, List.set_cons_zero, List.set_cons_succ]
    refine wpAnyW_takeD 2 14 (v := ?_) (by kernel_rfl) (by kernel_rfl) (by kernel_rfl) (by kernel_rfl) (fun _ _ _ h => h) ?_ (by assumption) ?_
    rotate_left
    · intro oi hoi w hSw; (try dsimp only at hSw); simp only [List.getElem?_toArray, List.getElem?_cons_zero, List.getElem?_cons_succ, Option.some.injEq] at hoi; subst hoi; go_simp; try with_reducible rfl
    simp only [Act.put, List.setIfInBounds_toArray, List.set_cons_zero, List.set_cons_succ]
    refine wpAnyW_takeD 3 15 (v := ?_) (by kernel_rfl) (by kernel_rfl) (by kernel_rfl) (by kernel_rfl) (fun _ _ _ h => h) ?_ (by assumption) ?_
    rotate_left
    · intro oi hoi w hSw; (try dsimp only at hSw); simp only [List.getElem?_toArray, List.getElem?_cons_zero, List.getElem?_cons_succ, Option.some.injEq] at hoi; subst hoi; go_simp; try with_reducible rfl
    simp only [Act.put, List.setIfInBounds_toArray, List.set_cons_zero, List.set_cons_succ]
    refine wpAnyW_takeD 4 16 (v := ?_) (by kernel_rfl) (by kernel_rfl) (by kernel_rfl) (by kernel_rfl) (fun _ _ _ h => h) ?_ (by assumption) ?_
    rotate_left
    · intro oi hoi w hSw; (try dsimp only at hSw); simp only [List.getElem?_toArray, List.getElem?_cons_zero, List.getElem?_cons_succ, Option.some.injEq] at hoi; subst hoi; go_simp; try with_reducible rfl
    simp only [Act.put, List.setIfInBounds_toArray, List.set_cons_zero, List.set_cons_succ]
    have hp2 := put_any g 3 _ _ z.2 _ W2.drew (hN2.steps (Steps.refl (fun _ => False) W2).drew (fun h => h)) (by omega) (by omega) (by omega)
    refine wpAnyW_one 5 (by kernel_rfl) (by kernel_rfl) ?_
    intro o ho K hK
    simp only [List.getElem?_toArray, List.getElem?_cons_zero, List.getElem?_cons_succ, Option.some.injEq] at ho
    subst ho
    go_simp
    refine ⟨trivial, CallsIn.mono (callsIn_wide.2 hp2) ?_⟩
    rintro e W3 ⟨rfl, hs3, ho3, hE3⟩
    refine hK _ _ (fun a v ha hv => KeepCells.of_steps (bs := fun k => k = W.heap.size) hs3 (fun k (hk : k = W.heap.size) (h : k = g) => hWg (hk.symm.trans h)) a v ha hv) (fun _ => ?_)
    clear hK K
    try simp only [Act.put, List.setIfInBounds_toArray, List.set_cons_zero, List.set_cons_succ]
    refine wpAnyW_done (by kernel_rfl) ?_ _
    go_wp2_with fail
    go_end0
    refine ⟨rfl, hgs.trans ((Steps.refl (fun k => k = g) W2).drew.trans hs3 (fun _ _ h => h)) (fun _ _ h => h), h1, ?_, ?_, ?_⟩
    · rw [List.map_append, List.map_singleton, endsOf_snoc]
      exact ⟨(ho3 0 (by omega)).trans hE2.lo, (ho3 1 (by omega)).trans hE2.hi, (ho3 2 (by omega)).trans hE2.sm, hE3.fz⟩
    · rw [List.map_append, List.map_singleton, endsOf_snoc]
      exact hE3
    · intro y hy
      rcases List.mem_append.1 hy with h | h
      · exact h4 y h
      · rw [List.mem_singleton] at h; subst h; exact hz
end Go.Proofs.Ytjkegmjjhdmkiaa
