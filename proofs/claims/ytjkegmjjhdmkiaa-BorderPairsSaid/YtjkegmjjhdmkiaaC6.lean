/- Package border: the joinings of a border, and whether there is one. -/
import Derived.Test.YtjkegmjjhdmkiaaC5
namespace Go.Proofs.Ytjkegmjjhdmkiaa
open Go.RowKit Go.Shelf
attribute [local go_sem] Oper.semAt_some
set_option maxHeartbeats 1600000
set_option maxRecDepth 100000
set_option linter.unusedSimpArgs false

/-- The joinings of a border with a shift, by the sets of stars that are Sure. -/
def bJoins (b : Bo) (fset sset : Nat) (s : Int × Int) : List (List Int) := jsFrom (b.row s) fset sset b.ss.length b.fs.length []

/-- What is made: the boxes that the iterator reads. -/
structure JoinMade (p B2 B5 : Nat) (b : Bo) (s : Int × Int) (W : World) : Prop where
  c2 : W.cell? ⟨B2, 0, none⟩ = some (.pointer (some ⟨p, 0, none⟩))
  c5 : ∀ i, i < 6 → W.cell? ⟨B5, i, none⟩ = some (.int .u64 (b.row s i))

theorem JoinMade.keep {p B2 B5 : Nat} {b : Bo} {s : Int × Int} {A C : World} (h : JoinMade p B2 B5 b s A) (k : KeepCells (fun k => k = B2 ∨ k = B5) A C) : JoinMade p B2 B5 b s C :=
  ⟨k ⟨B2, 0, none⟩ _ (.inl rfl) h.c2, fun i hi => k ⟨B5, i, none⟩ _ (.inr rfl) (h.c5 i hi)⟩

theorem KnownOk.steps {A C : World} {r : Nat} {b : Bo} {own : Nat → Prop} (h : KnownOk A r b) (hs : Steps own A C) (hn : ¬ own r) : KnownOk C r b := by
  obtain ⟨es, clk, h1, h2⟩ := h
  exact ⟨es, clk, hs.obj hn h1, h2⟩
theorem KnownOk.lt {A : World} {r : Nat} {b : Bo} (h : KnownOk A r b) : r < A.heap.size := by
  obtain ⟨es, clk, h1, h2⟩ := h
  exact (Array.getElem?_eq_some_iff.1 h1).1

def JoiningsPost (p : Nat) (b : Bo) (s : Int × Int) (r : Nat) (w : World) (e : Ending) (w' : World) : Prop :=
  ∃ B2 B5, e = .returned (.func (.func 73) #[] #[.pointer (some ⟨B2, 0, none⟩), .pointer (some ⟨B5, 0, none⟩)]) ∧ JoinMade p B2 B5 b s w' ∧ w.heap.size ≤ B2 ∧ w.heap.size ≤ B5 ∧ Steps (fun k => k = r) w w' ∧ KnownOk w' r b

theorem joinings_made (p : Nat) (b : Bo) (fa sa : Option Addr) (fc sc fset sset r : Nat) (s : Int × Int) (w : World) (h : BrdAt w p b fa sa fc sc fset sset r)
    (hk : KnownOk w r b) (hok : b.ok = true) (hsh : b.shift s = true) :
    Calls Try.prog 50 #[.pointer (some ⟨p, 0, none⟩), .agg #[.int .i64 s.1, .int .i64 s.2]] w (JoiningsPost p b s r w) := by
  have hst0 : Steps (fun _ => False) w ((w.alloc (.cells #[.pointer (some ⟨p, 0, none⟩)] 69)).alloc (.cells #[.int .i64 s.1, .int .i64 s.2] 72)) :=
    (Steps.alloc _ w _).trans (Steps.alloc (fun _ => False) _ _) (fun _ _ h => h)
  have hb0 : Below w.heap.size w ((w.alloc (.cells #[.pointer (some ⟨p, 0, none⟩)] 69)).alloc (.cells #[.int .i64 s.1, .int .i64 s.2] 72)) := hst0.below (Nat.le_refl _) (fun _ _ h => h)
  have hm := matches_any p b fa sa fc sc fset sset r s _ (h.later hb0) (hk.steps hst0 (fun h => h)) hok hsh
  go_enter Try.func50, Try.ntmps50
  go_wp2_with (go_at_call 45; refine hm.mono ?_; rintro e w1 ⟨rfl, hs1, hk1⟩; unfold mtV)
  go_ret
  have hk0 := hk.lt
  have hc0 : w1.cell? ⟨w.heap.size, 0, none⟩ = some (.pointer (some ⟨p, 0, none⟩)) := by
    rw [World.cell?_of_block (hs1.block w.heap.size (by simp; omega) (by omega))]
    exact cell_later (below_alloc _ _) (cell_new _ _ _ _ _ rfl)
  have hz1 := hs1.size
  simp only [World.size_alloc] at hz1
  refine ⟨_, _, rfl, ⟨cell_later (below_alloc _ _) hc0, fun i hi => (cell_block (obj_new w1 _) i).trans (rowCells_get (b.row s) i hi)⟩, Nat.le_refl _, by omega, ?_, hk1.steps (Steps.alloc (fun _ => False) _ _) (fun h => h)⟩
  exact ((hst0.mono (own' := fun k => k = r) (fun _ _ h => h.elim)).trans hs1 (fun _ _ h => h)).trans (Steps.alloc (fun k => k = r) _ _) (fun _ _ h => h)

theorem bo_lens {b : Bo} (hok : b.ok = true) : b.fs.length ≤ 6 ∧ b.ss.length ≤ 6 := by
  simp only [Bo.ok, Bool.and_eq_true, decide_eq_true_eq] at hok; omega
theorem row_lt (b : Bo) (s : Int × Int) (i : Nat) : b.row s i < 2 ^ b.ss.length := maskOf_lt _ _

/-- The contract of the iterator, from what a border is in memory. -/
theorem joinings_iter {p B2 B5 B0 : Nat} {b : Bo} {fa sa : Option Addr} {fc sc fset sset r : Nat} {s : Int × Int} {W : World} (h : BrdAt W p b fa sa fc sc fset sset r) (hm : JoinMade p B2 B5 b s W) (hok : b.ok = true)
    (f6 : fset < 2 ^ 6) (s6 : sset < 2 ^ b.ss.length) (hB0 : B0 ≤ W.heap.size) :
    SeqOwn Try.prog 73 #[.pointer (some ⟨B2, 0, none⟩), .pointer (some ⟨B5, 0, none⟩)] (JoinEnc B0) (KeepCells (fun k => k = p ∨ k = B2 ∨ k = B5)) (bJoins b fset sset s) W :=
  joinings_seq W hm.c2 hm.c5 h.bo.c4 h.bo.c5 h.c6 h.c7 (bo_lens hok).1 (bo_lens hok).2 f6 s6 (row_lt b s) hB0

theorem joinEnc_wider {B0 : Nat} {own own' : Nat → Prop} {x : List Int} {vals : Array Value} {W : World} (hw : ∀ k, own' k → own k ∨ k < B0) (h : JoinEnc B0 own x vals W) : JoinEnc B0 own' x vals W := by
  obtain ⟨q, cap, h1, h2, h3, h4, h5⟩ := h
  exact ⟨q, cap, h1, h2, fun h => by rcases hw q h with h | h; exact h3 h; omega, h4, h5⟩

/-- A return with the mark of a loop among the deferred calls. -/
theorem marks_ret {P : Program} {fn : Func} {R : Ending → World → Prop} {tmps : Array Value} {W : World} {D : Nat} {v : Value} (hK : W.heap[D]? = some (.deferred (some [])))
    (hr : ∀ X, Steps (fun k => k = D) W X → X.heap.size = W.heap.size → (results fn tmps).run P X = .ok v X ∧ R (.returned v) X) : bodyPostM Fence.wide 0 P fn R .ret { tmps, defers := [{ target := .collected D, args := #[] }] } W := by
  obtain ⟨h1, h2⟩ := hr _ (Steps.putObj (own := fun k => k = D) W rfl (.deferred none)) (by simp)
  exact ⟨by simp, .inl ⟨_, _, rfl, run_takeDeferred hK, ⟨_, h1, h2⟩⟩⟩
theorem marks_end {P : Program} {fn : Func} {R : Ending → World → Prop} {tmps : Array Value} {W : World} {D : Nat} {v : Value} (hK : W.heap[D]? = some (.deferred (some [])))
    (hr : ∀ X, Steps (fun k => k = D) W X → X.heap.size = W.heap.size → (results fn tmps).run P X = .ok v X ∧ R (.returned v) X) : bodyPostM Fence.wide 0 P fn R .normal { tmps, defers := [{ target := .collected D, args := #[] }] } W := marks_ret hK hr

def JoinsPost (b : Bo) (fset sset : Nat) (s : Int × Int) (r : Nat) (w : World) (e : Ending) (w' : World) : Prop := e = .returned (.bool (!(bJoins b fset sset s).isEmpty)) ∧ Steps (fun k => k = r) w w' ∧ KnownOk w' r b

theorem joins_any (p : Nat) (b : Bo) (fa sa : Option Addr) (fc sc fset sset r : Nat) (s : Int × Int) (w : World) (h : BrdAt w p b fa sa fc sc fset sset r)
    (hk : KnownOk w r b) (hok : b.ok = true) (hsh : b.shift s = true) (f6 : fset < 2 ^ 6) (s6 : sset < 2 ^ b.ss.length) :
    Calls Try.prog 78 #[.pointer (some ⟨p, 0, none⟩), .agg #[.int .i64 s.1, .int .i64 s.2]] w (JoinsPost b fset sset s r w) := by
  have hst0 : Steps (fun _ => False) w ((w.alloc (.cells #[.int .i64 s.1, .int .i64 s.2] 72)).alloc (.cells #[.bool false] 4)) :=
    (Steps.alloc _ w _).trans (Steps.alloc (fun _ => False) _ _) (fun _ _ h => h)
  have hb0 : Below w.heap.size w ((w.alloc (.cells #[.int .i64 s.1, .int .i64 s.2] 72)).alloc (.cells #[.bool false] 4)) := hst0.below (Nat.le_refl _) (fun _ _ h => h)
  have hBx : Boxed ((w.alloc (.cells #[.int .i64 s.1, .int .i64 s.2] 72)).alloc (.cells #[.bool false] 4)) (w.heap.size + 1) 4 (.bool false) := by
    have := Boxed.new (w.alloc (.cells #[.int .i64 s.1, .int .i64 s.2] 72)) 4 (.bool false)
    rwa [World.size_alloc] at this
  have hm := joinings_made p b fa sa fc sc fset sset r s _ (h.later hb0) (hk.steps hst0 (fun h => h)) hok hsh
  have hk0 := hk.lt
  refine (callsIn_wide (n := 0)).1 ?_
  refine callsIn_of_wp_marks Try.func78 rfl trivial ?_ rfl
  simp only [Try.ntmps78, List.size_toArray, List.length_cons, List.length_nil, Nat.reduceAdd, Nat.reduceSub, Array.replicate_succ, Array.replicate_zero, List.push_toArray, List.append_toArray, List.nil_append, List.cons_append]
  gi_wp2_with (refine ⟨trivial, rfl, ?_⟩; gi_at_call 50; refine (callsIn_wide.2 hm).mono ?_; rintro e W0 ⟨B2, B5, rfl, hjm, hB2, hB5, hs1, hk1⟩)
  have hz0 : w.heap.size + 2 ≤ W0.heap.size := by have := hs1.size; simp only [World.size_alloc] at this; exact this
  have hB0 : BrdAt W0 p b fa sa fc sc fset sset r := (h.later hb0).steps hs1 (hk.steps hst0 (fun h => h))
  have hX0 : Boxed W0 (w.heap.size + 1) 4 (.bool false) := hs1.obj (by omega) hBx
  have hsw0 : Steps (fun k => k = r) w W0 := (hst0.mono (own' := fun k => k = r) (fun _ _ h => h.elim)).trans hs1 (fun _ _ h => h)
  have hpr : p < w.heap.size := World.block_lt_of_cell? w _ h.c6
  refine wpIn_range_own (α := List Int) (gf := 73) (lb := #[.pointer (some ⟨B2, 0, none⟩), .pointer (some ⟨B5, 0, none⟩)]) (L := bJoins b fset sset s) (Enc := JoinEnc (W0.heap.size + 2)) (Kp := KeepCells (fun k => k = p ∨ k = B2 ∨ k = B5))
    rfl (enters_of Try.func73 (by kernel_rfl) rfl) ?seq KeepCells.trans ?kb ?ps
    (fun own pre W => pre = [] ∧ (∀ k, own k → W0.heap.size ≤ k) ∧ Steps (fun k => W0.heap.size ≤ k) W0 W)
    (fun c own pre W => c = .ret ∧ pre ≠ [] ∧ (∀ k, own k → W0.heap.size ≤ k) ∧ Boxed W (w.heap.size + 1) 4 (.bool true) ∧ Steps (fun k => k = w.heap.size + 1 ∨ W0.heap.size ≤ k) W0 W)
    ?bi ?bix ⟨rfl, fun _ h => h.elim, Steps.refl _ _⟩ ?enc ?round ?done ?stop
  case seq =>
    intro W1 hs hz
    exact joinings_iter (hB0.later (hs.below (Nat.le_refl _) (fun _ _ h => h))) (hjm.keep (KeepCells.of_steps hs (fun _ _ h => h))) hok f6 s6 (by omega)
  case kb =>
    intro A C hA hs
    exact KeepCells.of_steps hs (fun k hk h => by
      have h1 := World.block_lt_of_cell? W0 _ hB0.c6
      have h2 := World.block_lt_of_cell? W0 _ hjm.c2
      have h3 := World.block_lt_of_cell? W0 _ (hjm.c5 0 (by omega))
      dsimp only at h1 h2 h3
      omega)
  case ps => rintro own x vals W ⟨q, cap, rfl, _⟩; rfl
  case bi =>
    rintro own own' x A C ⟨h1, h2, h3⟩ hs ho
    exact ⟨h1, fun k hk => by rcases ho k hk with h | h; exact h2 k h; have := h3.size; omega, h3.trans hs (fun k _ hk => h2 k hk)⟩
  case bix =>
    rintro c own own' x A C ⟨h1, h2, h3, h4, h5⟩ hs ho
    exact ⟨h1, h2, fun k hk => by rcases ho k hk with h | h; exact h3 k h; have := h5.size; omega, hs.obj (fun h => by have := h3 _ h; omega) h4, h5.trans hs (fun k _ hk => .inr (h3 k hk))⟩
  case enc => exact fun own own' x vals W hw h => joinEnc_wider (fun k hk => by rcases hw k hk with h | h | h; exact .inl h; exact .inr (by omega); exact .inr (by omega)) h
  case round =>
    rintro l own pre x vals W hl hol hrec hpost ⟨rfl, hown, hsW⟩ hen
    obtain ⟨q, cap, rfl, _⟩ := hen
    gi_wp2
    refine ⟨fun _ _ => trivial, Nat.le_refl _, fun W2 h2 hz2 hl2 => ?_⟩
    have hX2 : Boxed W2 (w.heap.size + 1) 4 (.bool false) := h2.obj (by omega) (hsW.obj (by omega) hX0)
    have hXc := hX2.cell
    have hXf := hX2.frozen
    gi_wp2
    have hst := Steps.setCell (own := fun k => k = w.heap.size + 1) W2 (p := ⟨w.heap.size + 1, 0, none⟩) rfl (.bool true)
    have hbr : w.heap.size + 1 < W0.heap.size := by omega
    have hsz := h2.size
    have hzW := hsW.size
    refine ⟨fun k hk => ?_, hst.size, ?_, rfl, by simp, hown, hX2.set _, (hsW.mono (fun _ _ h => .inr h)).trans ((h2.mono (own' := fun k => k = l ∨ k = w.heap.size + 1) (fun _ _ h => .inl h)).trans hst (fun _ _ h => .inr h)) (fun k _ h => by omega)⟩
    · exact Below.heap_setCell _ _ _ _ (by have := hown k hk; show ¬ k = w.heap.size + 1; omega)
    · exact KeepCells.of_steps ((h2.mono (own' := fun k => k = l ∨ k = w.heap.size + 1) (fun _ _ h => .inl h)).trans hst (fun _ _ h => .inr h)) (fun k hk h => by
        have h1 := World.block_lt_of_cell? W0 _ hB0.c6
        have h2 := World.block_lt_of_cell? W0 _ hjm.c2
        have h3 := World.block_lt_of_cell? W0 _ (hjm.c5 0 (by omega))
        dsimp only at h1 h2 h3
        have hne : B2 ≠ w.heap.size + 1 ∧ B5 ≠ w.heap.size + 1 := by
          simp only [World.size_alloc] at hB2 hB5
          omega
        omega)
  case done =>
    rintro D own W hD hoD ⟨he, hown, hsW⟩ hK
    have hX2 : Boxed W (w.heap.size + 1) 4 (.bool false) := hsW.obj (by omega) hX0
    have hXc := hX2.cell
    have hXf := hX2.frozen
    gi_wp2
    have hst := Steps.setCell (own := fun k => k = w.heap.size + 1) W (p := ⟨w.heap.size + 1, 0, none⟩) rfl (.bool false)
    have hXs := hX2.set (.bool false)
    have hDs : (W.setCell ⟨w.heap.size + 1, 0, none⟩ (.bool false)).heap[D]? = some (.deferred (some [])) := hst.obj (by omega) hK
    have hsz := hsW.size
    refine marks_ret (v := .bool false) hDs (fun X hX _ => ?_)
    have hXc := (Boxed.cell (show Boxed X _ _ _ from hX.obj (by omega) hXs))
    have hall : Steps (fun k => k = w.heap.size + 1 ∨ W0.heap.size ≤ k) W0 X :=
      (hsW.mono (fun _ _ h => .inr h)).trans ((hst.mono (own' := fun k => k = D ∨ k = w.heap.size + 1) (fun _ _ h => .inr h)).trans hX (fun _ _ h => .inl h)) (fun k _ h => by omega)
    refine ⟨by simp [results, Try.results78, go_sem, hXc], by rw [he]; rfl, hsw0.trans hall (fun k hk h => by omega), hk1.steps hall (by omega)⟩
  case stop =>
    rintro D c own pre W hD hoD hpre ⟨rfl, hne, hown, hX2, hsW⟩ hK
    gi_wp2
    refine marks_ret (v := .bool true) hK (fun X hX _ => ?_)
    have hXc := (Boxed.cell (show Boxed X _ _ _ from hX.obj (by omega) hX2))
    have hall : Steps (fun k => k = w.heap.size + 1 ∨ W0.heap.size ≤ k) W0 X := hsW.trans hX (fun k _ h => by omega)
    have hne' : bJoins b fset sset s ≠ [] := fun e => by rw [e] at hpre; exact hne (List.prefix_nil.1 hpre)
    refine ⟨by simp [results, Try.results78, go_sem, hXc], by cases hj : bJoins b fset sset s with | nil => exact absurd hj hne' | cons _ _ => rfl, hsw0.trans hall (fun k hk h => by omega), hk1.steps hall (by omega)⟩
end Go.Proofs.Ytjkegmjjhdmkiaa
