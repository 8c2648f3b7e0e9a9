/- Package border: the iterator over all joinings with a shift. Package border: the joinings of a border, and whether there is one. Package border: whether some shift is possible. Package border: gathering of all joinings with all shifts. -/
import Derived.Test.YtjkegmjjhdmkiaaBU11
import Derived.Laws.MakeOwn
namespace Go.Proofs.Ytjkegmjjhdmkiaa
open Go.RowKit Go.Shelf
attribute [local go_sem] Oper.semAt_some
set_option maxHeartbeats 1600000
set_option maxRecDepth 100000
set_option linter.unusedSimpArgs false

section
variable {p B2 By Bo B5 bq l B0 nf ns : Nat} {fa sa : Option Addr} {fc sc fset sset : Nat} {row : Nat → Nat}

theorem on_any {J Jx : (Nat → Prop) → List (List Int) → World → Prop} {L : List (List Int)} (C : OnCtx p B2 By Bo B5 bq l B0 nf ns fset sset row J Jx L) :
    ∀ (r : Nat) (ls : List Int) (used : Nat) (pre : List (List Int)) (W : World), ls.length + r = nf → OnS W p B2 By Bo B5 l nf ns fa sa fc sc fset sset row → RowAt W bq ls → Used used ls → B0 ≤ W.heap.size →
      J (fun k => k = By ∨ k = Bo ∨ k = bq) pre W → (∃ post, L = pre ++ jsFrom row fset sset ns r ls ++ post) →
      Calls Try.prog 74 #[.slice (some ⟨bq, 0, none⟩) ls.length 6, .int .u64 used, .pointer (some ⟨B2, 0, none⟩), .pointer (some ⟨By, 0, none⟩), .pointer (some ⟨Bo, 0, none⟩), .pointer (some ⟨B5, 0, none⟩)] W
        (OnPost W p B2 By Bo B5 bq J Jx (fun k => k = By ∨ k = Bo ∨ k = bq) pre (jsFrom row fset sset ns r ls) ls) := by
  intro r
  induction r with
  | zero => exact on_zero C
  | succ r ih => exact on_succ C r ih

theorem make6 (w : World) : (Instr.makeSlice 40 (.int .i64 0) (.int .i64 6)).run Try.prog w =
    .ok (.slice (some ⟨w.heap.size, 0, none⟩) 0 6) (w.alloc (.cells #[.int .i64 0, .int .i64 0, .int .i64 0, .int .i64 0, .int .i64 0, .int .i64 0] 3)) := by
  obtain ⟨i0, hi, hz0, hz1, hz2⟩ := info_parts infoInt
  have h := run_makeSlice (P := Try.prog) w 40 3 i0 (.int .i64 0) Try.underlying40 hi hz0 .i64 .i64 0 6 (by omega) (by omega) (by simp [hz1]) (by simp [hz2]) (by omega)
  rw [h, hz1]
  have : madeCells (Value.int .i64 0).cells (Int.toNat 6 * 1) = #[.int .i64 0, .int .i64 0, .int .i64 0, .int .i64 0, .int .i64 0, .int .i64 0] := by kernel_rfl
  rw [this]
  rfl

theorem joinings_seq (W : World) (c2 : W.cell? ⟨B2, 0, none⟩ = some (.pointer (some ⟨p, 0, none⟩))) (c5 : ∀ i, i < 6 → W.cell? ⟨B5, i, none⟩ = some (.int .u64 (row i)))
    (b4 : W.cell? ⟨p, 4, none⟩ = some (.slice fa nf fc)) (b5 : W.cell? ⟨p, 5, none⟩ = some (.slice sa ns sc)) (b6 : W.cell? ⟨p, 6, none⟩ = some (.int .u64 fset)) (b7 : W.cell? ⟨p, 7, none⟩ = some (.int .u64 sset))
    (nf6 : nf ≤ 6) (ns6 : ns ≤ 6) (f6 : fset < 2 ^ 6) (s6 : sset < 2 ^ ns) (row6 : ∀ i, row i < 2 ^ ns) (hB0 : B0 ≤ W.heap.size) :
    SeqOwn Try.prog 73 #[.pointer (some ⟨B2, 0, none⟩), .pointer (some ⟨B5, 0, none⟩)] (JoinEnc B0) (KeepCells (fun k => k = p ∨ k = B2 ∨ k = B5)) (jsFrom row fset sset ns nf []) W := by
  intro l J Jx hJ hJx hY h0
  have hp := World.block_lt_of_cell? W _ b4
  have h2 := World.block_lt_of_cell? W _ c2
  have h5 := World.block_lt_of_cell? W _ (c5 0 (by omega))
  dsimp only at hp h2 h5
  refine (callsIn_wide (n := 1)).1 ?_
  refine callsIn_of_wp Try.func73 rfl trivial ?_ rfl
  simp only [Try.ntmps73, List.size_toArray, List.length_cons, List.length_nil, Nat.reduceAdd, Nat.reduceSub, Array.replicate_succ, Array.replicate_zero, List.push_toArray, List.append_toArray, List.nil_append, List.cons_append]
  gi_wp2
  obtain ⟨W3, hW3⟩ : ∃ W3, (W.alloc (.cells #[.func (.yield l) #[] #[]] 128)).alloc (.cells #[onV B2 W.heap.size (W.heap.size + 1) B5] 129) = W3 := ⟨_, rfl⟩
  have hW3' := hW3
  unfold onV at hW3'
  rw [hW3']
  clear hW3'
  have hst3 : Steps (fun _ => False) W W3 := by rw [← hW3]; exact (Steps.alloc _ W _).trans (Steps.alloc (fun _ => False) _ _) (fun _ _ h => h)
  have hz3 : W3.heap.size = W.heap.size + 2 := by rw [← hW3]; simp
  have cy : W3.cell? ⟨W.heap.size, 0, none⟩ = some (.func (.yield l) #[] #[]) := by rw [← hW3]; exact cell_later (below_alloc _ _) (cell_new _ _ _ _ _ rfl)
  have co : W3.cell? ⟨W.heap.size + 1, 0, none⟩ = some (onV B2 W.heap.size (W.heap.size + 1) B5) := by
    have := cell_new (W.alloc (.cells #[.func (.yield l) #[] #[]] 128)) #[onV B2 W.heap.size (W.heap.size + 1) B5] 129 0 _ rfl
    rw [World.size_alloc] at this
    rw [← hW3]; exact this
  clear hW3
  have hkeep3 : KeepCells (fun _ => True) W W3 := KeepCells.of_steps hst3 (fun _ _ h => h)
  have HZ3 := Lib.hid hz3
  clear hz3
  have co' := co
  unfold onV at co'
  have ko : ∀ W', KeepCells (fun k => k = W.heap.size + 1) W3 W' → W'.cell? ⟨W.heap.size + 1, 0, none⟩ = some (onV B2 W.heap.size (W.heap.size + 1) B5) := fun W' h => h ⟨W.heap.size + 1, 0, none⟩ _ rfl co
  unfold onV at ko
  refine wpIn_region_W (S := fun W' => KeepCells (fun k => k = W.heap.size + 1) W3 W') 3 (by kernel_rfl) (by kernel_rfl) (fun a v _ h => h) (fun hHeld => ?_)
  refine wpAnyW_takeD 0 6 (v := ?_) (by kernel_rfl) (by kernel_rfl) (by kernel_rfl) (by kernel_rfl) (fun _ _ _ h => h) ?_ (by assumption) ?_
  rotate_left
  · intro oi hoi w hSw; (try dsimp only at hSw); simp only [List.getElem?_toArray, List.getElem?_cons_zero, List.getElem?_cons_succ, Option.some.injEq] at hoi; subst hoi; go_simp; try with_reducible rfl
  simp only [Act.put, List.setIfInBounds_toArray, List.set_cons_zero, List.set_cons_succ]
  have hmk := make6 W3.drew
  refine wpAnyW_one 1 (by kernel_rfl) (by kernel_rfl) ?_
  intro o ho K hK
  simp only [List.getElem?_toArray, List.getElem?_cons_zero, List.getElem?_cons_succ, Option.some.injEq] at ho
  subst ho
  go_simp
  have hst4 : Steps (fun _ => False) W3 (W3.alloc (.cells #[.int .i64 0, .int .i64 0, .int .i64 0, .int .i64 0, .int .i64 0, .int .i64 0] 3)).drew := (Steps.alloc (fun _ => False) W3 _).drew
  have hq4 : (W3.alloc (.cells #[.int .i64 0, .int .i64 0, .int .i64 0, .int .i64 0, .int .i64 0, .int .i64 0] 3)).drew.heap[W3.heap.size]? = some (.cells #[.int .i64 0, .int .i64 0, .int .i64 0, .int .i64 0, .int .i64 0, .int .i64 0] 3 (0, 0)) := obj_new _ _
  have hz4 : (W3.alloc (.cells #[.int .i64 0, .int .i64 0, .int .i64 0, .int .i64 0, .int .i64 0, .int .i64 0] 3)).drew.heap.size = W3.heap.size + 1 := by
    show (W3.alloc _).heap.size = _
    simp
  generalize (W3.alloc (.cells #[.int .i64 0, .int .i64 0, .int .i64 0, .int .i64 0, .int .i64 0, .int .i64 0] 3)).drew = W4 at hst4 hq4 hz4 hK ⊢
  have hk4 : KeepCells (fun _ => True) W3 W4 := KeepCells.of_steps hst4 (fun _ _ h => h)
  refine hK _ _ (hk4.mono (fun _ _ => trivial)) (fun hHeld4 => ?_)
  clear hK K
  try simp only [Act.put, List.setIfInBounds_toArray, List.set_cons_zero, List.set_cons_succ]
  have hkw : KeepCells (fun _ => True) W W4 := hkeep3.trans hk4
  have hz3 := HZ3.out
  have hS4 : OnS W4 p B2 W.heap.size (W.heap.size + 1) B5 l nf ns fa sa fc sc fset sset row :=
    ⟨hkw _ _ trivial c2, hk4 _ _ trivial cy, hk4 _ _ trivial co, fun i hi => hkw _ _ trivial (c5 i hi), hkw _ _ trivial b4, hkw _ _ trivial b5, hkw _ _ trivial b6, hkw _ _ trivial b7⟩
  have hJ4 : J (fun k => k = W.heap.size ∨ k = W.heap.size + 1 ∨ k = W3.heap.size) [] W4 :=
    hJ (fun _ => False) _ [] W W4 h0 (hst3.trans hst4 (fun _ _ h => h)) (fun k hk => .inr (by omega))
  have C : OnCtx p B2 W.heap.size (W.heap.size + 1) B5 W3.heap.size l B0 nf ns fset sset row J Jx (jsFrom row fset sset ns nf []) :=
    ⟨hJ, hJx, nf6, ns6, f6, s6, row6, by unfold OnB; omega, by omega, fun pre x vals W1 h1 h2 h3 => hY _ pre x vals W1 h1 h2 h3⟩
  have hon := on_any C nf [] 0 [] W4 (by simp) hS4 ⟨_, hq4, rfl, fun i hi => by simp at hi⟩ ⟨by decide, fun k => by simp⟩ (by omega) hJ4 ⟨[], by simp⟩
  simp only [List.length_nil, Int.natCast_zero, List.nil_append] at hon
  clear hz3
  refine wpAnyW_one 2 (by kernel_rfl) (by kernel_rfl) ?_
  intro o ho K hK
  simp only [List.getElem?_toArray, List.getElem?_cons_zero, List.getElem?_cons_succ, Option.some.injEq] at ho
  subst ho
  go_simp
  refine ⟨trivial, CallsIn.mono (callsIn_wide.2 hon) ?_⟩
  rintro e W5 ⟨hk5, hz5, (⟨rfl, hR5, hJ5⟩ | ⟨rfl, qq, hpre, hJx5⟩)⟩
  all_goals
    refine hK _ _ (fun a v ha hv => hk5 a v (by unfold OnB; dsimp only at ha; omega) (hk4 a v trivial hv)) (fun hHeld5 => ?_)
    clear hK K
    try simp only [Act.put, List.setIfInBounds_toArray, List.set_cons_zero, List.set_cons_succ]
    refine wpAnyW_done (by kernel_rfl) ?_ _
    gi_wp2
    go_end0
  · exact ⟨⟨_, rfl⟩, .inl ⟨_, hJ5⟩⟩
  · exact ⟨⟨_, rfl⟩, .inr ⟨_, qq, hpre, hJx5⟩⟩
end
end Go.Proofs.Ytjkegmjjhdmkiaa
namespace Go.Proofs.Ytjkegmjjhdmkiaa
open Go.RowKit Go.Shelf
attribute [local go_sem] Oper.semAt_some
set_option maxHeartbeats 1600000
set_option maxRecDepth 100000
set_option linter.unusedSimpArgs false

/-- The joinings of a border with a shift, by the sets of stars that are Sure. -/
def bJoins (b : Bo) (fset sset : Nat) (s : Int × Int) : List (List Int) := jsFrom (b.row s) fset sset b.ss.length b.fs.length []

/-- What is made: the boxes that the iterator reads. -/
structure JoinMade (p B2 B5 : Nat) (b : Bo) (s : Int × Int) (W : World) : Prop where
  c2 : W.cell? ⟨B2, 0, none⟩ = some (.pointer (some ⟨p, 0, none⟩))
  c5 : ∀ i, i < 6 → W.cell? ⟨B5, i, none⟩ = some (.int .u64 (b.row s i))

theorem JoinMade.keep {p B2 B5 : Nat} {b : Bo} {s : Int × Int} {A C : World} (h : JoinMade p B2 B5 b s A) (k : KeepCells (fun k => k = B2 ∨ k = B5) A C) : JoinMade p B2 B5 b s C :=
  ⟨k ⟨B2, 0, none⟩ _ (.inl rfl) h.c2, fun i hi => k ⟨B5, i, none⟩ _ (.inr rfl) (h.c5 i hi)⟩

theorem KnownOk.steps {A C : World} {r : Nat} {b : Bo} {own : Nat → Prop} (h : KnownOk A r b) (hs : Steps own A C) (hn : ¬ own r) : KnownOk C r b := by
  obtain ⟨es, clk, h1, h2⟩ := h
  exact ⟨es, clk, hs.obj hn h1, h2⟩
theorem KnownOk.lt {A : World} {r : Nat} {b : Bo} (h : KnownOk A r b) : r < A.heap.size := by
  obtain ⟨es, clk, h1, h2⟩ := h
  exact (Array.getElem?_eq_some_iff.1 h1).1

def JoiningsPost (p : Nat) (b : Bo) (s : Int × Int) (r : Nat) (w : World) (e : Ending) (w' : World) : Prop :=
  ∃ B2 B5, e = .returned (.func (.func 73) #[] #[.pointer (some ⟨B2, 0, none⟩), .pointer (some ⟨B5, 0, none⟩)]) ∧ JoinMade p B2 B5 b s w' ∧ w.heap.size ≤ B2 ∧ w.heap.size ≤ B5 ∧ Steps (fun k => k = r) w w' ∧ KnownOk w' r b

theorem joinings_made (p : Nat) (b : Bo) (fa sa : Option Addr) (fc sc fset sset r : Nat) (s : Int × Int) (w : World) (h : BrdAt w p b fa sa fc sc fset sset r)
    (hk : KnownOk w r b) (hok : b.ok = true) (hsh : b.shift s = true) :
    Calls Try.prog 50 #[.pointer (some ⟨p, 0, none⟩), .agg #[.int .i64 s.1, .int .i64 s.2]] w (JoiningsPost p b s r w) := by
  have hst0 : Steps (fun _ => False) w ((w.alloc (.cells #[.pointer (some ⟨p, 0, none⟩)] 69)).alloc (.cells #[.int .i64 s.1, .int .i64 s.2] 72)) :=
    (Steps.alloc _ w _).trans (Steps.alloc (fun _ => False) _ _) (fun _ _ h => h)
  have hb0 : Below w.heap.size w ((w.alloc (.cells #[.pointer (some ⟨p, 0, none⟩)] 69)).alloc (.cells #[.int .i64 s.1, .int .i64 s.2] 72)) := hst0.below (Nat.le_refl _) (fun _ _ h => h)
  have hm := matches_any p b fa sa fc sc fset sset r s _ (h.later hb0) (hk.steps hst0 (fun h => h)) hok hsh
  go_enter Try.func50, Try.ntmps50
  go_wp2_with (go_at_call 45; refine hm.mono ?_; rintro e w1 ⟨rfl, hs1, hk1⟩; unfold mtV)
  go_ret
  have hk0 := hk.lt
  have hc0 : w1.cell? ⟨w.heap.size, 0, none⟩ = some (.pointer (some ⟨p, 0, none⟩)) := by
    rw [World.cell?_of_block (hs1.block w.heap.size (by simp; omega) (by omega))]
    exact cell_later (below_alloc _ _) (cell_new _ _ _ _ _ rfl)
  have hz1 := hs1.size
  simp only [World.size_alloc] at hz1
  refine ⟨_, _, rfl, ⟨cell_later (below_alloc _ _) hc0, fun i hi => (cell_block (obj_new w1 _) i).trans (rowCells_get (b.row s) i hi)⟩, Nat.le_refl _, by omega, ?_, hk1.steps (Steps.alloc (fun _ => False) _ _) (fun h => h)⟩
  exact ((hst0.mono (own' := fun k => k = r) (fun _ _ h => h.elim)).trans hs1 (fun _ _ h => h)).trans (Steps.alloc (fun k => k = r) _ _) (fun _ _ h => h)

theorem bo_lens {b : Bo} (hok : b.ok = true) : b.fs.length ≤ 6 ∧ b.ss.length ≤ 6 := by
  simp only [Bo.ok, Bool.and_eq_true, decide_eq_true_eq] at hok; omega
theorem row_lt (b : Bo) (s : Int × Int) (i : Nat) : b.row s i < 2 ^ b.ss.length := maskOf_lt _ _

/-- The contract of the iterator, from what a border is in memory. -/
theorem joinings_iter {p B2 B5 B0 : Nat} {b : Bo} {fa sa : Option Addr} {fc sc fset sset r : Nat} {s : Int × Int} {W : World} (h : BrdAt W p b fa sa fc sc fset sset r) (hm : JoinMade p B2 B5 b s W) (hok : b.ok = true)
    (f6 : fset < 2 ^ 6) (s6 : sset < 2 ^ b.ss.length) (hB0 : B0 ≤ W.heap.size) :
    SeqOwn Try.prog 73 #[.pointer (some ⟨B2, 0, none⟩), .pointer (some ⟨B5, 0, none⟩)] (JoinEnc B0) (KeepCells (fun k => k = p ∨ k = B2 ∨ k = B5)) (bJoins b fset sset s) W :=
  joinings_seq W hm.c2 hm.c5 h.bo.c4 h.bo.c5 h.c6 h.c7 (bo_lens hok).1 (bo_lens hok).2 f6 s6 (row_lt b s) hB0

theorem joinEnc_wider {B0 : Nat} {own own' : Nat → Prop} {x : List Int} {vals : Array Value} {W : World} (hw : ∀ k, own' k → own k ∨ k < B0) (h : JoinEnc B0 own x vals W) : JoinEnc B0 own' x vals W := by
  obtain ⟨q, cap, h1, h2, h3, h4, h5⟩ := h
  exact ⟨q, cap, h1, h2, fun h => by rcases hw q h with h | h; exact h3 h; omega, h4, h5⟩

/-- A return with the mark of a loop among the deferred calls. -/
theorem marks_ret {P : Program} {fn : Func} {R : Ending → World → Prop} {tmps : Array Value} {W : World} {D : Nat} {v : Value} (hK : W.heap[D]? = some (.deferred (some [])))
    (hr : ∀ X, Steps (fun k => k = D) W X → X.heap.size = W.heap.size → (results fn tmps).run P X = .ok v X ∧ R (.returned v) X) : bodyPostM Fence.wide 0 P fn R .ret { tmps, defers := [{ target := .collected D, args := #[] }] } W := by
  obtain ⟨h1, h2⟩ := hr _ (Steps.putObj (own := fun k => k = D) W rfl (.deferred none)) (by simp)
  exact ⟨by simp, .inl ⟨_, _, rfl, run_takeDeferred hK, ⟨_, h1, h2⟩⟩⟩
theorem marks_end {P : Program} {fn : Func} {R : Ending → World → Prop} {tmps : Array Value} {W : World} {D : Nat} {v : Value} (hK : W.heap[D]? = some (.deferred (some [])))
    (hr : ∀ X, Steps (fun k => k = D) W X → X.heap.size = W.heap.size → (results fn tmps).run P X = .ok v X ∧ R (.returned v) X) : bodyPostM Fence.wide 0 P fn R .normal { tmps, defers := [{ target := .collected D, args := #[] }] } W := marks_ret hK hr

def JoinsPost (b : Bo) (fset sset : Nat) (s : Int × Int) (r : Nat) (w : World) (e : Ending) (w' : World) : Prop := e = .returned (.bool (!(bJoins b fset sset s).isEmpty)) ∧ Steps (fun k => k = r) w w' ∧ KnownOk w' r b

theorem joins_any (p : Nat) (b : Bo) (fa sa : Option Addr) (fc sc fset sset r : Nat) (s : Int × Int) (w : World) (h : BrdAt w p b fa sa fc sc fset sset r)
    (hk : KnownOk w r b) (hok : b.ok = true) (hsh : b.shift s = true) (f6 : fset < 2 ^ 6) (s6 : sset < 2 ^ b.ss.length) :
    Calls Try.prog 78 #[.pointer (some ⟨p, 0, none⟩), .agg #[.int .i64 s.1, .int .i64 s.2]] w (JoinsPost b fset sset s r w) := by
  have hst0 : Steps (fun _ => False) w ((w.alloc (.cells #[.int .i64 s.1, .int .i64 s.2] 72)).alloc (.cells #[.bool false] 4)) :=
    (Steps.alloc _ w _).trans (Steps.alloc (fun _ => False) _ _) (fun _ _ h => h)
  have hb0 : Below w.heap.size w ((w.alloc (.cells #[.int .i64 s.1, .int .i64 s.2] 72)).alloc (.cells #[.bool false] 4)) := hst0.below (Nat.le_refl _) (fun _ _ h => h)
  have hBx : Boxed ((w.alloc (.cells #[.int .i64 s.1, .int .i64 s.2] 72)).alloc (.cells #[.bool false] 4)) (w.heap.size + 1) 4 (.bool false) := by
    have := Boxed.new (w.alloc (.cells #[.int .i64 s.1, .int .i64 s.2] 72)) 4 (.bool false)
    rwa [World.size_alloc] at this
  have hm := joinings_made p b fa sa fc sc fset sset r s _ (h.later hb0) (hk.steps hst0 (fun h => h)) hok hsh
  have hk0 := hk.lt
  refine (callsIn_wide (n := 0)).1 ?_
  refine callsIn_of_wp_marks Try.func78 rfl trivial ?_ rfl
  simp only [Try.ntmps78, List.size_toArray, List.length_cons, List.length_nil, Nat.reduceAdd, Nat.reduceSub, Array.replicate_succ, Array.replicate_zero, List.push_toArray, List.append_toArray, List.nil_append, List.cons_append]
  gi_wp2_with (refine ⟨trivial, rfl, ?_⟩; gi_at_call 50; refine (callsIn_wide.2 hm).mono ?_; rintro e W0 ⟨B2, B5, rfl, hjm, hB2, hB5, hs1, hk1⟩)
  have hz0 : w.heap.size + 2 ≤ W0.heap.size := by have := hs1.size; simp only [World.size_alloc] at this; exact this
  have hB0 : BrdAt W0 p b fa sa fc sc fset sset r := (h.later hb0).steps hs1 (hk.steps hst0 (fun h => h))
  have hX0 : Boxed W0 (w.heap.size + 1) 4 (.bool false) := hs1.obj (by omega) hBx
  have hsw0 : Steps (fun k => k = r) w W0 := (hst0.mono (own' := fun k => k = r) (fun _ _ h => h.elim)).trans hs1 (fun _ _ h => h)
  have hpr : p < w.heap.size := World.block_lt_of_cell? w _ h.c6
  refine wpIn_range_own (α := List Int) (gf := 73) (lb := #[.pointer (some ⟨B2, 0, none⟩), .pointer (some ⟨B5, 0, none⟩)]) (L := bJoins b fset sset s) (Enc := JoinEnc (W0.heap.size + 2)) (Kp := KeepCells (fun k => k = p ∨ k = B2 ∨ k = B5))
    rfl (enters_of Try.func73 (by kernel_rfl) rfl) ?seq KeepCells.trans ?kb ?ps
    (fun own pre W => pre = [] ∧ (∀ k, own k → W0.heap.size ≤ k) ∧ Steps (fun k => W0.heap.size ≤ k) W0 W)
    (fun c own pre W => c = .ret ∧ pre ≠ [] ∧ (∀ k, own k → W0.heap.size ≤ k) ∧ Boxed W (w.heap.size + 1) 4 (.bool true) ∧ Steps (fun k => k = w.heap.size + 1 ∨ W0.heap.size ≤ k) W0 W)
    ?bi ?bix ⟨rfl, fun _ h => h.elim, Steps.refl _ _⟩ ?enc ?round ?done ?stop
  case seq =>
    intro W1 hs hz
    exact joinings_iter (hB0.later (hs.below (Nat.le_refl _) (fun _ _ h => h))) (hjm.keep (KeepCells.of_steps hs (fun _ _ h => h))) hok f6 s6 (by omega)
  case kb =>
    intro A C hA hs
    exact KeepCells.of_steps hs (fun k hk h => by
      have h1 := World.block_lt_of_cell? W0 _ hB0.c6
      have h2 := World.block_lt_of_cell? W0 _ hjm.c2
      have h3 := World.block_lt_of_cell? W0 _ (hjm.c5 0 (by omega))
      dsimp only at h1 h2 h3
      omega)
  case ps => rintro own x vals W ⟨q, cap, rfl, _⟩; rfl
  case bi =>
    rintro own own' x A C ⟨h1, h2, h3⟩ hs ho
    exact ⟨h1, fun k hk => by rcases ho k hk with h | h; exact h2 k h; have := h3.size; omega, h3.trans hs (fun k _ hk => h2 k hk)⟩
  case bix =>
    rintro c own own' x A C ⟨h1, h2, h3, h4, h5⟩ hs ho
    exact ⟨h1, h2, fun k hk => by rcases ho k hk with h | h; exact h3 k h; have := h5.size; omega, hs.obj (fun h => by have := h3 _ h; omega) h4, h5.trans hs (fun k _ hk => .inr (h3 k hk))⟩
  case enc => exact fun own own' x vals W hw h => joinEnc_wider (fun k hk => by rcases hw k hk with h | h | h; exact .inl h; exact .inr (by omega); exact .inr (by omega)) h
  case round =>
    rintro l own pre x vals W hl hol hrec hpost ⟨rfl, hown, hsW⟩ hen
    obtain ⟨q, cap, rfl, _⟩ := hen
    gi_wp2
    refine ⟨fun _ _ => trivial, Nat.le_refl _, fun W2 h2 hz2 hl2 => ?_⟩
    have hX2 : Boxed W2 (w.heap.size + 1) 4 (.bool false) := h2.obj (by omega) (hsW.obj (by omega) hX0)
    have hXc := hX2.cell
    have hXf := hX2.frozen
    gi_wp2
    have hst := Steps.setCell (own := fun k => k = w.heap.size + 1) W2 (p := ⟨w.heap.size + 1, 0, none⟩) rfl (.bool true)
    have hbr : w.heap.size + 1 < W0.heap.size := by omega
    have hsz := h2.size
    have hzW := hsW.size
    refine ⟨fun k hk => ?_, hst.size, ?_, rfl, by simp, hown, hX2.set _, (hsW.mono (fun _ _ h => .inr h)).trans ((h2.mono (own' := fun k => k = l ∨ k = w.heap.size + 1) (fun _ _ h => .inl h)).trans hst (fun _ _ h => .inr h)) (fun k _ h => by omega)⟩
    · exact Below.heap_setCell _ _ _ _ (by have := hown k hk; show ¬ k = w.heap.size + 1; omega)
    · exact KeepCells.of_steps ((h2.mono (own' := fun k => k = l ∨ k = w.heap.size + 1) (fun _ _ h => .inl h)).trans hst (fun _ _ h => .inr h)) (fun k hk h => by
        have h1 := World.block_lt_of_cell? W0 _ hB0.c6
        have h2 := World.block_lt_of_cell? W0 _ hjm.c2
        have h3 := World.block_lt_of_cell? W0 _ (hjm.c5 0 (by omega))
        dsimp only at h1 h2 h3
        have hne : B2 ≠ w.heap.size + 1 ∧ B5 ≠ w.heap.size + 1 := by
          simp only [World.size_alloc] at hB2 hB5
          omega
        omega)
  case done =>
    rintro D own W hD hoD ⟨he, hown, hsW⟩ hK
    have hX2 : Boxed W (w.heap.size + 1) 4 (.bool false) := hsW.obj (by omega) hX0
    have hXc := hX2.cell
    have hXf := hX2.frozen
    gi_wp2
    have hst := Steps.setCell (own := fun k => k = w.heap.size + 1) W (p := ⟨w.heap.size + 1, 0, none⟩) rfl (.bool false)
    have hXs := hX2.set (.bool false)
    have hDs : (W.setCell ⟨w.heap.size + 1, 0, none⟩ (.bool false)).heap[D]? = some (.deferred (some [])) := hst.obj (by omega) hK
    have hsz := hsW.size
    refine marks_ret (v := .bool false) hDs (fun X hX _ => ?_)
    have hXc := (Boxed.cell (show Boxed X _ _ _ from hX.obj (by omega) hXs))
    have hall : Steps (fun k => k = w.heap.size + 1 ∨ W0.heap.size ≤ k) W0 X :=
      (hsW.mono (fun _ _ h => .inr h)).trans ((hst.mono (own' := fun k => k = D ∨ k = w.heap.size + 1) (fun _ _ h => .inr h)).trans hX (fun _ _ h => .inl h)) (fun k _ h => by omega)
    refine ⟨by simp [results, Try.results78, go_sem, hXc], by rw [he]; rfl, hsw0.trans hall (fun k hk h => by omega), hk1.steps hall (by omega)⟩
  case stop =>
    rintro D c own pre W hD hoD hpre ⟨rfl, hne, hown, hX2, hsW⟩ hK
    gi_wp2
    refine marks_ret (v := .bool true) hK (fun X hX _ => ?_)
    have hXc := (Boxed.cell (show Boxed X _ _ _ from hX.obj (by omega) hX2))
    have hall : Steps (fun k => k = w.heap.size + 1 ∨ W0.heap.size ≤ k) W0 X := hsW.trans hX (fun k _ h => by omega)
    have hne' : bJoins b fset sset s ≠ [] := fun e => by rw [e] at hpre; exact hne (List.prefix_nil.1 hpre)
    refine ⟨by simp [results, Try.results78, go_sem, hXc], by cases hj : bJoins b fset sset s with | nil => exact absurd hj hne' | cons _ _ => rfl, hsw0.trans hall (fun k hk h => by omega), hk1.steps hall (by omega)⟩
end Go.Proofs.Ytjkegmjjhdmkiaa
namespace Go.Proofs.Ytjkegmjjhdmkiaa
open Go.RowKit Go.Shelf
attribute [local go_sem] Oper.semAt_some
set_option maxHeartbeats 1600000
set_option maxRecDepth 100000
set_option linter.unusedSimpArgs false

theorem shifts_mem {b : Bo} {x : Int × Int} (h : x ∈ shiftsOf b) : b.shift x = true := by
  unfold shiftsOf shiftsTo at h
  rw [List.mem_flatMap] at h
  obtain ⟨i, hi, h⟩ := h
  unfold shiftRow at h
  rw [List.mem_map] at h
  obtain ⟨j, hj, rfl⟩ := h
  rw [List.mem_range] at hi hj
  unfold eastN at hi
  unfold northN at hj
  simp only [Bo.shift, Sp.has, Bool.and_eq_true, decide_eq_true_eq]
  omega

theorem alloc_get (w : World) (o : Obj) (k : Nat) : (w.alloc o).heap[k]? = if k = w.heap.size then some o else w.heap[k]? := by
  show (w.heap.push o)[k]? = _
  rw [Array.getElem?_push]

theorem brd_ne {w : World} {p r : Nat} {b : Bo} {fa sa : Option Addr} {fc sc fset sset : Nat} (h : BrdAt w p b fa sa fc sc fset sset r) (hk : KnownOk w r b) : p ≠ r := by
  obtain ⟨es, clk, h1, _⟩ := hk
  have h2 := h.c6
  intro e
  unfold World.cell? at h2
  rw [e, h1] at h2
  simp at h2

def bCan (b : Bo) (f s : Nat) : Bool := (shiftsOf b).any fun x => !(bJoins b f s x).isEmpty

def CanPost (b : Bo) (f s r : Nat) (w : World) (e : Ending) (w' : World) : Prop := e = .returned (.bool (bCan b f s)) ∧ Steps (fun k => k = r) w w' ∧ KnownOk w' r b

theorem can_any (p : Nat) (b : Bo) (fa sa : Option Addr) (fc sc fset sset r f s : Nat) (w : World) (h : BrdAt w p b fa sa fc sc fset sset r)
    (hk : KnownOk w r b) (hok : b.ok = true) (f6 : f < 2 ^ 6) (s6 : s < 2 ^ b.ss.length) :
    Calls Try.prog 57 #[.pointer (some ⟨p, 0, none⟩), .int .u64 f, .int .u64 s] w (CanPost b f s r w) := by
  have hk0 := hk.lt
  have hpne := brd_ne h hk
  obtain ⟨⟨c0, c1, c2, c3, c4, c5⟩, c6, c7, c8, hf, hs⟩ := h.later (below_alloc w (.cells #[.bool false] 4))
  refine (callsIn_wide (n := 0)).1 ?_
  refine callsIn_of_wp_marks Try.func57 rfl trivial ?_ rfl
  simp only [Try.ntmps57, List.size_toArray, List.length_cons, List.length_nil, Nat.reduceAdd, Nat.reduceSub, Array.replicate_succ, Array.replicate_zero, List.push_toArray, List.append_toArray, List.nil_append, List.cons_append]
  gi_wp2_with (refine ⟨trivial, rfl, ?_⟩; gi_at_call 77; refine (callsIn_wide.2 (shifts_made p _)).mono ?_; rintro e W0 ⟨rfl, rfl⟩)
  obtain ⟨W0, hW0⟩ : ∃ W0, (((w.alloc (.cells #[.bool false] 4)).alloc (.cells #[.int .i64 b.e.lo, .int .i64 b.e.hi, .int .i64 b.n.lo, .int .i64 b.n.hi, .slice fa b.fs.length fc, .slice sa b.ss.length sc, .int .u64 f, .int .u64 s, .map (some r)] 113)).alloc
    (.cells #[.func (.func 78) #[.pointer (some ⟨w.heap.size + 1, 0, none⟩)] #[]] 75)).alloc (.cells #[.pointer (some ⟨p, 0, none⟩)] 69) = W0 := ⟨_, rfl⟩
  rw [hW0]
  have hst0 : Steps (fun _ => False) w W0 := by
    rw [← hW0]
    exact (((Steps.alloc _ w _).trans (Steps.alloc (fun _ => False) _ _) (fun _ _ h => h)).trans (Steps.alloc (fun _ => False) _ _) (fun _ _ h => h)).trans (Steps.alloc (fun _ => False) _ _) (fun _ _ h => h)
  have hz0 : W0.heap.size = w.heap.size + 4 := by rw [← hW0]; simp
  have g0 : Boxed W0 w.heap.size 4 (.bool false) := by unfold Boxed; rw [← hW0]; simp only [alloc_get, World.size_alloc]; repeat (first | exact if_pos trivial | exact if_pos (by omega) | rw [if_neg (by omega)])
  have g1 : W0.heap[w.heap.size + 1]? = some (.cells #[.int .i64 b.e.lo, .int .i64 b.e.hi, .int .i64 b.n.lo, .int .i64 b.n.hi, .slice fa b.fs.length fc, .slice sa b.ss.length sc, .int .u64 f, .int .u64 s, .map (some r)] 113) := by rw [← hW0]; simp only [alloc_get, World.size_alloc]; repeat (first | exact if_pos trivial | exact if_pos (by omega) | rw [if_neg (by omega)])
  have g2 : Boxed W0 (w.heap.size + 2) 75 (.func (.func 78) #[.pointer (some ⟨w.heap.size + 1, 0, none⟩)] #[]) := by unfold Boxed; rw [← hW0]; simp only [alloc_get, World.size_alloc]; repeat (first | exact if_pos trivial | exact if_pos (by omega) | rw [if_neg (by omega)])
  have g3 : Boxed W0 (w.heap.size + 3) 69 (.pointer (some ⟨p, 0, none⟩)) := by unfold Boxed; rw [← hW0]; simp only [alloc_get, World.size_alloc]; repeat (first | exact if_pos trivial | exact if_pos (by omega) | rw [if_neg (by omega)])
  clear hW0
  have hbp : BrdAt W0 p b fa sa fc sc fset sset r := h.later (hst0.below (Nat.le_refl _) (fun _ _ h => h))
  have hbo : BrdAt W0 (w.heap.size + 1) b fa sa fc sc f s r := ⟨⟨cell_block g1 0, cell_block g1 1, cell_block g1 2, cell_block g1 3, cell_block g1 4, cell_block g1 5⟩, cell_block g1 6, cell_block g1 7, cell_block g1 8, hbp.f, hbp.s⟩
  have hkn : KnownOk W0 r b := hk.steps hst0 (fun h => h)
  have hpr : p < w.heap.size := World.block_lt_of_cell? w _ h.c6
  clear g1 c0 c1 c2 c3 c4 c5 c6 c7 c8 hf hs
  refine wpIn_range_own (α := Int × Int) (gf := 85) (lb := #[.pointer (some ⟨w.heap.size + 3, 0, none⟩)]) (L := shiftsOf b) (Enc := fun _ x vals _ => vals = #[shV x]) (Kp := ShKeep p (w.heap.size + 3))
    rfl (enters_of Try.func85 (by kernel_rfl) rfl) ?seq KeepCells.trans ?kb ?ps
    (fun own pre W => (∀ x ∈ pre, (bJoins b f s x).isEmpty = true) ∧ (∀ k, own k → W0.heap.size ≤ k ∧ k < W.heap.size) ∧ Steps (fun k => k = r ∨ W0.heap.size ≤ k) W0 W ∧ KnownOk W r b)
    (fun c own pre W => c = .ret ∧ (∃ x ∈ pre, (bJoins b f s x).isEmpty = false) ∧ (∀ k, own k → W0.heap.size ≤ k) ∧ Boxed W w.heap.size 4 (.bool true) ∧ Steps (fun k => k = r ∨ k = w.heap.size ∨ W0.heap.size ≤ k) W0 W ∧ KnownOk W r b)
    ?bi ?bix ⟨(fun _ h => by cases h), fun _ h => h.elim, Steps.refl _ _, hkn⟩ (fun _ _ _ _ _ _ h => h) ?round ?done ?stop
  case seq =>
    intro W1 hs hz
    exact shifts_seq p (w.heap.size + 3) b fa sa fc sc W1 hok (hbp.later (hs.below (Nat.le_refl _) (fun _ _ h => h))).bo (KeepCells.of_steps (bs := fun _ => True) hs (fun _ _ h => h) _ _ trivial g3.cell)
  case kb =>
    intro A C hA hs
    exact KeepCells.of_steps hs (fun k hk h => by omega)
  case ps => rintro own x vals W rfl; rfl
  case bi =>
    rintro own own' x A C ⟨h1, h2, h3, h4⟩ hs ho
    exact ⟨h1, fun k hk => by rcases ho k hk with h | h; have := h2 k h; have := hs.size; omega; have := h3.size; omega, h3.trans hs (fun k _ hk => .inr (h2 k hk).1), h4.steps hs (fun h => by have := h2 _ h; omega)⟩
  case bix =>
    rintro c own own' x A C ⟨h1, h2, h3, h4, h5, h6⟩ hs ho
    exact ⟨h1, h2, fun k hk => by rcases ho k hk with h | h; exact h3 k h; have := h5.size; omega, hs.obj (fun h => by have := h3 _ h; omega) h4, h5.trans hs (fun k _ hk => .inr (.inr (h3 k hk))), h6.steps hs (fun h => by have := h3 _ h; omega)⟩
  case round =>
    rintro l own pre x vals W hl hol hrec hpost ⟨hpre, hown, hsW, hkW⟩ rfl
    unfold shV
    gi_wp2
    have hx := shifts_mem (b := b) (x := x) (by obtain ⟨post, hp⟩ := hpost; rw [hp]; simp)
    have hzW := hsW.size
    have hrl := hkW.lt
    refine ⟨fun k hk => Below.heap_alloc _ _ _ (hown k hk).2, by simp, fun W2 h2 hz2 hl2 => ?_⟩
    have hal := (Steps.alloc (fun k => k = l) W (.cells #[.int .i64 x.1, .int .i64 x.2] 72)).trans h2 (fun _ _ h => h)
    have e0 : W2.cell? ⟨W.heap.size, 0, none⟩ = some (.int .i64 x.1) := by
      rw [World.cell?_of_block (h2.block W.heap.size (by simp) (by have := (Array.getElem?_eq_some_iff.1 hrec.choose_spec).1; omega))]; exact cell_new _ _ _ _ _ rfl
    have e1 : W2.cell? ⟨W.heap.size, 1, none⟩ = some (.int .i64 x.2) := by
      rw [World.cell?_of_block (h2.block W.heap.size (by simp) (by have := (Array.getElem?_eq_some_iff.1 hrec.choose_spec).1; omega))]; exact cell_new _ _ _ _ _ rfl
    have hsW2 : Steps (fun k => k = r ∨ W0.heap.size ≤ k) W0 W2 := hsW.trans hal (fun k _ h => .inr (by omega))
    have hm2 : Steps (fun k => k = r) W0 W2 := hsW2.mono (fun k hk h => by omega)
    have i2' : Boxed W2 (w.heap.size + 2) 75 (.func (.func 78) #[.pointer (some ⟨w.heap.size + 1, 0, none⟩)] #[]) := hm2.obj (by omega) g2
    have i2 := i2'.cell
    have hj := joins_any (w.heap.size + 1) b fa sa fc sc f s r x W2 (hbo.steps hm2 hkn) (hkW.steps hal (by omega)) hok hx f6 s6
    have g2' : Boxed W2 w.heap.size 4 (.bool false) := hm2.obj (by omega) g0
    gi_wp2_with (refine ⟨trivial, rfl, ?_⟩; gi_at_call 78; refine (CallsIn.inRound l (callsIn_wide.2 hj)).mono ?_; rintro e W3 ⟨rfl, hs3, hk3⟩; have g3' : Boxed W3 w.heap.size 4 (.bool false) := hs3.obj (by omega) g2'; have gc := g3'.cell; have gf := g3'.frozen)
    all_goals
      have hs3s := hs3.size
      have h2s := hal.size
      have hkeep : ∀ k, own k → W3.heap[k]? = W2.heap[k]? := fun k hk => hs3.block k (by have := (hown k hk).2; omega) (by have := (hown k hk).1; omega)
      have hall : Steps (fun k => k = r ∨ W0.heap.size ≤ k) W0 W3 := hsW2.trans hs3 (fun k _ h => .inl h)
      have hq : Steps (fun k => k = r ∨ k = l) W W3 := (hal.mono (fun _ _ h => .inr h)).trans hs3 (fun _ _ h => .inl h)
    · rename_i hb
      have hst := Steps.setCell (own := fun k => k = w.heap.size) W3 (p := ⟨w.heap.size, 0, none⟩) rfl (.bool true)
      refine ⟨fun k hk => (Below.heap_setCell _ _ _ _ (by have := (hown k hk).1; show ¬ k = w.heap.size; omega)).trans (hkeep k hk), Nat.le_trans hs3s hst.size, ?_, rfl, ⟨x, by simp, by simpa using hb⟩, fun k hk => (hown k hk).1, g3'.set _,
        (hall.mono (own' := fun k => k = r ∨ k = w.heap.size ∨ W0.heap.size ≤ k) (fun _ _ h => by omega)).trans hst (fun k _ h => .inr (.inl h)), hk3.steps hst (by omega)⟩
      exact (KeepCells.of_steps hq (fun k (hk : k = p ∨ k = w.heap.size + 3) h => by omega)).trans (KeepCells.of_steps hst (fun k (hk : k = p ∨ k = w.heap.size + 3) h => by omega))
    · rename_i hb
      refine ⟨hkeep, hs3s, KeepCells.of_steps hq (fun k (hk : k = p ∨ k = w.heap.size + 3) h => by omega), ?_, fun k hk => ⟨(hown k hk).1, by have := (hown k hk).2; omega⟩, hall, hk3⟩
      intro y hy
      rcases List.mem_append.1 hy with h | h
      · exact hpre y h
      · rw [List.mem_singleton] at h
        subst h
        simpa using hb
  case done =>
    rintro D own W hD hoD ⟨hpre, hown, hsW, hkW⟩ hK
    have hX2 : Boxed W w.heap.size 4 (.bool false) := hsW.obj (by omega) g0
    have hXc := hX2.cell
    have hXf := hX2.frozen
    gi_wp2
    have hst := Steps.setCell (own := fun k => k = w.heap.size) W (p := ⟨w.heap.size, 0, none⟩) rfl (.bool false)
    have hXs := hX2.set (.bool false)
    have hDs : (W.setCell ⟨w.heap.size, 0, none⟩ (.bool false)).heap[D]? = some (.deferred (some [])) := hst.obj (by omega) hK
    have hsz := hsW.size
    refine marks_ret (v := .bool false) hDs (fun X hX _ => ?_)
    have hXc := (Boxed.cell (show Boxed X _ _ _ from hX.obj (by omega) hXs))
    have hall : Steps (fun k => k = r ∨ k = w.heap.size ∨ W0.heap.size ≤ k) W0 X :=
      (hsW.mono (own' := fun k => k = r ∨ k = w.heap.size ∨ W0.heap.size ≤ k) (fun _ _ h => by omega)).trans ((hst.mono (own' := fun k => k = D ∨ k = w.heap.size) (fun _ _ h => .inr h)).trans hX (fun _ _ h => .inl h)) (fun k _ h => by omega)
    refine ⟨by simp [results, Try.results57, go_sem, hXc], ?_, hst0.mono (own' := fun k => k = r) (fun _ _ h => h.elim) |>.trans hall (fun k hk h => by omega), (hkW.steps hst (by omega)).steps hX (by omega)⟩
    have : bCan b f s = false := by
      unfold bCan
      rw [List.any_eq_false]
      intro x hx
      simp [hpre x hx]
    rw [this]
  case stop =>
    rintro D c own pre W hD hoD hpre ⟨rfl, hne, hown, hX2, hsW, hkW⟩ hK
    gi_wp2
    refine marks_ret (v := .bool true) hK (fun X hX _ => ?_)
    have hXc := (Boxed.cell (show Boxed X _ _ _ from hX.obj (by omega) hX2))
    have hall : Steps (fun k => k = r ∨ k = w.heap.size ∨ W0.heap.size ≤ k) W0 X := hsW.trans hX (fun k _ h => by omega)
    refine ⟨by simp [results, Try.results57, go_sem, hXc], ?_, hst0.mono (own' := fun k => k = r) (fun _ _ h => h.elim) |>.trans hall (fun k hk h => by omega), hkW.steps hX (by omega)⟩
    have : bCan b f s = true := by
      unfold bCan
      rw [List.any_eq_true]
      obtain ⟨x, hx, h⟩ := hne
      exact ⟨x, hpre.subset hx, by simp [h]⟩
    rw [this]
end Go.Proofs.Ytjkegmjjhdmkiaa
namespace Go.Proofs.Ytjkegmjjhdmkiaa
open Go.RowKit Go.Shelf
attribute [local go_sem] Oper.semAt_some
set_option maxHeartbeats 1600000
set_option maxRecDepth 100000
set_option linter.unusedSimpArgs false

theorem marks_panic {P : Program} {fn : Func} {R : Ending → World → Prop} {tmps : Array Value} {W : World} {D : Nat} {c : List PanicEntry} (hK : W.heap[D]? = some (.deferred (some [])))
    (hr : ∀ X, Steps (fun k => k = D) W X → X.heap.size = W.heap.size → R (.panicked c) X) : bodyPostM Fence.wide 0 P fn R (.panic c) { tmps, defers := [{ target := .collected D, args := #[] }] } W := by
  have h1 := hr _ (Steps.putObj (own := fun k => k = D) W rfl (.deferred none)) (by simp)
  exact ⟨by simp, .inl ⟨_, _, rfl, run_takeDeferred hK, h1⟩⟩

abbrev Joined := (Int × Int) × List Int
def withShift (s : Int × Int) (l : List (List Int)) : List Joined := l.map fun x => (s, x)
def joinedOf (b : Bo) (f s : Nat) (l : List (Int × Int)) : List Joined := l.flatMap fun x => withShift x (bJoins b f s x)
/-- All joinings with all shifts. -/
def allOf (b : Bo) (f s : Nat) : List Joined := joinedOf b f s (shiftsOf b)

/-- The contract of something that gathers. -/
structure Adder (F g r : Nat) (b : Bo) (f s N : Nat) (A : (Nat → Prop) → List Joined → World → Prop) : Prop where
  bides : Bides A
  known : ∀ own s U C, A own s U → Steps (fun k => k = r) U C → A own s C
  add : ∀ own pre z x q cap W, A own pre W → z ∈ shiftsOf b → x ∈ bJoins b f s z → N ≤ q → ¬ own q → q ≠ g → q ≠ r → q < W.heap.size → IntsAt W q x → (∀ k, own k → k < W.heap.size) →
    Calls Try.prog F #[.pointer (some ⟨g, 0, none⟩), shV z, .slice (some ⟨q, 0, none⟩) x.length cap] W fun e W' => e = .returned (.tuple #[]) ∧ Steps (fun k => k = g) W W' ∧ A own (pre ++ [(z, x)]) W'

def GatherPost (b : Bo) (f s r g : Nat) (A : (Nat → Prop) → List Joined → World → Prop) (w : World) (e : Ending) (w' : World) : Prop :=
  Steps (fun k => k = r ∨ k = g) w w' ∧ KnownOk w' r b ∧ ((allOf b f s ≠ [] ∧ e = .returned (.tuple #[]) ∧ A (fun _ => False) (allOf b f s) w') ∨ (allOf b f s = [] ∧ e = .panicked (failed 4)))

theorem joinedOf_snoc (b : Bo) (f s : Nat) (l : List (Int × Int)) (x : Int × Int) : joinedOf b f s (l ++ [x]) = joinedOf b f s l ++ withShift x (bJoins b f s x) := by simp [joinedOf]
theorem withShift_snoc (s : Int × Int) (l : List (List Int)) (x : List Int) : withShift s (l ++ [x]) = withShift s l ++ [(s, x)] := by simp [withShift]

/-- What holds between two rounds of the outer loop. -/
structure GaI (b : Bo) (f s r g bF : Nat) (A : (Nat → Prop) → List Joined → World → Prop) (W0 : World) (own : Nat → Prop) (pre : List (Int × Int)) (W : World) : Prop where
  a : A (fun k => k = bF ∨ own k) (joinedOf b f s pre) W
  o : ∀ k, own k → W0.heap.size ≤ k ∧ k < W.heap.size
  st : Steps (fun k => k = r ∨ k = g ∨ k = bF ∨ W0.heap.size ≤ k) W0 W
  k : KnownOk W r b
  fd : Boxed W bF 4 (.bool (!(joinedOf b f s pre).isEmpty))

theorem GaI.bides {b : Bo} {f s r g bF : Nat} {A : (Nat → Prop) → List Joined → World → Prop} {W0 : World} (hA : Bides A) (hr : r < W0.heap.size) (hF : bF < W0.heap.size) : Bides (GaI b f s r g bF A W0) := by
  rintro own own' x U C ⟨h1, h2, h3, h4, h5⟩ hs ho
  refine ⟨hA _ _ _ _ _ h1 (hs.mono (fun _ _ h => .inr h)) (fun k hk => by rcases hk with h | h; exact .inl (.inl h); rcases ho k h with h | h; exact .inl (.inr h); exact .inr h), fun k hk => ?_, h3.trans hs (fun k _ hk => .inr (.inr (.inr (h2 k hk).1))), h4.steps hs (fun h => by have := h2 _ h; omega), hs.obj (fun h => by have := h2 _ h; omega) h5⟩
  have := hs.size
  have := h3.size
  rcases ho k hk with h | h
  · have := h2 k h; omega
  · omega

/-- What holds between two rounds of the inner loop, begun in Wi: own0 is others' all the while. -/
structure GaN (b : Bo) (f s g bF : Nat) (A : (Nat → Prop) → List Joined → World → Prop) (Wi : World) (own0 : Nat → Prop) (out : List Joined) (x : Int × Int) (own : Nat → Prop) (pre : List (List Int)) (W : World) : Prop where
  a : A (fun k => own0 k ∨ own k) (out ++ withShift x pre) W
  o : ∀ k, own k → Wi.heap.size ≤ k ∧ k < W.heap.size
  st : Steps (fun k => k = g ∨ k = bF ∨ Wi.heap.size ≤ k) Wi W
  fd : Boxed W bF 4 (.bool (!(out ++ withShift x pre).isEmpty))

theorem GaN.bides {b : Bo} {f s g bF : Nat} {A : (Nat → Prop) → List Joined → World → Prop} {Wi : World} {own0 : Nat → Prop} {out : List Joined} {x : Int × Int} (hA : Bides A) (hF : bF < Wi.heap.size) : Bides (GaN b f s g bF A Wi own0 out x) := by
  rintro own own' y U C ⟨h1, h2, h3, h4⟩ hs ho
  refine ⟨hA _ _ _ _ _ h1 (hs.mono (fun _ _ h => .inr h)) (fun k hk => ?_), fun k hk => ?_, h3.trans hs (fun k _ hk => .inr (.inr (h2 k hk).1)), hs.obj (fun h => by have := h2 _ h; omega) h4⟩
  · rcases hk with h | h
    · exact .inl (.inl h)
    · rcases ho k h with h | h
      · exact .inl (.inr h)
      · exact .inr h
  · have := hs.size
    have := h3.size
    rcases ho k hk with h | h
    · have := h2 k h; omega
    · omega

/-- What a border's slices lie in: an older world. -/
structure Old (w00 w : World) (b : Bo) (fa sa : Option Addr) (g r : Nat) : Prop where
  f : EdSl w00 fa b.fs
  s : EdSl w00 sa b.ss
  below : Below w00.heap.size w00 w
  g : w00.heap.size ≤ g
  r : w00.heap.size ≤ r

theorem Old.brd {w00 w A C : World} {b : Bo} {fa sa : Option Addr} {g r p fc sc fset sset : Nat} (h : Old w00 w b fa sa g r) (hb : BrdAt A p b fa sa fc sc fset sset r) {own : Nat → Prop} (hs0 : Steps (fun _ => False) w A) (hs : Steps own A C)
    (ho : ∀ k, own k → w00.heap.size ≤ k) (hp : ¬ own p) : BrdAt C p b fa sa fc sc fset sset r := by
  have hk : KeepCells (fun k => k = p) A C := KeepCells.of_steps hs (fun k hk h => hp (hk ▸ h))
  have hbl : Below w00.heap.size w00 C := h.below.trans ((hs0.below h.below.size (fun _ _ h => h)).trans (hs.below (Nat.le_trans h.below.size hs0.size) (fun k hk hok => by have := ho k hok; omega)))
  exact ⟨⟨hk _ _ rfl hb.bo.c0, hk _ _ rfl hb.bo.c1, hk _ _ rfl hb.bo.c2, hk _ _ rfl hb.bo.c3, hk _ _ rfl hb.bo.c4, hk _ _ rfl hb.bo.c5⟩, hk _ _ rfl hb.c6, hk _ _ rfl hb.c7, hk _ _ rfl hb.c8, h.f.below hbl (Nat.le_refl _), h.s.below hbl (Nat.le_refl _)⟩

theorem gather_any (w00 : World) (T F g p : Nat) (b : Bo) (fa sa : Option Addr) (fc sc f s r : Nat) (A : (Nat → Prop) → List Joined → World → Prop) (w : World)
    (hTF : (T = 93 ∧ F = 110) ∨ (T = 101 ∧ F = 113) ∨ (T = 104 ∧ F = 114) ∨ (T = 109 ∧ F = 115))
    (h : BrdAt w p b fa sa fc sc f s r) (hk : KnownOk w r b) (hok : b.ok = true) (f6 : f < 2 ^ 6) (s6 : s < 2 ^ b.ss.length)
    (hA : Adder F g r b f s w.heap.size A) (h0 : A (fun _ => False) [] w) (hg : g < w.heap.size) (hgp : g ≠ p) (hgr : g ≠ r) (hold : Old w00 w b fa sa g r) :
    Calls Try.prog 52 #[.pointer (some ⟨p, 0, none⟩), .iface T (.pointer (some ⟨g, 0, none⟩))] w (GatherPost b f s r g A w) := by
  have hk0 := hk.lt
  have hpne := brd_ne h hk
  refine (callsIn_wide (n := 0)).1 ?_
  refine callsIn_of_wp_marks Try.func52 rfl trivial ?_ rfl
  simp only [Try.ntmps52, List.size_toArray, List.length_cons, List.length_nil, Nat.reduceAdd, Nat.reduceSub, Array.replicate_succ, Array.replicate_zero, List.push_toArray, List.append_toArray, List.nil_append, List.cons_append]
  gi_wp2_with (refine ⟨trivial, rfl, ?_⟩; gi_at_call 77; refine (callsIn_wide.2 (shifts_made p _)).mono ?_; rintro e W0 ⟨rfl, rfl⟩)
  obtain ⟨W0, hW0⟩ : ∃ W0, (((w.alloc (.cells #[.pointer (some ⟨p, 0, none⟩)] 69)).alloc (.cells #[.iface T (.pointer (some ⟨g, 0, none⟩))] 133)).alloc (.cells #[.bool false] 4)).alloc (.cells #[.pointer (some ⟨p, 0, none⟩)] 69) = W0 := ⟨_, rfl⟩
  rw [hW0]
  have hst0 : Steps (fun _ => False) w W0 := by
    rw [← hW0]
    exact (((Steps.alloc _ w _).trans (Steps.alloc (fun _ => False) _ _) (fun _ _ h => h)).trans (Steps.alloc (fun _ => False) _ _) (fun _ _ h => h)).trans (Steps.alloc (fun _ => False) _ _) (fun _ _ h => h)
  have hz0 : W0.heap.size = w.heap.size + 4 := by rw [← hW0]; simp
  have g0 : Boxed W0 w.heap.size 69 (.pointer (some ⟨p, 0, none⟩)) := by unfold Boxed; rw [← hW0]; simp only [alloc_get, World.size_alloc]; repeat (first | exact if_pos trivial | exact if_pos (by omega) | rw [if_neg (by omega)])
  have g1 : Boxed W0 (w.heap.size + 1) 133 (.iface T (.pointer (some ⟨g, 0, none⟩))) := by unfold Boxed; rw [← hW0]; simp only [alloc_get, World.size_alloc]; repeat (first | exact if_pos trivial | exact if_pos (by omega) | rw [if_neg (by omega)])
  have g2 : Boxed W0 (w.heap.size + 2) 4 (.bool false) := by unfold Boxed; rw [← hW0]; simp only [alloc_get, World.size_alloc]; repeat (first | exact if_pos trivial | exact if_pos (by omega) | rw [if_neg (by omega)])
  have g3 : Boxed W0 (w.heap.size + 3) 69 (.pointer (some ⟨p, 0, none⟩)) := by unfold Boxed; rw [← hW0]; simp only [alloc_get, World.size_alloc]; repeat (first | exact if_pos trivial | exact if_pos (by omega) | rw [if_neg (by omega)])
  clear hW0
  have hbp : BrdAt W0 p b fa sa fc sc f s r := h.later (hst0.below (Nat.le_refl _) (fun _ _ h => h))
  have hkn : KnownOk W0 r b := hk.steps hst0 (fun h => h)
  have hpr : p < w.heap.size := World.block_lt_of_cell? w _ h.c6
  refine wpIn_range_own (α := Int × Int) (gf := 85) (lb := #[.pointer (some ⟨w.heap.size + 3, 0, none⟩)]) (L := shiftsOf b) (Enc := fun _ x vals _ => vals = #[shV x]) (Kp := ShKeep p (w.heap.size + 3))
    rfl (enters_of Try.func85 (by kernel_rfl) rfl) ?seq KeepCells.trans ?kb ?ps
    (GaI b f s r g (w.heap.size + 2) A W0) (fun _ _ _ _ => False) (GaI.bides hA.bides (by omega) (by omega)) (fun c own own' x A C h _ _ => h)
    ⟨hA.bides _ _ _ _ _ h0 hst0 (fun k h => by rcases h with h | h; exact .inr (by omega); exact h.elim), fun k h => h.elim, Steps.refl _ _, hkn, g2⟩ (fun _ _ _ _ _ _ h => h) ?round ?done (fun _ _ _ _ _ _ _ _ h => h.elim)
  case seq =>
    intro W1 hs hz
    exact shifts_seq p (w.heap.size + 3) b fa sa fc sc W1 hok (hbp.later (hs.below (Nat.le_refl _) (fun _ _ h => h))).bo (KeepCells.of_steps (bs := fun _ => True) hs (fun _ _ h => h) _ _ trivial g3.cell)
  case kb =>
    intro A C hA hs
    exact KeepCells.of_steps hs (fun k hk h => by omega)
  case ps => rintro own x vals W rfl; rfl
  case done =>
    rintro D own W hD hoD ⟨ha, hown, hsW, hkW, hfd⟩ hK
    have hXc := hfd.cell
    have hsz := hsW.size
    have hrl := hkW.lt
    have hallS : Steps (fun k => k = r ∨ k = g) w W := (hst0.mono (own' := fun k => k = r ∨ k = g) (fun _ _ h => h.elim)).trans (hsW.mono (own' := fun k => k = r ∨ k = g ∨ w.heap.size ≤ k) (fun k _ h => by omega)) (fun k hk h => by omega)
    have hpost : ∀ X, Steps (fun k => k = D) W X → Steps (fun k => k = r ∨ k = g) w X ∧ KnownOk X r b ∧ A (fun _ => False) (joinedOf b f s (shiftsOf b)) X := fun X hX =>
      ⟨hallS.trans hX (fun k hk (h : k = D) => by omega), hkW.steps hX (fun (h : r = D) => by omega), hA.bides _ _ _ _ _ ha (hX.mono (fun k _ h => .inr (h ▸ hoD))) (fun k h => h.elim)⟩
    by_cases hne : joinedOf b f s (shiftsOf b) = []
    · have hb : (!(joinedOf b f s (shiftsOf b)).isEmpty) = false := by rw [hne]; rfl
      rw [hb] at hXc
      gi_wp2_with (refine ⟨trivial, rfl, ?_⟩; gi_at_call 42; refine (callsIn_wide.2 (must_no 4 _)).mono ?_; rintro e W2 ⟨rfl, rfl⟩)
      refine marks_panic hK (fun X hX _ => ?_)
      obtain ⟨q1, q2, q3⟩ := hpost X hX
      exact ⟨q1, q2, .inr ⟨hne, rfl⟩⟩
    · have hb : (!(joinedOf b f s (shiftsOf b)).isEmpty) = true := by
        cases hj : joinedOf b f s (shiftsOf b) with
        | nil => exact absurd hj hne
        | cons _ _ => rfl
      rw [hb] at hXc
      gi_wp2_with (refine ⟨trivial, rfl, ?_⟩; gi_at_call 42; refine (callsIn_wide.2 (must_yes 4 _)).mono ?_; rintro e W2 ⟨rfl, rfl⟩)
      refine marks_end (v := .tuple #[]) hK (fun X hX _ => ?_)
      obtain ⟨q1, q2, q3⟩ := hpost X hX
      exact ⟨results_none rfl _ _ _, q1, q2, .inl ⟨hne, rfl, q3⟩⟩
  case round =>
    rintro l own pre x vals W hl hol hrec hpost ⟨ha, hown, hsW, hkW, hfd⟩ rfl
    unfold shV
    gi_wp2
    have hx := shifts_mem (b := b) (x := x) (by obtain ⟨post, hp⟩ := hpost; rw [hp]; simp)
    have hzW := hsW.size
    have hrl := hkW.lt
    have hlW := (Array.getElem?_eq_some_iff.1 hrec.choose_spec).1
    refine ⟨fun k hk => Below.heap_alloc _ _ _ (hown k hk).2, by simp, fun W2 h2 hz2 hl2 => ?_⟩
    have hal := (Steps.alloc (fun k => k = l) W (.cells #[.int .i64 x.1, .int .i64 x.2] 72)).trans h2 (fun _ _ h => h)
    have e0 : W2.heap[W.heap.size]? = some (.cells #[.int .i64 x.1, .int .i64 x.2] 72) := (h2.block W.heap.size (by simp) (by omega)).trans (obj_new _ _)
    have e00 := cell_block e0 0
    have e01 := cell_block e0 1
    simp only [List.getElem?_toArray, List.getElem?_cons_zero, List.getElem?_cons_succ] at e00 e01
    have hsW2 : Steps (fun k => k = r ∨ k = g ∨ k = w.heap.size + 2 ∨ W0.heap.size ≤ k) W0 W2 := hsW.trans hal (fun k _ h => by omega)
    have i0 : Boxed W2 w.heap.size 69 (.pointer (some ⟨p, 0, none⟩)) := hsW2.obj (by omega) g0
    have i0c := i0.cell
    have hw00 := hold.below.size
    have hbW : BrdAt W2 p b fa sa fc sc f s r := hold.brd hbp hst0 hsW2 (fun k h => by have := hold.g; have := hold.r; omega) (by omega)
    have hj := joinings_made p b fa sa fc sc f s r x W2 hbW (hkW.steps hal (by omega)) hok hx
    gi_wp2_with (refine ⟨trivial, rfl, ?_⟩; gi_at_call 50; refine (CallsIn.inRound l (callsIn_wide.2 hj)).mono ?_; rintro e Wi ⟨B2, B5, rfl, hjm, hB2, hB5, hs3, hk3⟩)
    obtain ⟨rec, hrec2⟩ := hl2
    have hlr : l ≠ r := fun e => by
      obtain ⟨es, clk, hm, _⟩ := hkW
      rw [← e, hrec.choose_spec] at hm
      cases hm
    have hri : Wi.heap[l]? = some (.loop rec) := hs3.obj hlr hrec2
    have hzi := hs3.size
    have hza : W.heap.size < W2.heap.size := by rw [hz2]; simp
    have hsWi : Steps (fun k => k = r ∨ k = g ∨ k = w.heap.size + 2 ∨ W0.heap.size ≤ k) W0 Wi := hsW2.trans hs3 (fun k _ h => .inl h)
    have hbi : BrdAt Wi p b fa sa fc sc f s r := hold.brd hbp hst0 hsWi (fun k h => by have := hold.g; have := hold.r; omega) (by omega)
    have haWi : A (fun k => k = w.heap.size + 2 ∨ own k) (joinedOf b f s pre) Wi := hA.known _ _ _ _ (hA.bides _ _ _ _ _ ha (hal.mono (fun k _ h => .inr (h ▸ hol))) (fun k h => .inl h)) hs3
    refine wpIn_range_ownN (α := List Int) (l₀ := l) (r₀ := rec) hri (gf := 73) (lb := #[.pointer (some ⟨B2, 0, none⟩), .pointer (some ⟨B5, 0, none⟩)]) (L := bJoins b f s x) (Enc := JoinEnc (Wi.heap.size + 1)) (Kp := KeepCells (fun k => k = p ∨ k = B2 ∨ k = B5))
      rfl (enters_of Try.func73 (by kernel_rfl) rfl) ?seq2 KeepCells.trans ?kb2 ?ps2
      (GaN b f s g (w.heap.size + 2) A Wi (fun k => k = w.heap.size + 2 ∨ own k) (joinedOf b f s pre) x) (fun _ _ _ _ => False) (GaN.bides hA.bides (by omega)) (fun c own own' x A C h _ _ => h)
      ⟨?na, fun k h => h.elim, Steps.refl _ _, ?nf⟩ ?enc2 ?round2 ?done2 (fun _ _ _ _ _ h => h.elim)
    case seq2 =>
      intro W1 hs hz
      exact joinings_iter (hbi.later (hs.below (Nat.le_refl _) (fun _ _ h => h))) (hjm.keep (KeepCells.of_steps hs (fun _ _ h => h))) hok f6 s6 (by omega)
    case kb2 =>
      intro U C hU hs
      exact KeepCells.of_steps hs (fun k hk h => by
        have h2 := World.block_lt_of_cell? Wi _ hjm.c2
        have h3 := World.block_lt_of_cell? Wi _ (hjm.c5 0 (by omega))
        dsimp only at h2 h3
        omega)
    case ps2 => rintro own x vals W ⟨q, cap, rfl, _⟩; rfl
    case na => simpa [withShift] using haWi
    case nf =>
      have : Boxed Wi (w.heap.size + 2) 4 (.bool (!(joinedOf b f s pre).isEmpty)) := hs3.obj (by omega) (hal.obj (by omega) hfd)
      simpa [withShift] using this
    case enc2 => exact fun own own' x vals W hw h => joinEnc_wider (fun k hk => by rcases hw k hk with h | h | h; exact .inl h; exact .inr (by omega); exact .inr (by omega)) h
    case done2 =>
      rintro own2 W4 ⟨ha4, ho4, hs4, hf4⟩
      gi_wp2
      have hz4 := hs4.size
      have hkeep : ∀ k, own k → W4.heap[k]? = W2.heap[k]? := fun k hk => by
        have := hown k hk
        have h1 := hs3.block k (by omega) (fun e => by omega)
        have h2 := hs4.block k (by omega) (fun e => by rcases e with e | e | e <;> omega)
        exact h2.trans h1
      have hall : Steps (fun k => k = r ∨ k = g ∨ k = w.heap.size + 2 ∨ W0.heap.size ≤ k) W0 W4 := hsWi.trans hs4 (fun k _ h => by omega)
      refine ⟨hkeep, by omega, ?_, ?_, fun k hk => ⟨(hown k hk).1, by have := (hown k hk).2; omega⟩, hall, hk3.steps hs4 (by omega), ?_⟩
      · exact ((KeepCells.of_steps hal (fun k (hk : k = p ∨ k = w.heap.size + 3) (h : k = l) => by omega)).trans (KeepCells.of_steps hs3 (fun k (hk : k = p ∨ k = w.heap.size + 3) (h : k = r) => by omega))).trans
          (KeepCells.of_steps hs4 (fun k (hk : k = p ∨ k = w.heap.size + 3) h => by omega))
      · rw [joinedOf_snoc]
        exact hA.bides _ (fun k => k = w.heap.size + 2 ∨ own k) _ _ _ ha4 (Steps.refl _ _) (fun k h => .inl (.inl h))
      · rw [joinedOf_snoc]; exact hf4
    case round2 =>
      rintro l2 own2 pre2 y vals W4 hl2 hol2 hrec4 hpost2 ⟨ha4, ho4, hs4, hf4⟩ hen
      obtain ⟨q, cap, rfl, hq0, hqn, hql, hqi⟩ := hen
      gi_wp2
      refine ⟨fun _ _ => trivial, Nat.le_refl _, fun W5 h5 hz5 hl5 => ?_⟩
      have hz4 := hs4.size
      have hl4 := (Array.getElem?_eq_some_iff.1 hrec4.choose_spec).1
      have hs5 : Steps (fun k => k = g ∨ k = w.heap.size + 2 ∨ Wi.heap.size ≤ k) Wi W5 := hs4.trans h5 (fun k _ (h : k = l2) => .inr (.inr (by omega)))
      have j1 : Boxed W5 (w.heap.size + 1) 133 (.iface T (.pointer (some ⟨g, 0, none⟩))) := hs5.obj (by omega) (hsWi.obj (by omega) g1)
      have j1c := j1.cell
      have j2 : W5.heap[W.heap.size]? = some (.cells #[.int .i64 x.1, .int .i64 x.2] 72) := hs5.obj (by omega) (hs3.obj (by omega) e0)
      have j20 := cell_block j2 0
      have j21 := cell_block j2 1
      simp only [List.getElem?_toArray, List.getElem?_cons_zero, List.getElem?_cons_succ] at j20 j21
      have a5 : A (fun k => (k = w.heap.size + 2 ∨ own k) ∨ own2 k) (joinedOf b f s pre ++ withShift x pre2) W5 := hA.bides _ _ _ _ _ ha4 (h5.mono (fun k _ h => .inr (h ▸ hol2))) (fun k h => .inl h)
      have hsz5 : W5.heap.size = W4.heap.size := hz5
      have hadd := hA.add (fun k => (k = w.heap.size + 2 ∨ own k) ∨ own2 k) _ x y q cap W5 a5 (by obtain ⟨post, hp⟩ := hpost; rw [hp]; simp) (by obtain ⟨post, hp⟩ := hpost2; rw [hp]; simp) (by omega) (fun h => by rcases h with (h | h) | h; omega; have := (hown q h).2; omega; exact hqn h) (by omega) (by omega) (by omega)
        (hqi.later (h5.block q hql (fun e => hqn (e ▸ hol2)))) (fun k hk => by rcases hk with (h | h) | h; omega; have := (hown k h).2; omega; have := (ho4 k h).2; omega)
      unfold shV at hadd
      have j3 : Boxed W5 (w.heap.size + 2) 4 (.bool (!(joinedOf b f s pre ++ withShift x pre2).isEmpty)) := h5.obj (by omega) hf4
      have fin : ∀ W6, Steps (fun k => k = g) W5 W6 → A (fun k => (k = w.heap.size + 2 ∨ own k) ∨ own2 k) (joinedOf b f s pre ++ withShift x pre2 ++ [(x, y)]) W6 →
          (∀ k, own2 k → (W6.setCell ⟨w.heap.size + 2, 0, none⟩ (.bool true)).heap[k]? = W5.heap[k]?) ∧ W5.heap.size ≤ (W6.setCell ⟨w.heap.size + 2, 0, none⟩ (.bool true)).heap.size ∧
          KeepCells (fun k => k = p ∨ k = B2 ∨ k = B5) W4 (W6.setCell ⟨w.heap.size + 2, 0, none⟩ (.bool true)) ∧
          GaN b f s g (w.heap.size + 2) A Wi (fun k => k = w.heap.size + 2 ∨ own k) (joinedOf b f s pre) x own2 (pre2 ++ [y]) (W6.setCell ⟨w.heap.size + 2, 0, none⟩ (.bool true)) := fun W6 h6 a6 => by
        have hst := Steps.setCell (own := fun k => k = w.heap.size + 2) W6 (p := ⟨w.heap.size + 2, 0, none⟩) rfl (.bool true)
        have hB2 := World.block_lt_of_cell? Wi _ hjm.c2
        have hB5 := World.block_lt_of_cell? Wi _ (hjm.c5 0 (by omega))
        dsimp only at hB2 hB5
        have h6z := h6.size
        have hal6 : Steps (fun k => k = g ∨ k = w.heap.size + 2 ∨ Wi.heap.size ≤ k) Wi (W6.setCell ⟨w.heap.size + 2, 0, none⟩ (.bool true)) :=
          hs5.trans ((h6.mono (own' := fun k => k = g ∨ k = w.heap.size + 2) (fun _ _ h => .inl h)).trans hst (fun _ _ h => .inr h)) (fun k _ h => by rcases h with h | h; exact .inl h; exact .inr (.inl h))
        refine ⟨fun k hk => ?_, Nat.le_trans h6z hst.size, ?_, ?_, fun k hk => ⟨(ho4 k hk).1, ?_⟩, hal6, ?_⟩
        · have hk4 := ho4 k hk
          exact (hst.block k (by omega) (by omega)).trans (h6.block k (by omega) (by omega))
        · exact ((KeepCells.of_steps h5 (fun k (hk : k = p ∨ k = B2 ∨ k = B5) (h : k = l2) => by omega)).trans (KeepCells.of_steps h6 (fun k (hk : k = p ∨ k = B2 ∨ k = B5) (h : k = g) => by omega))).trans
            (KeepCells.of_steps hst (fun k (hk : k = p ∨ k = B2 ∨ k = B5) (h : k = w.heap.size + 2) => by omega))
        · rw [withShift_snoc, ← List.append_assoc]
          exact hA.bides _ _ _ _ _ a6 (hst.mono (fun _ _ h => .inl (.inl h))) (fun k h => .inl h)
        · have := (ho4 k hk).2
          exact Nat.lt_of_lt_of_le (by omega) (Nat.le_trans h6z hst.size)
        · have j4 : Boxed W6 (w.heap.size + 2) 4 (.bool (!(joinedOf b f s pre ++ withShift x pre2).isEmpty)) := h6.obj (by omega) j3
          have := j4.set (.bool true)
          rw [withShift_snoc, ← List.append_assoc]
          have he : (!((joinedOf b f s pre ++ withShift x pre2) ++ [(x, y)]).isEmpty) = true := by simp
          rw [he]
          exact this
      have hfd6 : ∀ W6, Steps (fun k => k = g) W5 W6 → W6.cell? ⟨w.heap.size + 2, 0, none⟩ = some (.bool (!(joinedOf b f s pre ++ withShift x pre2).isEmpty)) ∧ W6.frozen? ⟨w.heap.size + 2, 0, none⟩ = false := fun W6 h6 => by
        have j4 : Boxed W6 (w.heap.size + 2) 4 (.bool (!(joinedOf b f s pre ++ withShift x pre2).isEmpty)) := h6.obj (by omega) j3
        exact ⟨j4.cell, j4.frozen⟩
      rcases hTF with ⟨rfl, rfl⟩ | ⟨rfl, rfl⟩ | ⟨rfl, rfl⟩ | ⟨rfl, rfl⟩
      · have hm : ∀ w, (method 272 93 (.pointer (some ⟨g, 0, none⟩)) "zoneworks/border.add").run Try.prog w = .ok (110, .pointer (some ⟨g, 0, none⟩)) w := fun _ => by kernel_rfl
        gi_wp2_with (refine ⟨trivial, rfl, ?_⟩; gi_at_call 110; refine (CallsIn.inRound l2 (callsIn_wide.2 hadd)).mono ?_; rintro e W6 ⟨rfl, h6, a6⟩; obtain ⟨j4c, j4f⟩ := hfd6 W6 h6)
        exact fin W6 h6 a6
      · have hm : ∀ w, (method 272 101 (.pointer (some ⟨g, 0, none⟩)) "zoneworks/border.add").run Try.prog w = .ok (113, .pointer (some ⟨g, 0, none⟩)) w := fun _ => by kernel_rfl
        gi_wp2_with (refine ⟨trivial, rfl, ?_⟩; gi_at_call 113; refine (CallsIn.inRound l2 (callsIn_wide.2 hadd)).mono ?_; rintro e W6 ⟨rfl, h6, a6⟩; obtain ⟨j4c, j4f⟩ := hfd6 W6 h6)
        exact fin W6 h6 a6
      · have hm : ∀ w, (method 272 104 (.pointer (some ⟨g, 0, none⟩)) "zoneworks/border.add").run Try.prog w = .ok (114, .pointer (some ⟨g, 0, none⟩)) w := fun _ => by kernel_rfl
        gi_wp2_with (refine ⟨trivial, rfl, ?_⟩; gi_at_call 114; refine (CallsIn.inRound l2 (callsIn_wide.2 hadd)).mono ?_; rintro e W6 ⟨rfl, h6, a6⟩; obtain ⟨j4c, j4f⟩ := hfd6 W6 h6)
        exact fin W6 h6 a6
      · have hm : ∀ w, (method 272 109 (.pointer (some ⟨g, 0, none⟩)) "zoneworks/border.add").run Try.prog w = .ok (115, .pointer (some ⟨g, 0, none⟩)) w := fun _ => by kernel_rfl
        gi_wp2_with (refine ⟨trivial, rfl, ?_⟩; gi_at_call 115; refine (CallsIn.inRound l2 (callsIn_wide.2 hadd)).mono ?_; rintro e W6 ⟨rfl, h6, a6⟩; obtain ⟨j4c, j4f⟩ := hfd6 W6 h6)
        exact fin W6 h6 a6
end Go.Proofs.Ytjkegmjjhdmkiaa
