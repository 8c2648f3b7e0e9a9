/- Laws for a range over a function whose iterator keeps state of its own in memory: who owns which block. No program in sight. -/
import Derived.RangeFuncNested
import Derived.RangeFuncBound
import Derived.RangeFuncCalls
import Derived.RangeFuncLeaves
namespace Go.Proofs.Ytacioedolmaofaa
open Go Go.RowKit
set_option linter.unusedSimpArgs false

/-- From A to B: blocks of 'own' may have turned, others lie as they lay. -/
structure Steps (own : Nat → Prop) (A B : World) : Prop where
  os : B.os = A.os
  tape : B.tape = A.tape
  output : B.output = A.output
  size : A.heap.size ≤ B.heap.size
  block : ∀ k, k < A.heap.size → ¬ own k → B.heap[k]? = A.heap[k]?

theorem Steps.refl (own : Nat → Prop) (A : World) : Steps own A A := ⟨rfl, rfl, rfl, Nat.le_refl _, fun _ _ _ => rfl⟩

theorem Steps.trans {own own' : Nat → Prop} {A B C : World} (h : Steps own A B) (k : Steps own' B C) (hsub : ∀ i, i < A.heap.size → own' i → own i) : Steps own A C :=
  ⟨k.os.trans h.os, k.tape.trans h.tape, k.output.trans h.output, Nat.le_trans h.size k.size,
   fun i hi hn => (k.block i (Nat.lt_of_lt_of_le hi h.size) (fun h' => hn (hsub i hi h'))).trans (h.block i hi hn)⟩

theorem Steps.mono {own own' : Nat → Prop} {A B : World} (h : Steps own A B) (hsub : ∀ i, i < A.heap.size → own i → own' i) : Steps own' A B :=
  ⟨h.os, h.tape, h.output, h.size, fun i hi hn => h.block i hi (fun h' => hn (hsub i hi h'))⟩

theorem Steps.alloc (own : Nat → Prop) (A : World) (o : Obj) : Steps own A (A.alloc o) := ⟨rfl, rfl, rfl, by simp, fun k hk _ => Below.heap_alloc A o k hk⟩

theorem Steps.setCell {own : Nat → Prop} (A : World) {p : Addr} (h : own p.block) (u : Value) : Steps own A (A.setCell p u) :=
  ⟨rfl, rfl, rfl, by simp [World.setCell], fun k _ hn => Below.heap_setCell _ _ _ _ (fun e => hn (by rw [e]; exact h))⟩

theorem Steps.putObj {own : Nat → Prop} (A : World) {r : Nat} (h : own r) (o : Obj) : Steps own A (A.putObj r o) :=
  ⟨rfl, rfl, rfl, by simp, fun k _ hn => World.putObj_heap_other (fun e => hn (by rw [e]; exact h))⟩

theorem Steps.drew {own : Nat → Prop} {A B : World} (h : Steps own A B) : Steps own A B.drew := ⟨h.os, h.tape, h.output, h.size, h.block⟩

theorem Steps.of_below {B : Nat} {A C : World} (h : Below B A C) : Steps (fun k => B ≤ k) A C := ⟨h.os, h.tape, h.output, h.size, fun k _ hn => h.block k (Nat.lt_of_not_le hn)⟩

theorem Steps.below {own : Nat → Prop} {B : Nat} {A C : World} (h : Steps own A C) (hB : B ≤ A.heap.size) (hown : ∀ k, k < B → ¬ own k) : Below B A C :=
  ⟨h.os, h.tape, h.output, h.size, fun k hk => h.block k (Nat.lt_of_lt_of_le hk hB) (hown k hk)⟩

/-- A block that is nobody's to turn lies as it lay. -/
theorem Steps.obj {own : Nat → Prop} {A B : World} (h : Steps own A B) {k : Nat} {o : Obj} (hn : ¬ own k) (ho : A.heap[k]? = some o) : B.heap[k]? = some o :=
  (h.block k (Array.getElem?_eq_some_iff.1 ho).1 hn).trans ho

/-- What is kept through another's steps: those who own more blocks own new ones alone. -/
def Bides {β : Type} (J : (Nat → Prop) → β → World → Prop) : Prop :=
  ∀ own own' s A B, J own s A → Steps own A B → (∀ k, own' k → own k ∨ (A.heap.size ≤ k ∧ k < B.heap.size)) → J own' s B

theorem Bides.pure {β : Type} (p : β → Prop) : Bides (fun _ s (_ : World) => p s) := fun _ _ _ _ _ h _ _ => h

theorem Bides.and {β : Type} {J K : (Nat → Prop) → β → World → Prop} (hJ : Bides J) (hK : Bides K) : Bides (fun own s W => J own s W ∧ K own s W) :=
  fun own own' s A B h hs ho => ⟨hJ own own' s A B h.1 hs ho, hK own own' s A B h.2 hs ho⟩

/-- THE CONTRACT OF AN ITERATOR VALUE: L has come, one by one; what it tells of each: 'Enc'; what a round must keep: 'Kp', and the iterator's own blocks. -/
def SeqOwn {α : Type} (P : Program) (g : Nat) (lb : Array Value) (Enc : (Nat → Prop) → α → Array Value → World → Prop) (Kp : World → World → Prop) (L : List α) (W : World) : Prop :=
  ∀ (l : Nat) (J Jx : (Nat → Prop) → List α → World → Prop), Bides J → Bides Jx →
    (∀ own pre x vals W1, (∃ post, L = pre ++ x :: post) → J own pre W1 → Enc own x vals W1 → YieldAt Fence.wide 0 P l vals W1 fun e W' =>
      Kp W1 W' ∧ W1.heap.size ≤ W'.heap.size ∧ (∀ k, own k → W'.heap[k]? = W1.heap[k]?) ∧ ((e = .returned (.bool true) ∧ J own (pre ++ [x]) W') ∨ (e = .returned (.bool false) ∧ Jx own (pre ++ [x]) W'))) →
    J (fun _ => False) [] W →
    Calls P g (#[.func (.yield l) #[] #[]] ++ lb) W fun e W' => (∃ v, e = .returned v) ∧ ((∃ own, J own L W') ∨ (∃ own pre, pre <+: L ∧ Jx own pre W'))

/-- How a round's body may be left. -/
def ownPost {α : Type} (Kp : World → World → Prop) (I : (Nat → Prop) → List α → World → Prop) (Ix : Code → (Nat → Prop) → List α → World → Prop) (own : Nat → Prop) (xs : List α) (W W2 : World) : Exit → Act → World → Prop
  | .normal, _, W' => (∀ k, own k → W'.heap[k]? = W2.heap[k]?) ∧ W2.heap.size ≤ W'.heap.size ∧ Kp W W' ∧ I own xs W'
  | .ret, _, W' => (∀ k, own k → W'.heap[k]? = W2.heap[k]?) ∧ W2.heap.size ≤ W'.heap.size ∧ Kp W W' ∧ Ix .ret own xs W'
  | .exit id, _, W' => (∀ k, own k → W'.heap[k]? = W2.heap[k]?) ∧ W2.heap.size ≤ W'.heap.size ∧ Kp W W' ∧ Ix (.exit id) own xs W'
  | .goto t, _, W' => (∀ k, own k → W'.heap[k]? = W2.heap[k]?) ∧ W2.heap.size ≤ W'.heap.size ∧ Kp W W' ∧ Ix (.goto t) own xs W'
  | .panic _, _, _ => False
  | .outgrown, _, _ => False

/-- What one owes for a round: the assign code, then the body, the loop's record (block l) having been turned. -/
def RoundOwn {α : Type} (F : Fence) (P : Program) (ps : Array Tmp) (assign body : Code) (tmps : Array Value) (B : Nat) (Enc : (Nat → Prop) → α → Array Value → World → Prop) (Kp : World → World → Prop)
    (I : (Nat → Prop) → List α → World → Prop) (Ix : Code → (Nat → Prop) → List α → World → Prop) (L : List α) : Prop :=
  ∀ (l : Nat) (own : Nat → Prop) (pre : List α) (x : α) (vals : Array Value) (W : World), B ≤ l → own l → (∃ r, W.heap[l]? = some (.loop r)) → (∃ post, L = pre ++ x :: post) → I own pre W → Enc own x vals W →
    assign.wpIn (F.inRound l) 0 P (Exit.then (fun a' W' => (∀ k, own k → W'.heap[k]? = W.heap[k]?) ∧ W.heap.size ≤ W'.heap.size ∧ ∀ W2, Steps (fun k => k = l) W' W2 → W2.heap.size = W'.heap.size → (∃ r, W2.heap[l]? = some (.loop r)) → body.wpIn (F.inRound l) 0 P (ownPost Kp I Ix own (pre ++ [x]) W W2) a' W2) (fun _ _ _ => False))
      { tmps := (ps.zip vals).foldl (fun t (p, v) => t.setIfInBounds p v) tmps, defers := [] } W

section
variable {P : Program} {w : World}

/-- What of a loop's books lies in a block that an iterator owns not. -/
theorem Steps.keep {own : Nat → Prop} {A B : World} (h : Steps own A B) {k : Nat} (hn : ¬ own k) {p : Option Obj → Prop} (hp : p A.heap[k]?) (hk : k < A.heap.size) : p B.heap[k]? := by rw [h.block k hk hn]; exact hp

theorem steps_putObj_size (W : World) (l : Nat) (o : Obj) : (W.putObj l o).heap.size = W.heap.size := by simp

/-- THE STATEMENT 'for .. := range g { .. }' OUTSIDE ALL ROUNDS. -/
theorem wpIn_range_own {α : Type} {g : Operand} {ps : Array Tmp} {assign body : Code} {Q : Exit → Act → World → Prop} {a : Act}
    {gf : Nat} {lb : Array Value} (hg : a.eval g = .func (.func gf) #[] lb) (eg : ∀ args w, (callFunc gf args).run P w = .ok (.enter gf args) w)
    {Enc : (Nat → Prop) → α → Array Value → World → Prop} {Kp : World → World → Prop} {L : List α} (hseq : ∀ W1, Steps (fun _ => False) w W1 → W1.heap.size = w.heap.size + 2 → SeqOwn P gf lb Enc Kp L W1)
    (hKt : ∀ {A B C : World}, Kp A B → Kp B C → Kp A C) (hKb : ∀ (A B : World), w.heap.size ≤ A.heap.size → Steps (fun k => w.heap.size ≤ k) A B → Kp A B) (hps : ∀ own x vals W, Enc own x vals W → vals.size = ps.size)
    (I : (Nat → Prop) → List α → World → Prop) (Ix : Code → (Nat → Prop) → List α → World → Prop) (hI : Bides I) (hIx : ∀ c, Bides (Ix c)) (h0 : I (fun _ => False) [] w)
    (hEnc : ∀ own own' x vals W, (∀ k, own' k → own k ∨ k = w.heap.size ∨ k = w.heap.size + 1) → Enc own x vals W → Enc own' x vals W)
    (hround : RoundOwn Fence.wide P ps assign body a.tmps w.heap.size Enc Kp I Ix L)
    (hdone : ∀ (D : Nat) (own : Nat → Prop) (W : World), w.heap.size ≤ D → own D → I own L W → W.heap[D]? = some (.deferred (some [])) → Q .normal { a with defers := { target := .collected D, args := #[] } :: a.defers } W)
    (hstop : ∀ (D : Nat) (c : Code) (own : Nat → Prop) (pre : List α) (W : World), w.heap.size ≤ D → own D → pre <+: L → Ix c own pre W → W.heap[D]? = some (.deferred (some [])) → c.wpIn Fence.wide 0 P Q { a with defers := { target := .collected D, args := #[] } :: a.defers } W) :
    (Code.rangeFunc g ps assign body).wpIn Fence.wide 0 P Q a w := by
  refine wpIn_rangeFunc ?_
  intro fn hfn
  show ∃ l mark w₁ d w₁' f args w₂, (Instr.enterLoop fn a.tmps ps assign body none).run P w = .ok (l, mark) w₁ ∧ _
  obtain ⟨rec, hrec⟩ : ∃ rec : LoopState → Option Code → Loop, rec = fun st pe => { state := st, pending := pe, fn, tmps := a.tmps, params := ps, assign, body, defers := w.heap.size } := ⟨_, rfl⟩
  obtain ⟨W1, hW1⟩ : ∃ W1, (w.alloc (.deferred (some []))).alloc (.loop (rec .ready none)) = W1 := ⟨_, rfl⟩
  have hL1 : W1.heap[w.heap.size + 1]? = some (.loop (rec .ready none)) := by
    rw [← hW1]; have := World.alloc_heap_new (w.alloc (.deferred (some []))) (.loop (rec .ready none)); rwa [World.size_alloc] at this
  have hK1 : W1.heap[w.heap.size]? = some (.deferred (some [])) := by
    rw [← hW1]; exact (Below.heap_alloc _ _ _ (by simp)).trans (World.alloc_heap_new w _)
  have hs1 : Steps (fun _ => False) w W1 := by
    rw [← hW1]; exact (Steps.alloc _ w _).trans (Steps.alloc (fun _ => False) _ _) (fun _ _ h => h)
  have hz1 : W1.heap.size = w.heap.size + 2 := by rw [← hW1]; simp
  -- the loop's own two blocks
  obtain ⟨two, htwo⟩ : ∃ two : (Nat → Prop) → (Nat → Prop), two = fun own k => own k ∨ k = w.heap.size ∨ k = w.heap.size + 1 := ⟨_, rfl⟩
  have hI1 : I (two fun _ => False) [] W1 := by
    refine hI (fun _ => False) (two fun _ => False) [] w W1 h0 hs1 (fun k hk => ?_)
    rw [htwo] at hk
    rcases hk with h | h | h
    · exact h.elim
    · exact .inr (by omega)
    · exact .inr (by omega)
  refine ⟨w.heap.size + 1, [{ target := .collected w.heap.size, args := #[] }], W1, { target := .fn (.func gf) lb, args := #[.func (.yield (w.heap.size + 1)) #[] #[]] }, W1, gf,
    #[.func (.yield (w.heap.size + 1)) #[] #[]] ++ lb, W1, ?_, ?_, ?_, ?_, fun h => by simp [Fence.wide] at h, ?_⟩
  · rw [← hW1, hrec]; exact run_enterLoop_outer _ _ _ _ _
  · simp only [resolve, hg]
    simp [go_sem]
  · intro f' _; trivial
  · simp [invoke, go_sem, eg]
  · -- the iterator's contract, at the caller's invariant with the facts of the books beside it
    have lift : ∀ (own own' : Nat → Prop) (A B : World), (∀ k, own k → w.heap.size + 2 ≤ k) → w.heap.size + 2 ≤ A.heap.size → Steps own A B → (∀ k, own' k → own k ∨ (A.heap.size ≤ k ∧ k < B.heap.size)) →
        Steps (two own) A B ∧ (∀ k, two own' k → two own k ∨ (A.heap.size ≤ k ∧ k < B.heap.size)) ∧ (∀ k, own' k → w.heap.size + 2 ≤ k) ∧ B.heap[w.heap.size]? = A.heap[w.heap.size]? ∧ B.heap[w.heap.size + 1]? = A.heap[w.heap.size + 1]? :=
      fun own own' A B hown hA hs ho => ⟨hs.mono (fun _ _ h => by rw [htwo]; exact .inl h), fun k hk => by
          rw [htwo] at hk ⊢
          rcases hk with h | h
          · rcases ho k h with h | h
            · exact .inl (.inl h)
            · exact .inr h
          · exact .inl (.inr h),
        fun k hk => by rcases ho k hk with h | h
                       · exact hown k h
                       · omega,
        hs.block _ (by omega) (fun h => by have := hown _ h; omega), hs.block _ (by omega) (fun h => by have := hown _ h; omega)⟩
    refine callsIn_wide.2 ((hseq W1 hs1 hz1 (w.heap.size + 1)
      (fun own pre W => I (two own) pre W ∧ (∀ k, own k → w.heap.size + 2 ≤ k) ∧ w.heap.size + 2 ≤ W.heap.size ∧ W.heap[w.heap.size + 1]? = some (.loop (rec .ready none)) ∧ W.heap[w.heap.size]? = some (.deferred (some [])))
      (fun own pre W => ∃ c, Ix c (two own) pre W ∧ (∀ k, own k → w.heap.size + 2 ≤ k) ∧ w.heap.size + 2 ≤ W.heap.size ∧ W.heap[w.heap.size + 1]? = some (.loop (rec .done (some c))) ∧ W.heap[w.heap.size]? = some (.deferred (some [])))
      (fun own own' s A B h hs ho => by
        obtain ⟨h1, h2, h3, h4, h5⟩ := h
        obtain ⟨i1, i2, i3, i4, i5⟩ := lift own own' A B h2 h3 hs ho
        exact ⟨hI _ _ _ _ _ h1 i1 i2, i3, Nat.le_trans h3 hs.size, i5.trans h4, i4.trans h5⟩)
      (fun own own' s A B h hs ho => by
        obtain ⟨c, h1, h2, h3, h4, h5⟩ := h
        obtain ⟨i1, i2, i3, i4, i5⟩ := lift own own' A B h2 h3 hs ho
        exact ⟨c, hIx c _ _ _ _ _ h1 i1 i2, i3, Nat.le_trans h3 hs.size, i5.trans h4, i4.trans h5⟩)
      ?_ ⟨hI1, fun _ h => h.elim, by omega, hL1, hK1⟩).mono ?_)
    · -- one round
      rintro own pre x vals W hpost ⟨hi, hown, hsz, hl, hk⟩ hen
      have hy := run_yield (P := P) (args := vals) hl (by rw [hrec]; exact hps _ _ _ _ hen)
      rw [hrec] at hy
      refine ⟨fn, _, assign, body, hy, roundIn_of_wpIn hfn (wpIn_mono (hround (w.heap.size + 1) (two own) pre x vals W (by omega) (by rw [htwo]; exact .inr (.inr rfl)) ⟨_, hl⟩ hpost hi (hEnc _ _ _ _ _ (fun k h => by rw [htwo] at h; exact h) hen)) ?_)⟩
      clear hy
      rintro e a' Wa hp
      cases e with
      | normal =>
        obtain ⟨hkeep, hsza, hbody⟩ := hp
        have hla : Wa.heap[w.heap.size + 1]? = some (.loop (rec .ready none)) := (hkeep _ (by rw [htwo]; exact .inr (.inr rfl))).trans hl
        have hka : Wa.heap[w.heap.size]? = some (.deferred (some [])) := (hkeep _ (by rw [htwo]; exact .inr (.inl rfl))).trans hk
        have hlt : w.heap.size + 1 < Wa.heap.size := (Array.getElem?_eq_some_iff.1 hla).1
        refine ⟨_, run_beginRound hla (by rw [hrec]), ?_⟩
        have hl2 : (Wa.putObj (w.heap.size + 1) (.loop { rec .ready none with state := .busy })).heap[w.heap.size + 1]? = some (.loop { rec .ready none with state := .busy }) := World.putObj_heap_same hlt
        have hk2 : (Wa.putObj (w.heap.size + 1) (.loop { rec .ready none with state := .busy })).heap[w.heap.size]? = some (.deferred (some [])) := (World.putObj_heap_other (by omega)).trans hka
        refine wpIn_mono (hbody _ (Steps.putObj (own := fun k => k = w.heap.size + 1) Wa rfl _) (steps_putObj_size _ _ _) ⟨_, hl2⟩) ?_
        have fin : ∀ (jump : Option Code) (W3 : World), (∀ k, two own k → W3.heap[k]? = (Wa.putObj (w.heap.size + 1) (.loop { rec .ready none with state := .busy })).heap[k]?) →
            (Instr.endRound (w.heap.size + 1) jump).run P W3 = .ok (.bool jump.isNone) (W3.putObj (w.heap.size + 1) (.loop (rec (if jump.isNone then .ready else .done) jump))) ∧
            w.heap.size + 1 < W3.heap.size ∧
            (W3.putObj (w.heap.size + 1) (.loop (rec (if jump.isNone then .ready else .done) jump))).heap[w.heap.size + 1]? = some (.loop (rec (if jump.isNone then .ready else .done) jump)) ∧
            (W3.putObj (w.heap.size + 1) (.loop (rec (if jump.isNone then .ready else .done) jump))).heap[w.heap.size]? = some (.deferred (some [])) := fun jump W3 hk3 => by
          have hl3 := (hk3 _ (by rw [htwo]; exact .inr (.inr rfl))).trans hl2
          have hlt3 := (Array.getElem?_eq_some_iff.1 hl3).1
          have := run_endRound (P := P) jump hl3
          rw [hrec] at this ⊢
          exact ⟨this, hlt3, World.putObj_heap_same hlt3, (World.putObj_heap_other (by omega)).trans ((hk3 _ (by rw [htwo]; exact .inr (.inl rfl))).trans hk2)⟩
        have own2 : ∀ k, own k → two own k ∧ k ≠ w.heap.size + 1 := fun k h => ⟨by rw [htwo]; exact .inl h, by have := hown k h; omega⟩
        have ipo : ∀ (s : List α) (W3 : World) (o : Obj), I (two own) s W3 → I (two own) s (W3.putObj (w.heap.size + 1) o) := fun s W3 o h =>
          hI _ _ _ _ _ h (Steps.putObj (own := two own) _ (by rw [htwo]; exact .inr (.inr rfl)) _) (fun k h => .inl h)
        have ipx : ∀ (c : Code) (s : List α) (W3 : World) (o : Obj), Ix c (two own) s W3 → Ix c (two own) s (W3.putObj (w.heap.size + 1) o) := fun c s W3 o h =>
          hIx c _ _ _ _ _ h (Steps.putObj (own := two own) _ (by rw [htwo]; exact .inr (.inr rfl)) _) (fun k h => .inl h)
        rintro e a3 W3 hp
        cases e with
        | normal =>
          obtain ⟨hk3, hsz3, hkp3, hi3⟩ := hp
          obtain ⟨hr, hl3, hl4, hk4⟩ := fin none W3 hk3
          exact ⟨_, _, hr, hKt hkp3 (hKb _ _ (by omega) (Steps.putObj (own := fun k => w.heap.size ≤ k) _ (by show w.heap.size ≤ w.heap.size + 1; omega) _)), (by simp only [steps_putObj_size] at hsz3 ⊢; omega), (fun k h => by
            obtain ⟨h2, hne⟩ := own2 k h
            exact (World.putObj_heap_other hne).trans ((hk3 k h2).trans ((World.putObj_heap_other hne).trans (hkeep k h2)))), .inl ⟨rfl, ipo _ _ _ hi3, hown, by simp; omega, hl4, hk4⟩⟩
        | ret =>
          obtain ⟨hk3, hsz3, hkp3, hi3⟩ := hp
          obtain ⟨hr, hl3, hl4, hk4⟩ := fin (some .ret) W3 hk3
          exact ⟨_, _, hr, hKt hkp3 (hKb _ _ (by omega) (Steps.putObj (own := fun k => w.heap.size ≤ k) _ (by show w.heap.size ≤ w.heap.size + 1; omega) _)), (by simp only [steps_putObj_size] at hsz3 ⊢; omega), (fun k h => by
            obtain ⟨h2, hne⟩ := own2 k h
            exact (World.putObj_heap_other hne).trans ((hk3 k h2).trans ((World.putObj_heap_other hne).trans (hkeep k h2)))), .inr ⟨rfl, .ret, ipx _ _ _ _ hi3, hown, by simp; omega, hl4, hk4⟩⟩
        | exit id =>
          obtain ⟨hk3, hsz3, hkp3, hi3⟩ := hp
          obtain ⟨hr, hl3, hl4, hk4⟩ := fin (some (.exit id)) W3 hk3
          exact ⟨_, _, hr, hKt hkp3 (hKb _ _ (by omega) (Steps.putObj (own := fun k => w.heap.size ≤ k) _ (by show w.heap.size ≤ w.heap.size + 1; omega) _)), (by simp only [steps_putObj_size] at hsz3 ⊢; omega), (fun k h => by
            obtain ⟨h2, hne⟩ := own2 k h
            exact (World.putObj_heap_other hne).trans ((hk3 k h2).trans ((World.putObj_heap_other hne).trans (hkeep k h2)))), .inr ⟨rfl, .exit id, ipx _ _ _ _ hi3, hown, by simp; omega, hl4, hk4⟩⟩
        | goto t =>
          obtain ⟨hk3, hsz3, hkp3, hi3⟩ := hp
          obtain ⟨hr, hl3, hl4, hk4⟩ := fin (some (.goto t)) W3 hk3
          exact ⟨_, _, hr, hKt hkp3 (hKb _ _ (by omega) (Steps.putObj (own := fun k => w.heap.size ≤ k) _ (by show w.heap.size ≤ w.heap.size + 1; omega) _)), (by simp only [steps_putObj_size] at hsz3 ⊢; omega), (fun k h => by
            obtain ⟨h2, hne⟩ := own2 k h
            exact (World.putObj_heap_other hne).trans ((hk3 k h2).trans ((World.putObj_heap_other hne).trans (hkeep k h2)))), .inr ⟨rfl, .goto t, ipx _ _ _ _ hi3, hown, by simp; omega, hl4, hk4⟩⟩
        | panic ch => exact hp.elim
        | outgrown => exact hp.elim
      | exit id => exact hp.elim
      | goto t => exact hp.elim
      | ret => exact hp.elim
      | panic ch => exact hp.elim
      | outgrown => exact hp.elim
    · -- behind the iterator
      have ipo : ∀ (own : Nat → Prop) (s : List α) (W3 : World) (o : Obj), I (two own) s W3 → I (two own) s (W3.putObj (w.heap.size + 1) o) := fun own s W3 o h =>
        hI _ _ _ _ _ h (Steps.putObj (own := two own) _ (by rw [htwo]; exact .inr (.inr rfl)) _) (fun k h => .inl h)
      have ipx : ∀ (c : Code) (own : Nat → Prop) (s : List α) (W3 : World) (o : Obj), Ix c (two own) s W3 → Ix c (two own) s (W3.putObj (w.heap.size + 1) o) := fun c own s W3 o h =>
        hIx c _ _ _ _ _ h (Steps.putObj (own := two own) _ (by rw [htwo]; exact .inr (.inr rfl)) _) (fun k h => .inl h)
      rintro e W2 ⟨⟨v, rfl⟩, (⟨own, hi, hown, hsz, hl, hk⟩ | ⟨own, pre, hSp, c, hi, hown, hsz, hl, hk⟩)⟩
      · exact ⟨none, _, by have := run_endLoop (P := P) hl (by rw [hrec]; simp); rw [hrec] at this; exact this, hdone _ (two own) _ (Nat.le_refl _) (by rw [htwo]; exact .inr (.inl rfl)) (ipo _ _ _ _ hi) ((World.putObj_heap_other (by omega)).trans hk)⟩
      · exact ⟨some c, _, by have := run_endLoop (P := P) hl (by rw [hrec]; simp); rw [hrec] at this; exact this, hstop _ c (two own) pre _ (Nat.le_refl _) (by rw [htwo]; exact .inr (.inl rfl)) hSp (ipx _ _ _ _ _ hi) ((World.putObj_heap_other (by omega)).trans hk)⟩

/-- THE STATEMENT 'for .. := range g { .. }' WITHIN A ROUND OF LOOP l₀. -/
theorem wpIn_range_ownN {α : Type} {g : Operand} {ps : Array Tmp} {assign body : Code} {Q : Exit → Act → World → Prop} {a : Act}
    {l₀ : Nat} {r₀ : Loop} (hl₀ : w.heap[l₀]? = some (.loop r₀)) {gf : Nat} {lb : Array Value} (hg : a.eval g = .func (.func gf) #[] lb) (eg : ∀ args w, (callFunc gf args).run P w = .ok (.enter gf args) w)
    {Enc : (Nat → Prop) → α → Array Value → World → Prop} {Kp : World → World → Prop} {L : List α} (hseq : ∀ W1, Steps (fun _ => False) w W1 → W1.heap.size = w.heap.size + 1 → SeqOwn P gf lb Enc Kp L W1)
    (hKt : ∀ {A B C : World}, Kp A B → Kp B C → Kp A C) (hKb : ∀ (A B : World), w.heap.size ≤ A.heap.size → Steps (fun k => w.heap.size ≤ k) A B → Kp A B) (hps : ∀ own x vals W, Enc own x vals W → vals.size = ps.size)
    (I : (Nat → Prop) → List α → World → Prop) (Ix : Code → (Nat → Prop) → List α → World → Prop) (hI : Bides I) (hIx : ∀ c, Bides (Ix c)) (h0 : I (fun _ => False) [] w)
    (hEnc : ∀ own own' x vals W, (∀ k, own' k → own k ∨ k = w.heap.size ∨ k = w.heap.size) → Enc own x vals W → Enc own' x vals W)
    (hround : RoundOwn Fence.wide P ps assign body a.tmps w.heap.size Enc Kp I Ix L)
    (hdone : ∀ (own : Nat → Prop) (W : World), I own L W → Q .normal a W)
    (hstop : ∀ (c : Code) (own : Nat → Prop) (pre : List α) (W : World), pre <+: L → Ix c own pre W → c.wpIn (Fence.wide.inRound l₀) 0 P Q a W) :
    (Code.rangeFunc g ps assign body).wpIn (Fence.wide.inRound l₀) 0 P Q a w := by
  refine wpIn_rangeFunc ?_
  intro fn hfn
  show ∃ l mark w₁ d w₁' f args w₂, (Instr.enterLoop fn a.tmps ps assign body (some l₀)).run P w = .ok (l, mark) w₁ ∧ _
  obtain ⟨rec, hrec⟩ : ∃ rec : LoopState → Option Code → Loop, rec = fun st pe => { state := st, pending := pe, fn, tmps := a.tmps, params := ps, assign, body, defers := r₀.defers } := ⟨_, rfl⟩
  obtain ⟨W1, hW1⟩ : ∃ W1, w.alloc (.loop (rec .ready none)) = W1 := ⟨_, rfl⟩
  have hL1 : W1.heap[w.heap.size]? = some (.loop (rec .ready none)) := by
    rw [← hW1]; exact World.alloc_heap_new w _
  have hs1 : Steps (fun _ => False) w W1 := by
    rw [← hW1]; exact Steps.alloc _ w _
  have hz1 : W1.heap.size = w.heap.size + 1 := by rw [← hW1]; simp
  -- the loop's own block
  obtain ⟨two, htwo⟩ : ∃ two : (Nat → Prop) → (Nat → Prop), two = fun own k => own k ∨ k = w.heap.size ∨ k = w.heap.size := ⟨_, rfl⟩
  have hI1 : I (two fun _ => False) [] W1 := by
    refine hI (fun _ => False) (two fun _ => False) [] w W1 h0 hs1 (fun k hk => ?_)
    rw [htwo] at hk
    rcases hk with h | h | h
    · exact h.elim
    · exact .inr (by omega)
    · exact .inr (by omega)
  refine ⟨w.heap.size, [], W1, { target := .fn (.func gf) lb, args := #[.func (.yield (w.heap.size)) #[] #[]] }, W1, gf,
    #[.func (.yield (w.heap.size)) #[] #[]] ++ lb, W1, ?_, ?_, ?_, ?_, fun h => by simp [Fence.wide] at h, ?_⟩
  · rw [← hW1, hrec]; exact run_enterLoop_inner hl₀ _ _ _ _ _
  · simp only [resolve, hg]
    simp [go_sem]
  · intro f' _; trivial
  · simp [invoke, go_sem, eg]
  · -- the iterator's contract, at the caller's invariant with the facts of the books beside it
    have lift : ∀ (own own' : Nat → Prop) (A B : World), (∀ k, own k → w.heap.size + 1 ≤ k) → w.heap.size + 1 ≤ A.heap.size → Steps own A B → (∀ k, own' k → own k ∨ (A.heap.size ≤ k ∧ k < B.heap.size)) →
        Steps (two own) A B ∧ (∀ k, two own' k → two own k ∨ (A.heap.size ≤ k ∧ k < B.heap.size)) ∧ (∀ k, own' k → w.heap.size + 1 ≤ k) ∧ B.heap[w.heap.size]? = A.heap[w.heap.size]? :=
      fun own own' A B hown hA hs ho => ⟨hs.mono (fun _ _ h => by rw [htwo]; exact .inl h), fun k hk => by
          rw [htwo] at hk ⊢
          rcases hk with h | h
          · rcases ho k h with h | h
            · exact .inl (.inl h)
            · exact .inr h
          · exact .inl (.inr h),
        fun k hk => by rcases ho k hk with h | h
                       · exact hown k h
                       · omega,
        hs.block _ (by omega) (fun h => by have := hown _ h; omega)⟩
    refine callsIn_wide.2 ((hseq W1 hs1 hz1 (w.heap.size)
      (fun own pre W => I (two own) pre W ∧ (∀ k, own k → w.heap.size + 1 ≤ k) ∧ w.heap.size + 1 ≤ W.heap.size ∧ W.heap[w.heap.size]? = some (.loop (rec .ready none)))
      (fun own pre W => ∃ c, Ix c (two own) pre W ∧ (∀ k, own k → w.heap.size + 1 ≤ k) ∧ w.heap.size + 1 ≤ W.heap.size ∧ W.heap[w.heap.size]? = some (.loop (rec .done (some c))))
      (fun own own' s A B h hs ho => by
        obtain ⟨h1, h2, h3, h4⟩ := h
        obtain ⟨i1, i2, i3, i4⟩ := lift own own' A B h2 h3 hs ho
        exact ⟨hI _ _ _ _ _ h1 i1 i2, i3, Nat.le_trans h3 hs.size, i4.trans h4⟩)
      (fun own own' s A B h hs ho => by
        obtain ⟨c, h1, h2, h3, h4⟩ := h
        obtain ⟨i1, i2, i3, i4⟩ := lift own own' A B h2 h3 hs ho
        exact ⟨c, hIx c _ _ _ _ _ h1 i1 i2, i3, Nat.le_trans h3 hs.size, i4.trans h4⟩)
      ?_ ⟨hI1, fun _ h => h.elim, by omega, hL1⟩).mono ?_)
    · -- one round
      rintro own pre x vals W hpost ⟨hi, hown, hsz, hl⟩ hen
      have hy := run_yield (P := P) (args := vals) hl (by rw [hrec]; exact hps _ _ _ _ hen)
      rw [hrec] at hy
      refine ⟨fn, _, assign, body, hy, roundIn_of_wpIn hfn (wpIn_mono (hround (w.heap.size) (two own) pre x vals W (by omega) (by rw [htwo]; exact .inr (.inr rfl)) ⟨_, hl⟩ hpost hi (hEnc _ _ _ _ _ (fun k h => by rw [htwo] at h; exact h) hen)) ?_)⟩
      clear hy
      rintro e a' Wa hp
      cases e with
      | normal =>
        obtain ⟨hkeep, hsza, hbody⟩ := hp
        have hla : Wa.heap[w.heap.size]? = some (.loop (rec .ready none)) := (hkeep _ (by rw [htwo]; exact .inr (.inr rfl))).trans hl
        have hlt : w.heap.size < Wa.heap.size := (Array.getElem?_eq_some_iff.1 hla).1
        refine ⟨_, run_beginRound hla (by rw [hrec]), ?_⟩
        have hl2 : (Wa.putObj (w.heap.size) (.loop { rec .ready none with state := .busy })).heap[w.heap.size]? = some (.loop { rec .ready none with state := .busy }) := World.putObj_heap_same hlt
        refine wpIn_mono (hbody _ (Steps.putObj (own := fun k => k = w.heap.size) Wa rfl _) (steps_putObj_size _ _ _) ⟨_, hl2⟩) ?_
        have fin : ∀ (jump : Option Code) (W3 : World), (∀ k, two own k → W3.heap[k]? = (Wa.putObj (w.heap.size) (.loop { rec .ready none with state := .busy })).heap[k]?) →
            (Instr.endRound (w.heap.size) jump).run P W3 = .ok (.bool jump.isNone) (W3.putObj (w.heap.size) (.loop (rec (if jump.isNone then .ready else .done) jump))) ∧
            w.heap.size < W3.heap.size ∧
            (W3.putObj (w.heap.size) (.loop (rec (if jump.isNone then .ready else .done) jump))).heap[w.heap.size]? = some (.loop (rec (if jump.isNone then .ready else .done) jump)) := fun jump W3 hk3 => by
          have hl3 := (hk3 _ (by rw [htwo]; exact .inr (.inr rfl))).trans hl2
          have hlt3 := (Array.getElem?_eq_some_iff.1 hl3).1
          have := run_endRound (P := P) jump hl3
          rw [hrec] at this ⊢
          exact ⟨this, hlt3, World.putObj_heap_same hlt3⟩
        have own2 : ∀ k, own k → two own k ∧ k ≠ w.heap.size := fun k h => ⟨by rw [htwo]; exact .inl h, by have := hown k h; omega⟩
        have ipo : ∀ (s : List α) (W3 : World) (o : Obj), I (two own) s W3 → I (two own) s (W3.putObj (w.heap.size) o) := fun s W3 o h =>
          hI _ _ _ _ _ h (Steps.putObj (own := two own) _ (by rw [htwo]; exact .inr (.inr rfl)) _) (fun k h => .inl h)
        have ipx : ∀ (c : Code) (s : List α) (W3 : World) (o : Obj), Ix c (two own) s W3 → Ix c (two own) s (W3.putObj (w.heap.size) o) := fun c s W3 o h =>
          hIx c _ _ _ _ _ h (Steps.putObj (own := two own) _ (by rw [htwo]; exact .inr (.inr rfl)) _) (fun k h => .inl h)
        rintro e a3 W3 hp
        cases e with
        | normal =>
          obtain ⟨hk3, hsz3, hkp3, hi3⟩ := hp
          obtain ⟨hr, hl3, hl4⟩ := fin none W3 hk3
          exact ⟨_, _, hr, hKt hkp3 (hKb _ _ (by omega) (Steps.putObj (own := fun k => w.heap.size ≤ k) _ (by show w.heap.size ≤ w.heap.size; omega) _)), (by simp only [steps_putObj_size] at hsz3 ⊢; omega), (fun k h => by
            obtain ⟨h2, hne⟩ := own2 k h
            exact (World.putObj_heap_other hne).trans ((hk3 k h2).trans ((World.putObj_heap_other hne).trans (hkeep k h2)))), .inl ⟨rfl, ipo _ _ _ hi3, hown, by simp; omega, hl4⟩⟩
        | ret =>
          obtain ⟨hk3, hsz3, hkp3, hi3⟩ := hp
          obtain ⟨hr, hl3, hl4⟩ := fin (some .ret) W3 hk3
          exact ⟨_, _, hr, hKt hkp3 (hKb _ _ (by omega) (Steps.putObj (own := fun k => w.heap.size ≤ k) _ (by show w.heap.size ≤ w.heap.size; omega) _)), (by simp only [steps_putObj_size] at hsz3 ⊢; omega), (fun k h => by
            obtain ⟨h2, hne⟩ := own2 k h
            exact (World.putObj_heap_other hne).trans ((hk3 k h2).trans ((World.putObj_heap_other hne).trans (hkeep k h2)))), .inr ⟨rfl, .ret, ipx _ _ _ _ hi3, hown, by simp; omega, hl4⟩⟩
        | exit id =>
          obtain ⟨hk3, hsz3, hkp3, hi3⟩ := hp
          obtain ⟨hr, hl3, hl4⟩ := fin (some (.exit id)) W3 hk3
          exact ⟨_, _, hr, hKt hkp3 (hKb _ _ (by omega) (Steps.putObj (own := fun k => w.heap.size ≤ k) _ (by show w.heap.size ≤ w.heap.size; omega) _)), (by simp only [steps_putObj_size] at hsz3 ⊢; omega), (fun k h => by
            obtain ⟨h2, hne⟩ := own2 k h
            exact (World.putObj_heap_other hne).trans ((hk3 k h2).trans ((World.putObj_heap_other hne).trans (hkeep k h2)))), .inr ⟨rfl, .exit id, ipx _ _ _ _ hi3, hown, by simp; omega, hl4⟩⟩
        | goto t =>
          obtain ⟨hk3, hsz3, hkp3, hi3⟩ := hp
          obtain ⟨hr, hl3, hl4⟩ := fin (some (.goto t)) W3 hk3
          exact ⟨_, _, hr, hKt hkp3 (hKb _ _ (by omega) (Steps.putObj (own := fun k => w.heap.size ≤ k) _ (by show w.heap.size ≤ w.heap.size; omega) _)), (by simp only [steps_putObj_size] at hsz3 ⊢; omega), (fun k h => by
            obtain ⟨h2, hne⟩ := own2 k h
            exact (World.putObj_heap_other hne).trans ((hk3 k h2).trans ((World.putObj_heap_other hne).trans (hkeep k h2)))), .inr ⟨rfl, .goto t, ipx _ _ _ _ hi3, hown, by simp; omega, hl4⟩⟩
        | panic ch => exact hp.elim
        | outgrown => exact hp.elim
      | exit id => exact hp.elim
      | goto t => exact hp.elim
      | ret => exact hp.elim
      | panic ch => exact hp.elim
      | outgrown => exact hp.elim
    · -- behind the iterator
      have ipo : ∀ (own : Nat → Prop) (s : List α) (W3 : World) (o : Obj), I (two own) s W3 → I (two own) s (W3.putObj (w.heap.size) o) := fun own s W3 o h =>
        hI _ _ _ _ _ h (Steps.putObj (own := two own) _ (by rw [htwo]; exact .inr (.inr rfl)) _) (fun k h => .inl h)
      have ipx : ∀ (c : Code) (own : Nat → Prop) (s : List α) (W3 : World) (o : Obj), Ix c (two own) s W3 → Ix c (two own) s (W3.putObj (w.heap.size) o) := fun c own s W3 o h =>
        hIx c _ _ _ _ _ h (Steps.putObj (own := two own) _ (by rw [htwo]; exact .inr (.inr rfl)) _) (fun k h => .inl h)
      rintro e W2 ⟨⟨v, rfl⟩, (⟨own, hi, hown, hsz, hl⟩ | ⟨own, pre, hSp, c, hi, hown, hsz, hl⟩)⟩
      · exact ⟨none, _, by have := run_endLoop (P := P) hl (by rw [hrec]; simp); rw [hrec] at this; exact this, hdone (two own) _ (ipo _ _ _ _ hi)⟩
      · exact ⟨some c, _, by have := run_endLoop (P := P) hl (by rw [hrec]; simp); rw [hrec] at this; exact this, hstop c (two own) pre _ hSp (ipx _ _ _ _ _ hi)⟩

end
end Go.Proofs.Ytacioedolmaofaa
