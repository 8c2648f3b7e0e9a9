/- Package border: gathering of all joinings with all shifts. -/
import Derived.Test.YtjkegmjjhdmkiaaC7
namespace Go.Proofs.Ytjkegmjjhdmkiaa
open Go.RowKit Go.Shelf
attribute [local go_sem] Oper.semAt_some
set_option maxHeartbeats 1600000
set_option maxRecDepth 100000
set_option linter.unusedSimpArgs false

theorem marks_panic {P : Program} {fn : Func} {R : Ending → World → Prop} {tmps : Array Value} {W : World} {D : Nat} {c : List PanicEntry} (hK : W.heap[D]? = some (.deferred (some [])))
    (hr : ∀ X, Steps (fun k => k = D) W X → X.heap.size = W.heap.size → R (.panicked c) X) : bodyPostM Fence.wide 0 P fn R (.panic c) { tmps, defers := [{ target := .collected D, args := #[] }] } W := by
  have h1 := hr _ (Steps.putObj (own := fun k => k = D) W rfl (.deferred none)) (by simp)
  exact ⟨by simp, .inl ⟨_, _, rfl, run_takeDeferred hK, h1⟩⟩

abbrev Joined := (Int × Int) × List Int
def withShift (s : Int × Int) (l : List (List Int)) : List Joined := l.map fun x => (s, x)
def joinedOf (b : Bo) (f s : Nat) (l : List (Int × Int)) : List Joined := l.flatMap fun x => withShift x (bJoins b f s x)
/-- All joinings with all shifts. -/
def allOf (b : Bo) (f s : Nat) : List Joined := joinedOf b f s (shiftsOf b)

/-- The contract of something that gathers. -/
structure Adder (F g r : Nat) (b : Bo) (f s N : Nat) (A : (Nat → Prop) → List Joined → World → Prop) : Prop where
  bides : Bides A
  known : ∀ own s U C, A own s U → Steps (fun k => k = r) U C → A own s C
  add : ∀ own pre z x q cap W, A own pre W → z ∈ shiftsOf b → x ∈ bJoins b f s z → N ≤ q → ¬ own q → q ≠ g → q ≠ r → q < W.heap.size → IntsAt W q x → (∀ k, own k → k < W.heap.size) →
    Calls Try.prog F #[.pointer (some ⟨g, 0, none⟩), shV z, .slice (some ⟨q, 0, none⟩) x.length cap] W fun e W' => e = .returned (.tuple #[]) ∧ Steps (fun k => k = g) W W' ∧ A own (pre ++ [(z, x)]) W'

def GatherPost (b : Bo) (f s r g : Nat) (A : (Nat → Prop) → List Joined → World → Prop) (w : World) (e : Ending) (w' : World) : Prop :=
  Steps (fun k => k = r ∨ k = g) w w' ∧ KnownOk w' r b ∧ ((allOf b f s ≠ [] ∧ e = .returned (.tuple #[]) ∧ A (fun _ => False) (allOf b f s) w') ∨ (allOf b f s = [] ∧ e = .panicked (failed 4)))

theorem joinedOf_snoc (b : Bo) (f s : Nat) (l : List (Int × Int)) (x : Int × Int) : joinedOf b f s (l ++ [x]) = joinedOf b f s l ++ withShift x (bJoins b f s x) := by simp [joinedOf]
theorem withShift_snoc (s : Int × Int) (l : List (List Int)) (x : List Int) : withShift s (l ++ [x]) = withShift s l ++ [(s, x)] := by simp [withShift]

/-- What holds between two rounds of the outer loop. -/
structure GaI (b : Bo) (f s r g bF : Nat) (A : (Nat → Prop) → List Joined → World → Prop) (W0 : World) (own : Nat → Prop) (pre : List (Int × Int)) (W : World) : Prop where
  a : A (fun k => k = bF ∨ own k) (joinedOf b f s pre) W
  o : ∀ k, own k → W0.heap.size ≤ k ∧ k < W.heap.size
  st : Steps (fun k => k = r ∨ k = g ∨ k = bF ∨ W0.heap.size ≤ k) W0 W
  k : KnownOk W r b
  fd : Boxed W bF 4 (.bool (!(joinedOf b f s pre).isEmpty))

theorem GaI.bides {b : Bo} {f s r g bF : Nat} {A : (Nat → Prop) → List Joined → World → Prop} {W0 : World} (hA : Bides A) (hr : r < W0.heap.size) (hF : bF < W0.heap.size) : Bides (GaI b f s r g bF A W0) := by
  rintro own own' x U C ⟨h1, h2, h3, h4, h5⟩ hs ho
  refine ⟨hA _ _ _ _ _ h1 (hs.mono (fun _ _ h => .inr h)) (fun k hk => by rcases hk with h | h; exact .inl (.inl h); rcases ho k h with h | h; exact .inl (.inr h); exact .inr h), fun k hk => ?_, h3.trans hs (fun k _ hk => .inr (.inr (.inr (h2 k hk).1))), h4.steps hs (fun h => by have := h2 _ h; omega), hs.obj (fun h => by have := h2 _ h; omega) h5⟩
  have := hs.size
  have := h3.size
  rcases ho k hk with h | h
  · have := h2 k h; omega
  · omega

/-- What holds between two rounds of the inner loop, begun in Wi: own0 is others' all the while. -/
structure GaN (b : Bo) (f s g bF : Nat) (A : (Nat → Prop) → List Joined → World → Prop) (Wi : World) (own0 : Nat → Prop) (out : List Joined) (x : Int × Int) (own : Nat → Prop) (pre : List (List Int)) (W : World) : Prop where
  a : A (fun k => own0 k ∨ own k) (out ++ withShift x pre) W
  o : ∀ k, own k → Wi.heap.size ≤ k ∧ k < W.heap.size
  st : Steps (fun k => k = g ∨ k = bF ∨ Wi.heap.size ≤ k) Wi W
  fd : Boxed W bF 4 (.bool (!(out ++ withShift x pre).isEmpty))

theorem GaN.bides {b : Bo} {f s g bF : Nat} {A : (Nat → Prop) → List Joined → World → Prop} {Wi : World} {own0 : Nat → Prop} {out : List Joined} {x : Int × Int} (hA : Bides A) (hF : bF < Wi.heap.size) : Bides (GaN b f s g bF A Wi own0 out x) := by
  rintro own own' y U C ⟨h1, h2, h3, h4⟩ hs ho
  refine ⟨hA _ _ _ _ _ h1 (hs.mono (fun _ _ h => .inr h)) (fun k hk => ?_), fun k hk => ?_, h3.trans hs (fun k _ hk => .inr (.inr (h2 k hk).1)), hs.obj (fun h => by have := h2 _ h; omega) h4⟩
  · rcases hk with h | h
    · exact .inl (.inl h)
    · rcases ho k h with h | h
      · exact .inl (.inr h)
      · exact .inr h
  · have := hs.size
    have := h3.size
    rcases ho k hk with h | h
    · have := h2 k h; omega
    · omega

/-- What a border's slices lie in: an older world. -/
structure Old (w00 w : World) (b : Bo) (fa sa : Option Addr) (g r : Nat) : Prop where
  f : EdSl w00 fa b.fs
  s : EdSl w00 sa b.ss
  below : Below w00.heap.size w00 w
  g : w00.heap.size ≤ g
  r : w00.heap.size ≤ r

theorem Old.brd {w00 w A C : World} {b : Bo} {fa sa : Option Addr} {g r p fc sc fset sset : Nat} (h : Old w00 w b fa sa g r) (hb : BrdAt A p b fa sa fc sc fset sset r) {own : Nat → Prop} (hs0 : Steps (fun _ => False) w A) (hs : Steps own A C)
    (ho : ∀ k, own k → w00.heap.size ≤ k) (hp : ¬ own p) : BrdAt C p b fa sa fc sc fset sset r := by
  have hk : KeepCells (fun k => k = p) A C := KeepCells.of_steps hs (fun k hk h => hp (hk ▸ h))
  have hbl : Below w00.heap.size w00 C := h.below.trans ((hs0.below h.below.size (fun _ _ h => h)).trans (hs.below (Nat.le_trans h.below.size hs0.size) (fun k hk hok => by have := ho k hok; omega)))
  exact ⟨⟨hk _ _ rfl hb.bo.c0, hk _ _ rfl hb.bo.c1, hk _ _ rfl hb.bo.c2, hk _ _ rfl hb.bo.c3, hk _ _ rfl hb.bo.c4, hk _ _ rfl hb.bo.c5⟩, hk _ _ rfl hb.c6, hk _ _ rfl hb.c7, hk _ _ rfl hb.c8, h.f.below hbl (Nat.le_refl _), h.s.below hbl (Nat.le_refl _)⟩

theorem gather_any (w00 : World) (T F g p : Nat) (b : Bo) (fa sa : Option Addr) (fc sc f s r : Nat) (A : (Nat → Prop) → List Joined → World → Prop) (w : World)
    (hTF : (T = 93 ∧ F = 110) ∨ (T = 101 ∧ F = 113) ∨ (T = 104 ∧ F = 114) ∨ (T = 109 ∧ F = 115))
    (h : BrdAt w p b fa sa fc sc f s r) (hk : KnownOk w r b) (hok : b.ok = true) (f6 : f < 2 ^ 6) (s6 : s < 2 ^ b.ss.length)
    (hA : Adder F g r b f s w.heap.size A) (h0 : A (fun _ => False) [] w) (hg : g < w.heap.size) (hgp : g ≠ p) (hgr : g ≠ r) (hold : Old w00 w b fa sa g r) :
    Calls Try.prog 52 #[.pointer (some ⟨p, 0, none⟩), .iface T (.pointer (some ⟨g, 0, none⟩))] w (GatherPost b f s r g A w) := by
  have hk0 := hk.lt
  have hpne := brd_ne h hk
  refine (callsIn_wide (n := 0)).1 ?_
  refine callsIn_of_wp_marks Try.func52 rfl trivial ?_ rfl
  simp only [Try.ntmps52, List.size_toArray, List.length_cons, List.length_nil, Nat.reduceAdd, Nat.reduceSub, Array.replicate_succ, Array.replicate_zero, List.push_toArray, List.append_toArray, List.nil_append, List.cons_append]
  gi_wp2_with (refine ⟨trivial, rfl, ?_⟩; gi_at_call 77; refine (callsIn_wide.2 (shifts_made p _)).mono ?_; rintro e W0 ⟨rfl, rfl⟩)
  obtain ⟨W0, hW0⟩ : ∃ W0, (((w.alloc (.cells #[.pointer (some ⟨p, 0, none⟩)] 69)).alloc (.cells #[.iface T (.pointer (some ⟨g, 0, none⟩))] 133)).alloc (.cells #[.bool false] 4)).alloc (.cells #[.pointer (some ⟨p, 0, none⟩)] 69) = W0 := ⟨_, rfl⟩
  rw [hW0]
  have hst0 : Steps (fun _ => False) w W0 := by
    rw [← hW0]
    exact (((Steps.alloc _ w _).trans (Steps.alloc (fun _ => False) _ _) (fun _ _ h => h)).trans (Steps.alloc (fun _ => False) _ _) (fun _ _ h => h)).trans (Steps.alloc (fun _ => False) _ _) (fun _ _ h => h)
  have hz0 : W0.heap.size = w.heap.size + 4 := by rw [← hW0]; simp
  have g0 : Boxed W0 w.heap.size 69 (.pointer (some ⟨p, 0, none⟩)) := by unfold Boxed; rw [← hW0]; simp only [alloc_get, World.size_alloc]; repeat (first | exact if_pos trivial | exact if_pos (by omega) | rw [if_neg (by omega)])
  have g1 : Boxed W0 (w.heap.size + 1) 133 (.iface T (.pointer (some ⟨g, 0, none⟩))) := by unfold Boxed; rw [← hW0]; simp only [alloc_get, World.size_alloc]; repeat (first | exact if_pos trivial | exact if_pos (by omega) | rw [if_neg (by omega)])
  have g2 : Boxed W0 (w.heap.size + 2) 4 (.bool false) := by unfold Boxed; rw [← hW0]; simp only [alloc_get, World.size_alloc]; repeat (first | exact if_pos trivial | exact if_pos (by omega) | rw [if_neg (by omega)])
  have g3 : Boxed W0 (w.heap.size + 3) 69 (.pointer (some ⟨p, 0, none⟩)) := by unfold Boxed; rw [← hW0]; simp only [alloc_get, World.size_alloc]; repeat (first | exact if_pos trivial | exact if_pos (by omega) | rw [if_neg (by omega)])
  clear hW0
  have hbp : BrdAt W0 p b fa sa fc sc f s r := h.later (hst0.below (Nat.le_refl _) (fun _ _ h => h))
  have hkn : KnownOk W0 r b := hk.steps hst0 (fun h => h)
  have hpr : p < w.heap.size := World.block_lt_of_cell? w _ h.c6
  refine wpIn_range_own (α := Int × Int) (gf := 85) (lb := #[.pointer (some ⟨w.heap.size + 3, 0, none⟩)]) (L := shiftsOf b) (Enc := fun _ x vals _ => vals = #[shV x]) (Kp := ShKeep p (w.heap.size + 3))
    rfl (enters_of Try.func85 (by kernel_rfl) rfl) ?seq KeepCells.trans ?kb ?ps
    (GaI b f s r g (w.heap.size + 2) A W0) (fun _ _ _ _ => False) (GaI.bides hA.bides (by omega) (by omega)) (fun c own own' x A C h _ _ => h)
    ⟨hA.bides _ _ _ _ _ h0 hst0 (fun k h => by rcases h with h | h; exact .inr (by omega); exact h.elim), fun k h => h.elim, Steps.refl _ _, hkn, g2⟩ (fun _ _ _ _ _ _ h => h) ?round ?done (fun _ _ _ _ _ _ _ _ h => h.elim)
  case seq =>
    intro W1 hs hz
    exact shifts_seq p (w.heap.size + 3) b fa sa fc sc W1 hok (hbp.later (hs.below (Nat.le_refl _) (fun _ _ h => h))).bo (KeepCells.of_steps (bs := fun _ => True) hs (fun _ _ h => h) _ _ trivial g3.cell)
  case kb =>
    intro A C hA hs
    exact KeepCells.of_steps hs (fun k hk h => by omega)
  case ps => rintro own x vals W rfl; rfl
  case done =>
    rintro D own W hD hoD ⟨ha, hown, hsW, hkW, hfd⟩ hK
    have hXc := hfd.cell
    have hsz := hsW.size
    have hrl := hkW.lt
    have hallS : Steps (fun k => k = r ∨ k = g) w W := (hst0.mono (own' := fun k => k = r ∨ k = g) (fun _ _ h => h.elim)).trans (hsW.mono (own' := fun k => k = r ∨ k = g ∨ w.heap.size ≤ k) (fun k _ h => by omega)) (fun k hk h => by omega)
    have hpost : ∀ X, Steps (fun k => k = D) W X → Steps (fun k => k = r ∨ k = g) w X ∧ KnownOk X r b ∧ A (fun _ => False) (joinedOf b f s (shiftsOf b)) X := fun X hX =>
      ⟨hallS.trans hX (fun k hk (h : k = D) => by omega), hkW.steps hX (fun (h : r = D) => by omega), hA.bides _ _ _ _ _ ha (hX.mono (fun k _ h => .inr (h ▸ hoD))) (fun k h => h.elim)⟩
    by_cases hne : joinedOf b f s (shiftsOf b) = []
    · have hb : (!(joinedOf b f s (shiftsOf b)).isEmpty) = false := by rw [hne]; rfl
      rw [hb] at hXc
      gi_wp2_with (refine ⟨trivial, rfl, ?_⟩; gi_at_call 42; refine (callsIn_wide.2 (must_no 4 _)).mono ?_; rintro e W2 ⟨rfl, rfl⟩)
      refine marks_panic hK (fun X hX _ => ?_)
      obtain ⟨q1, q2, q3⟩ := hpost X hX
      exact ⟨q1, q2, .inr ⟨hne, rfl⟩⟩
    · have hb : (!(joinedOf b f s (shiftsOf b)).isEmpty) = true := by
        cases hj : joinedOf b f s (shiftsOf b) with
        | nil => exact absurd hj hne
        | cons _ _ => rfl
      rw [hb] at hXc
      gi_wp2_with (refine ⟨trivial, rfl, ?_⟩; gi_at_call 42; refine (callsIn_wide.2 (must_yes 4 _)).mono ?_; rintro e W2 ⟨rfl, rfl⟩)
      refine marks_end (v := .tuple #[]) hK (fun X hX _ => ?_)
      obtain ⟨q1, q2, q3⟩ := hpost X hX
      exact ⟨results_none rfl _ _ _, q1, q2, .inl ⟨hne, rfl, q3⟩⟩
  case round =>
    rintro l own pre x vals W hl hol hrec hpost ⟨ha, hown, hsW, hkW, hfd⟩ rfl
    unfold shV
    gi_wp2
    have hx := shifts_mem (b := b) (x := x) (by obtain ⟨post, hp⟩ := hpost; rw [hp]; simp)
    have hzW := hsW.size
    have hrl := hkW.lt
    have hlW := (Array.getElem?_eq_some_iff.1 hrec.choose_spec).1
    refine ⟨fun k hk => Below.heap_alloc _ _ _ (hown k hk).2, by simp, fun W2 h2 hz2 hl2 => ?_⟩
    have hal := (Steps.alloc (fun k => k = l) W (.cells #[.int .i64 x.1, .int .i64 x.2] 72)).trans h2 (fun _ _ h => h)
    have e0 : W2.heap[W.heap.size]? = some (.cells #[.int .i64 x.1, .int .i64 x.2] 72) := (h2.block W.heap.size (by simp) (by omega)).trans (obj_new _ _)
    have e00 := cell_block e0 0
    have e01 := cell_block e0 1
    simp only [List.getElem?_toArray, List.getElem?_cons_zero, List.getElem?_cons_succ] at e00 e01
    have hsW2 : Steps (fun k => k = r ∨ k = g ∨ k = w.heap.size + 2 ∨ W0.heap.size ≤ k) W0 W2 := hsW.trans hal (fun k _ h => by omega)
    have i0 : Boxed W2 w.heap.size 69 (.pointer (some ⟨p, 0, none⟩)) := hsW2.obj (by omega) g0
    have i0c := i0.cell
    have hw00 := hold.below.size
    have hbW : BrdAt W2 p b fa sa fc sc f s r := hold.brd hbp hst0 hsW2 (fun k h => by have := hold.g; have := hold.r; omega) (by omega)
    have hj := joinings_made p b fa sa fc sc f s r x W2 hbW (hkW.steps hal (by omega)) hok hx
    gi_wp2_with (refine ⟨trivial, rfl, ?_⟩; gi_at_call 50; refine (CallsIn.inRound l (callsIn_wide.2 hj)).mono ?_; rintro e Wi ⟨B2, B5, rfl, hjm, hB2, hB5, hs3, hk3⟩)
    obtain ⟨rec, hrec2⟩ := hl2
    have hlr : l ≠ r := fun e => by
      obtain ⟨es, clk, hm, _⟩ := hkW
      rw [← e, hrec.choose_spec] at hm
      cases hm
    have hri : Wi.heap[l]? = some (.loop rec) := hs3.obj hlr hrec2
    have hzi := hs3.size
    have hza : W.heap.size < W2.heap.size := by rw [hz2]; simp
    have hsWi : Steps (fun k => k = r ∨ k = g ∨ k = w.heap.size + 2 ∨ W0.heap.size ≤ k) W0 Wi := hsW2.trans hs3 (fun k _ h => .inl h)
    have hbi : BrdAt Wi p b fa sa fc sc f s r := hold.brd hbp hst0 hsWi (fun k h => by have := hold.g; have := hold.r; omega) (by omega)
    have haWi : A (fun k => k = w.heap.size + 2 ∨ own k) (joinedOf b f s pre) Wi := hA.known _ _ _ _ (hA.bides _ _ _ _ _ ha (hal.mono (fun k _ h => .inr (h ▸ hol))) (fun k h => .inl h)) hs3
    refine wpIn_range_ownN (α := List Int) (l₀ := l) (r₀ := rec) hri (gf := 73) (lb := #[.pointer (some ⟨B2, 0, none⟩), .pointer (some ⟨B5, 0, none⟩)]) (L := bJoins b f s x) (Enc := JoinEnc (Wi.heap.size + 1)) (Kp := KeepCells (fun k => k = p ∨ k = B2 ∨ k = B5))
      rfl (enters_of Try.func73 (by kernel_rfl) rfl) ?seq2 KeepCells.trans ?kb2 ?ps2
      (GaN b f s g (w.heap.size + 2) A Wi (fun k => k = w.heap.size + 2 ∨ own k) (joinedOf b f s pre) x) (fun _ _ _ _ => False) (GaN.bides hA.bides (by omega)) (fun c own own' x A C h _ _ => h)
      ⟨?na, fun k h => h.elim, Steps.refl _ _, ?nf⟩ ?enc2 ?round2 ?done2 (fun _ _ _ _ _ h => h.elim)
    case seq2 =>
      intro W1 hs hz
      exact joinings_iter (hbi.later (hs.below (Nat.le_refl _) (fun _ _ h => h))) (hjm.keep (KeepCells.of_steps hs (fun _ _ h => h))) hok f6 s6 (by omega)
    case kb2 =>
      intro U C hU hs
      exact KeepCells.of_steps hs (fun k hk h => by
        have h2 := World.block_lt_of_cell? Wi _ hjm.c2
        have h3 := World.block_lt_of_cell? Wi _ (hjm.c5 0 (by omega))
        dsimp only at h2 h3
        omega)
    case ps2 => rintro own x vals W ⟨q, cap, rfl, _⟩; rfl
    case na => simpa [withShift] using haWi
    case nf =>
      have : Boxed Wi (w.heap.size + 2) 4 (.bool (!(joinedOf b f s pre).isEmpty)) := hs3.obj (by omega) (hal.obj (by omega) hfd)
      simpa [withShift] using this
    case enc2 => exact fun own own' x vals W hw h => joinEnc_wider (fun k hk => by rcases hw k hk with h | h | h; exact .inl h; exact .inr (by omega); exact .inr (by omega)) h
    case done2 =>
      rintro own2 W4 ⟨ha4, ho4, hs4, hf4⟩
      gi_wp2
      have hz4 := hs4.size
      have hkeep : ∀ k, own k → W4.heap[k]? = W2.heap[k]? := fun k hk => by
        have := hown k hk
        have h1 := hs3.block k (by omega) (fun e => by omega)
        have h2 := hs4.block k (by omega) (fun e => by rcases e with e | e | e <;> omega)
        exact h2.trans h1
      have hall : Steps (fun k => k = r ∨ k = g ∨ k = w.heap.size + 2 ∨ W0.heap.size ≤ k) W0 W4 := hsWi.trans hs4 (fun k _ h => by omega)
      refine ⟨hkeep, by omega, ?_, ?_, fun k hk => ⟨(hown k hk).1, by have := (hown k hk).2; omega⟩, hall, hk3.steps hs4 (by omega), ?_⟩
      · exact ((KeepCells.of_steps hal (fun k (hk : k = p ∨ k = w.heap.size + 3) (h : k = l) => by omega)).trans (KeepCells.of_steps hs3 (fun k (hk : k = p ∨ k = w.heap.size + 3) (h : k = r) => by omega))).trans
          (KeepCells.of_steps hs4 (fun k (hk : k = p ∨ k = w.heap.size + 3) h => by omega))
      · rw [joinedOf_snoc]
        exact hA.bides _ (fun k => k = w.heap.size + 2 ∨ own k) _ _ _ ha4 (Steps.refl _ _) (fun k h => .inl (.inl h))
      · rw [joinedOf_snoc]; exact hf4
    case round2 =>
      rintro l2 own2 pre2 y vals W4 hl2 hol2 hrec4 hpost2 ⟨ha4, ho4, hs4, hf4⟩ hen
      obtain ⟨q, cap, rfl, hq0, hqn, hql, hqi⟩ := hen
      gi_wp2
      refine ⟨fun _ _ => trivial, Nat.le_refl _, fun W5 h5 hz5 hl5 => ?_⟩
      have hz4 := hs4.size
      have hl4 := (Array.getElem?_eq_some_iff.1 hrec4.choose_spec).1
      have hs5 : Steps (fun k => k = g ∨ k = w.heap.size + 2 ∨ Wi.heap.size ≤ k) Wi W5 := hs4.trans h5 (fun k _ (h : k = l2) => .inr (.inr (by omega)))
      have j1 : Boxed W5 (w.heap.size + 1) 133 (.iface T (.pointer (some ⟨g, 0, none⟩))) := hs5.obj (by omega) (hsWi.obj (by omega) g1)
      have j1c := j1.cell
      have j2 : W5.heap[W.heap.size]? = some (.cells #[.int .i64 x.1, .int .i64 x.2] 72) := hs5.obj (by omega) (hs3.obj (by omega) e0)
      have j20 := cell_block j2 0
      have j21 := cell_block j2 1
      simp only [List.getElem?_toArray, List.getElem?_cons_zero, List.getElem?_cons_succ] at j20 j21
      have a5 : A (fun k => (k = w.heap.size + 2 ∨ own k) ∨ own2 k) (joinedOf b f s pre ++ withShift x pre2) W5 := hA.bides _ _ _ _ _ ha4 (h5.mono (fun k _ h => .inr (h ▸ hol2))) (fun k h => .inl h)
      have hsz5 : W5.heap.size = W4.heap.size := hz5
      have hadd := hA.add (fun k => (k = w.heap.size + 2 ∨ own k) ∨ own2 k) _ x y q cap W5 a5 (by obtain ⟨post, hp⟩ := hpost; rw [hp]; simp) (by obtain ⟨post, hp⟩ := hpost2; rw [hp]; simp) (by omega) (fun h => by rcases h with (h | h) | h; omega; have := (hown q h).2; omega; exact hqn h) (by omega) (by omega) (by omega)
        (hqi.later (h5.block q hql (fun e => hqn (e ▸ hol2)))) (fun k hk => by rcases hk with (h | h) | h; omega; have := (hown k h).2; omega; have := (ho4 k h).2; omega)
      unfold shV at hadd
      have j3 : Boxed W5 (w.heap.size + 2) 4 (.bool (!(joinedOf b f s pre ++ withShift x pre2).isEmpty)) := h5.obj (by omega) hf4
      have fin : ∀ W6, Steps (fun k => k = g) W5 W6 → A (fun k => (k = w.heap.size + 2 ∨ own k) ∨ own2 k) (joinedOf b f s pre ++ withShift x pre2 ++ [(x, y)]) W6 →
          (∀ k, own2 k → (W6.setCell ⟨w.heap.size + 2, 0, none⟩ (.bool true)).heap[k]? = W5.heap[k]?) ∧ W5.heap.size ≤ (W6.setCell ⟨w.heap.size + 2, 0, none⟩ (.bool true)).heap.size ∧
          KeepCells (fun k => k = p ∨ k = B2 ∨ k = B5) W4 (W6.setCell ⟨w.heap.size + 2, 0, none⟩ (.bool true)) ∧
          GaN b f s g (w.heap.size + 2) A Wi (fun k => k = w.heap.size + 2 ∨ own k) (joinedOf b f s pre) x own2 (pre2 ++ [y]) (W6.setCell ⟨w.heap.size + 2, 0, none⟩ (.bool true)) := fun W6 h6 a6 => by
        have hst := Steps.setCell (own := fun k => k = w.heap.size + 2) W6 (p := ⟨w.heap.size + 2, 0, none⟩) rfl (.bool true)
        have hB2 := World.block_lt_of_cell? Wi _ hjm.c2
        have hB5 := World.block_lt_of_cell? Wi _ (hjm.c5 0 (by omega))
        dsimp only at hB2 hB5
        have h6z := h6.size
        have hal6 : Steps (fun k => k = g ∨ k = w.heap.size + 2 ∨ Wi.heap.size ≤ k) Wi (W6.setCell ⟨w.heap.size + 2, 0, none⟩ (.bool true)) :=
          hs5.trans ((h6.mono (own' := fun k => k = g ∨ k = w.heap.size + 2) (fun _ _ h => .inl h)).trans hst (fun _ _ h => .inr h)) (fun k _ h => by rcases h with h | h; exact .inl h; exact .inr (.inl h))
        refine ⟨fun k hk => ?_, Nat.le_trans h6z hst.size, ?_, ?_, fun k hk => ⟨(ho4 k hk).1, ?_⟩, hal6, ?_⟩
        · have hk4 := ho4 k hk
          exact (hst.block k (by omega) (by omega)).trans (h6.block k (by omega) (by omega))
        · exact ((KeepCells.of_steps h5 (fun k (hk : k = p ∨ k = B2 ∨ k = B5) (h : k = l2) => by omega)).trans (KeepCells.of_steps h6 (fun k (hk : k = p ∨ k = B2 ∨ k = B5) (h : k = g) => by omega))).trans
            (KeepCells.of_steps hst (fun k (hk : k = p ∨ k = B2 ∨ k = B5) (h : k = w.heap.size + 2) => by omega))
        · rw [withShift_snoc, ← List.append_assoc]
          exact hA.bides _ _ _ _ _ a6 (hst.mono (fun _ _ h => .inl (.inl h))) (fun k h => .inl h)
        · have := (ho4 k hk).2
          exact Nat.lt_of_lt_of_le (by omega) (Nat.le_trans h6z hst.size)
        · have j4 : Boxed W6 (w.heap.size + 2) 4 (.bool (!(joinedOf b f s pre ++ withShift x pre2).isEmpty)) := h6.obj (by omega) j3
          have := j4.set (.bool true)
          rw [withShift_snoc, ← List.append_assoc]
          have he : (!((joinedOf b f s pre ++ withShift x pre2) ++ [(x, y)]).isEmpty) = true := by simp
          rw [he]
          exact this
      have hfd6 : ∀ W6, Steps (fun k => k = g) W5 W6 → W6.cell? ⟨w.heap.size + 2, 0, none⟩ = some (.bool (!(joinedOf b f s pre ++ withShift x pre2).isEmpty)) ∧ W6.frozen? ⟨w.heap.size + 2, 0, none⟩ = false := fun W6 h6 => by
        have j4 : Boxed W6 (w.heap.size + 2) 4 (.bool (!(joinedOf b f s pre ++ withShift x pre2).isEmpty)) := h6.obj (by omega) j3
        exact ⟨j4.cell, j4.frozen⟩
      rcases hTF with ⟨rfl, rfl⟩ | ⟨rfl, rfl⟩ | ⟨rfl, rfl⟩ | ⟨rfl, rfl⟩
      · have hm : ∀ w, (method 272 93 (.pointer (some ⟨g, 0, none⟩)) "zoneworks/border.add").run Try.prog w = .ok (110, .pointer (some ⟨g, 0, none⟩)) w := fun _ => by kernel_rfl
        gi_wp2_with (refine ⟨trivial, rfl, ?_⟩; gi_at_call 110; refine (CallsIn.inRound l2 (callsIn_wide.2 hadd)).mono ?_; rintro e W6 ⟨rfl, h6, a6⟩; obtain ⟨j4c, j4f⟩ := hfd6 W6 h6)
        exact fin W6 h6 a6
      · have hm : ∀ w, (method 272 101 (.pointer (some ⟨g, 0, none⟩)) "zoneworks/border.add").run Try.prog w = .ok (113, .pointer (some ⟨g, 0, none⟩)) w := fun _ => by kernel_rfl
        gi_wp2_with (refine ⟨trivial, rfl, ?_⟩; gi_at_call 113; refine (CallsIn.inRound l2 (callsIn_wide.2 hadd)).mono ?_; rintro e W6 ⟨rfl, h6, a6⟩; obtain ⟨j4c, j4f⟩ := hfd6 W6 h6)
        exact fin W6 h6 a6
      · have hm : ∀ w, (method 272 104 (.pointer (some ⟨g, 0, none⟩)) "zoneworks/border.add").run Try.prog w = .ok (114, .pointer (some ⟨g, 0, none⟩)) w := fun _ => by kernel_rfl
        gi_wp2_with (refine ⟨trivial, rfl, ?_⟩; gi_at_call 114; refine (CallsIn.inRound l2 (callsIn_wide.2 hadd)).mono ?_; rintro e W6 ⟨rfl, h6, a6⟩; obtain ⟨j4c, j4f⟩ := hfd6 W6 h6)
        exact fin W6 h6 a6
      · have hm : ∀ w, (method 272 109 (.pointer (some ⟨g, 0, none⟩)) "zoneworks/border.add").run Try.prog w = .ok (115, .pointer (some ⟨g, 0, none⟩)) w := fun _ => by kernel_rfl
        gi_wp2_with (refine ⟨trivial, rfl, ?_⟩; gi_at_call 115; refine (CallsIn.inRound l2 (callsIn_wide.2 hadd)).mono ?_; rintro e W6 ⟨rfl, h6, a6⟩; obtain ⟨j4c, j4f⟩ := hfd6 W6 h6)
        exact fin W6 h6 a6
end Go.Proofs.Ytjkegmjjhdmkiaa
