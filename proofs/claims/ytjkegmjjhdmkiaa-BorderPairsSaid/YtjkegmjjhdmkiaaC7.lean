/- Package border: whether some shift is possible. -/
import Derived.Test.YtjkegmjjhdmkiaaC6
namespace Go.Proofs.Ytjkegmjjhdmkiaa
open Go.RowKit Go.Shelf
attribute [local go_sem] Oper.semAt_some
set_option maxHeartbeats 1600000
set_option maxRecDepth 100000
set_option linter.unusedSimpArgs false

theorem shifts_mem {b : Bo} {x : Int × Int} (h : x ∈ shiftsOf b) : b.shift x = true := by
  unfold shiftsOf shiftsTo at h
  rw [List.mem_flatMap] at h
  obtain ⟨i, hi, h⟩ := h
  unfold shiftRow at h
  rw [List.mem_map] at h
  obtain ⟨j, hj, rfl⟩ := h
  rw [List.mem_range] at hi hj
  unfold eastN at hi
  unfold northN at hj
  simp only [Bo.shift, Sp.has, Bool.and_eq_true, decide_eq_true_eq]
  omega

theorem alloc_get (w : World) (o : Obj) (k : Nat) : (w.alloc o).heap[k]? = if k = w.heap.size then some o else w.heap[k]? := by
  show (w.heap.push o)[k]? = _
  rw [Array.getElem?_push]

theorem brd_ne {w : World} {p r : Nat} {b : Bo} {fa sa : Option Addr} {fc sc fset sset : Nat} (h : BrdAt w p b fa sa fc sc fset sset r) (hk : KnownOk w r b) : p ≠ r := by
  obtain ⟨es, clk, h1, _⟩ := hk
  have h2 := h.c6
  intro e
  unfold World.cell? at h2
  rw [e, h1] at h2
  simp at h2

def bCan (b : Bo) (f s : Nat) : Bool := (shiftsOf b).any fun x => !(bJoins b f s x).isEmpty

def CanPost (b : Bo) (f s r : Nat) (w : World) (e : Ending) (w' : World) : Prop := e = .returned (.bool (bCan b f s)) ∧ Steps (fun k => k = r) w w' ∧ KnownOk w' r b

theorem can_any (p : Nat) (b : Bo) (fa sa : Option Addr) (fc sc fset sset r f s : Nat) (w : World) (h : BrdAt w p b fa sa fc sc fset sset r)
    (hk : KnownOk w r b) (hok : b.ok = true) (f6 : f < 2 ^ 6) (s6 : s < 2 ^ b.ss.length) :
    Calls Try.prog 57 #[.pointer (some ⟨p, 0, none⟩), .int .u64 f, .int .u64 s] w (CanPost b f s r w) := by
  have hk0 := hk.lt
  have hpne := brd_ne h hk
  obtain ⟨⟨c0, c1, c2, c3, c4, c5⟩, c6, c7, c8, hf, hs⟩ := h.later (below_alloc w (.cells #[.bool false] 4))
  refine (callsIn_wide (n := 0)).1 ?_
  refine callsIn_of_wp_marks Try.func57 rfl trivial ?_ rfl
  simp only [Try.ntmps57, List.size_toArray, List.length_cons, List.length_nil, Nat.reduceAdd, Nat.reduceSub, Array.replicate_succ, Array.replicate_zero, List.push_toArray, List.append_toArray, List.nil_append, List.cons_append]
  gi_wp2_with (refine ⟨trivial, rfl, ?_⟩; gi_at_call 77; refine (callsIn_wide.2 (shifts_made p _)).mono ?_; rintro e W0 ⟨rfl, rfl⟩)
  obtain ⟨W0, hW0⟩ : ∃ W0, (((w.alloc (.cells #[.bool false] 4)).alloc (.cells #[.int .i64 b.e.lo, .int .i64 b.e.hi, .int .i64 b.n.lo, .int .i64 b.n.hi, .slice fa b.fs.length fc, .slice sa b.ss.length sc, .int .u64 f, .int .u64 s, .map (some r)] 113)).alloc
    (.cells #[.func (.func 78) #[.pointer (some ⟨w.heap.size + 1, 0, none⟩)] #[]] 75)).alloc (.cells #[.pointer (some ⟨p, 0, none⟩)] 69) = W0 := ⟨_, rfl⟩
  rw [hW0]
  have hst0 : Steps (fun _ => False) w W0 := by
    rw [← hW0]
    exact (((Steps.alloc _ w _).trans (Steps.alloc (fun _ => False) _ _) (fun _ _ h => h)).trans (Steps.alloc (fun _ => False) _ _) (fun _ _ h => h)).trans (Steps.alloc (fun _ => False) _ _) (fun _ _ h => h)
  have hz0 : W0.heap.size = w.heap.size + 4 := by rw [← hW0]; simp
  have g0 : Boxed W0 w.heap.size 4 (.bool false) := by unfold Boxed; rw [← hW0]; simp only [alloc_get, World.size_alloc]; repeat (first | exact if_pos trivial | exact if_pos (by omega) | rw [if_neg (by omega)])
  have g1 : W0.heap[w.heap.size + 1]? = some (.cells #[.int .i64 b.e.lo, .int .i64 b.e.hi, .int .i64 b.n.lo, .int .i64 b.n.hi, .slice fa b.fs.length fc, .slice sa b.ss.length sc, .int .u64 f, .int .u64 s, .map (some r)] 113) := by rw [← hW0]; simp only [alloc_get, World.size_alloc]; repeat (first | exact if_pos trivial | exact if_pos (by omega) | rw [if_neg (by omega)])
  have g2 : Boxed W0 (w.heap.size + 2) 75 (.func (.func 78) #[.pointer (some ⟨w.heap.size + 1, 0, none⟩)] #[]) := by unfold Boxed; rw [← hW0]; simp only [alloc_get, World.size_alloc]; repeat (first | exact if_pos trivial | exact if_pos (by omega) | rw [if_neg (by omega)])
  have g3 : Boxed W0 (w.heap.size + 3) 69 (.pointer (some ⟨p, 0, none⟩)) := by unfold Boxed; rw [← hW0]; simp only [alloc_get, World.size_alloc]; repeat (first | exact if_pos trivial | exact if_pos (by omega) | rw [if_neg (by omega)])
  clear hW0
  have hbp : BrdAt W0 p b fa sa fc sc fset sset r := h.later (hst0.below (Nat.le_refl _) (fun _ _ h => h))
  have hbo : BrdAt W0 (w.heap.size + 1) b fa sa fc sc f s r := ⟨⟨cell_block g1 0, cell_block g1 1, cell_block g1 2, cell_block g1 3, cell_block g1 4, cell_block g1 5⟩, cell_block g1 6, cell_block g1 7, cell_block g1 8, hbp.f, hbp.s⟩
  have hkn : KnownOk W0 r b := hk.steps hst0 (fun h => h)
  have hpr : p < w.heap.size := World.block_lt_of_cell? w _ h.c6
  clear g1 c0 c1 c2 c3 c4 c5 c6 c7 c8 hf hs
  refine wpIn_range_own (α := Int × Int) (gf := 85) (lb := #[.pointer (some ⟨w.heap.size + 3, 0, none⟩)]) (L := shiftsOf b) (Enc := fun _ x vals _ => vals = #[shV x]) (Kp := ShKeep p (w.heap.size + 3))
    rfl (enters_of Try.func85 (by kernel_rfl) rfl) ?seq KeepCells.trans ?kb ?ps
    (fun own pre W => (∀ x ∈ pre, (bJoins b f s x).isEmpty = true) ∧ (∀ k, own k → W0.heap.size ≤ k ∧ k < W.heap.size) ∧ Steps (fun k => k = r ∨ W0.heap.size ≤ k) W0 W ∧ KnownOk W r b)
    (fun c own pre W => c = .ret ∧ (∃ x ∈ pre, (bJoins b f s x).isEmpty = false) ∧ (∀ k, own k → W0.heap.size ≤ k) ∧ Boxed W w.heap.size 4 (.bool true) ∧ Steps (fun k => k = r ∨ k = w.heap.size ∨ W0.heap.size ≤ k) W0 W ∧ KnownOk W r b)
    ?bi ?bix ⟨(fun _ h => by cases h), fun _ h => h.elim, Steps.refl _ _, hkn⟩ (fun _ _ _ _ _ _ h => h) ?round ?done ?stop
  case seq =>
    intro W1 hs hz
    exact shifts_seq p (w.heap.size + 3) b fa sa fc sc W1 hok (hbp.later (hs.below (Nat.le_refl _) (fun _ _ h => h))).bo (KeepCells.of_steps (bs := fun _ => True) hs (fun _ _ h => h) _ _ trivial g3.cell)
  case kb =>
    intro A C hA hs
    exact KeepCells.of_steps hs (fun k hk h => by omega)
  case ps => rintro own x vals W rfl; rfl
  case bi =>
    rintro own own' x A C ⟨h1, h2, h3, h4⟩ hs ho
    exact ⟨h1, fun k hk => by rcases ho k hk with h | h; have := h2 k h; have := hs.size; omega; have := h3.size; omega, h3.trans hs (fun k _ hk => .inr (h2 k hk).1), h4.steps hs (fun h => by have := h2 _ h; omega)⟩
  case bix =>
    rintro c own own' x A C ⟨h1, h2, h3, h4, h5, h6⟩ hs ho
    exact ⟨h1, h2, fun k hk => by rcases ho k hk with h | h; exact h3 k h; have := h5.size; omega, hs.obj (fun h => by have := h3 _ h; omega) h4, h5.trans hs (fun k _ hk => .inr (.inr (h3 k hk))), h6.steps hs (fun h => by have := h3 _ h; omega)⟩
  case round =>
    rintro l own pre x vals W hl hol hrec hpost ⟨hpre, hown, hsW, hkW⟩ rfl
    unfold shV
    gi_wp2
    have hx := shifts_mem (b := b) (x := x) (by obtain ⟨post, hp⟩ := hpost; rw [hp]; simp)
    have hzW := hsW.size
    have hrl := hkW.lt
    refine ⟨fun k hk => Below.heap_alloc _ _ _ (hown k hk).2, by simp, fun W2 h2 hz2 hl2 => ?_⟩
    have hal := (Steps.alloc (fun k => k = l) W (.cells #[.int .i64 x.1, .int .i64 x.2] 72)).trans h2 (fun _ _ h => h)
    have e0 : W2.cell? ⟨W.heap.size, 0, none⟩ = some (.int .i64 x.1) := by
      rw [World.cell?_of_block (h2.block W.heap.size (by simp) (by have := (Array.getElem?_eq_some_iff.1 hrec.choose_spec).1; omega))]; exact cell_new _ _ _ _ _ rfl
    have e1 : W2.cell? ⟨W.heap.size, 1, none⟩ = some (.int .i64 x.2) := by
      rw [World.cell?_of_block (h2.block W.heap.size (by simp) (by have := (Array.getElem?_eq_some_iff.1 hrec.choose_spec).1; omega))]; exact cell_new _ _ _ _ _ rfl
    have hsW2 : Steps (fun k => k = r ∨ W0.heap.size ≤ k) W0 W2 := hsW.trans hal (fun k _ h => .inr (by omega))
    have hm2 : Steps (fun k => k = r) W0 W2 := hsW2.mono (fun k hk h => by omega)
    have i2' : Boxed W2 (w.heap.size + 2) 75 (.func (.func 78) #[.pointer (some ⟨w.heap.size + 1, 0, none⟩)] #[]) := hm2.obj (by omega) g2
    have i2 := i2'.cell
    have hj := joins_any (w.heap.size + 1) b fa sa fc sc f s r x W2 (hbo.steps hm2 hkn) (hkW.steps hal (by omega)) hok hx f6 s6
    have g2' : Boxed W2 w.heap.size 4 (.bool false) := hm2.obj (by omega) g0
    gi_wp2_with (refine ⟨trivial, rfl, ?_⟩; gi_at_call 78; refine (CallsIn.inRound l (callsIn_wide.2 hj)).mono ?_; rintro e W3 ⟨rfl, hs3, hk3⟩; have g3' : Boxed W3 w.heap.size 4 (.bool false) := hs3.obj (by omega) g2'; have gc := g3'.cell; have gf := g3'.frozen)
    all_goals
      have hs3s := hs3.size
      have h2s := hal.size
      have hkeep : ∀ k, own k → W3.heap[k]? = W2.heap[k]? := fun k hk => hs3.block k (by have := (hown k hk).2; omega) (by have := (hown k hk).1; omega)
      have hall : Steps (fun k => k = r ∨ W0.heap.size ≤ k) W0 W3 := hsW2.trans hs3 (fun k _ h => .inl h)
      have hq : Steps (fun k => k = r ∨ k = l) W W3 := (hal.mono (fun _ _ h => .inr h)).trans hs3 (fun _ _ h => .inl h)
    · rename_i hb
      have hst := Steps.setCell (own := fun k => k = w.heap.size) W3 (p := ⟨w.heap.size, 0, none⟩) rfl (.bool true)
      refine ⟨fun k hk => (Below.heap_setCell _ _ _ _ (by have := (hown k hk).1; show ¬ k = w.heap.size; omega)).trans (hkeep k hk), Nat.le_trans hs3s hst.size, ?_, rfl, ⟨x, by simp, by simpa using hb⟩, fun k hk => (hown k hk).1, g3'.set _,
        (hall.mono (own' := fun k => k = r ∨ k = w.heap.size ∨ W0.heap.size ≤ k) (fun _ _ h => by omega)).trans hst (fun k _ h => .inr (.inl h)), hk3.steps hst (by omega)⟩
      exact (KeepCells.of_steps hq (fun k (hk : k = p ∨ k = w.heap.size + 3) h => by omega)).trans (KeepCells.of_steps hst (fun k (hk : k = p ∨ k = w.heap.size + 3) h => by omega))
    · rename_i hb
      refine ⟨hkeep, hs3s, KeepCells.of_steps hq (fun k (hk : k = p ∨ k = w.heap.size + 3) h => by omega), ?_, fun k hk => ⟨(hown k hk).1, by have := (hown k hk).2; omega⟩, hall, hk3⟩
      intro y hy
      rcases List.mem_append.1 hy with h | h
      · exact hpre y h
      · rw [List.mem_singleton] at h
        subst h
        simpa using hb
  case done =>
    rintro D own W hD hoD ⟨hpre, hown, hsW, hkW⟩ hK
    have hX2 : Boxed W w.heap.size 4 (.bool false) := hsW.obj (by omega) g0
    have hXc := hX2.cell
    have hXf := hX2.frozen
    gi_wp2
    have hst := Steps.setCell (own := fun k => k = w.heap.size) W (p := ⟨w.heap.size, 0, none⟩) rfl (.bool false)
    have hXs := hX2.set (.bool false)
    have hDs : (W.setCell ⟨w.heap.size, 0, none⟩ (.bool false)).heap[D]? = some (.deferred (some [])) := hst.obj (by omega) hK
    have hsz := hsW.size
    refine marks_ret (v := .bool false) hDs (fun X hX _ => ?_)
    have hXc := (Boxed.cell (show Boxed X _ _ _ from hX.obj (by omega) hXs))
    have hall : Steps (fun k => k = r ∨ k = w.heap.size ∨ W0.heap.size ≤ k) W0 X :=
      (hsW.mono (own' := fun k => k = r ∨ k = w.heap.size ∨ W0.heap.size ≤ k) (fun _ _ h => by omega)).trans ((hst.mono (own' := fun k => k = D ∨ k = w.heap.size) (fun _ _ h => .inr h)).trans hX (fun _ _ h => .inl h)) (fun k _ h => by omega)
    refine ⟨by simp [results, Try.results57, go_sem, hXc], ?_, hst0.mono (own' := fun k => k = r) (fun _ _ h => h.elim) |>.trans hall (fun k hk h => by omega), (hkW.steps hst (by omega)).steps hX (by omega)⟩
    have : bCan b f s = false := by
      unfold bCan
      rw [List.any_eq_false]
      intro x hx
      simp [hpre x hx]
    rw [this]
  case stop =>
    rintro D c own pre W hD hoD hpre ⟨rfl, hne, hown, hX2, hsW, hkW⟩ hK
    gi_wp2
    refine marks_ret (v := .bool true) hK (fun X hX _ => ?_)
    have hXc := (Boxed.cell (show Boxed X _ _ _ from hX.obj (by omega) hX2))
    have hall : Steps (fun k => k = r ∨ k = w.heap.size ∨ W0.heap.size ≤ k) W0 X := hsW.trans hX (fun k _ h => by omega)
    refine ⟨by simp [results, Try.results57, go_sem, hXc], ?_, hst0.mono (own' := fun k => k = r) (fun _ _ h => h.elim) |>.trans hall (fun k hk h => by omega), hkW.steps hX (by omega)⟩
    have : bCan b f s = true := by
      unfold bCan
      rw [List.any_eq_true]
      obtain ⟨x, hx, h⟩ := hne
      exact ⟨x, hpre.subset hx, by simp [h]⟩
    rw [this]
end Go.Proofs.Ytjkegmjjhdmkiaa
