/- Package border: how many joinings there are with a shift. -/
import Derived.Test.YtjkegmjjhdmkiaaE5
import Derived.RecoverIn
namespace Go.Proofs.Ytjkegmjjhdmkiaa
open Go.RowKit Go.Shelf
attribute [local go_sem] Oper.semAt_some
set_option maxHeartbeats 1600000
set_option maxRecDepth 100000
set_option linter.unusedSimpArgs false

theorem told_idleIn {n : Nat} (p : Addr) (w : World) :
    CallsDIn Fence.wide n Try.prog 40 #[.pointer (some p)] .returning w fun e u' w' => e = .returned (.tuple #[]) ∧ u' = .returning ∧ w' = w := by
  refine callsDIn_of_wpSIn Try.func40 rfl trivial fun c₀ cs hu => ?_
  apply wpSIn_seq
  apply wpSIn_region
  simp [wpOpsSIn, go_sem, recoverD, hu, Try.ntmps40, Exit.thenS]
  refine wpSIn_of_wpIn rfl ((wpIn_wide (n := n)).2 ?_)
  simp only [List.size_toArray, List.length_cons, List.length_nil, Nat.reduceAdd, Nat.reduceSub, Array.replicate_succ, Array.replicate_zero, List.push_toArray, List.append_toArray, List.nil_append, List.cons_append, List.setIfInBounds_toArray, List.set_cons_zero, List.set_cons_succ]
  go_wp2
  cases c₀
  simp_all [bodyPostS, results, Try.results40]

theorem told_panickingIn {n : Nat} (be : Nat) (x y : Int) (w : World) (hc : w.cell? ⟨be, 0, none⟩ = some (.int .i64 y)) (hz : w.frozen? ⟨be, 0, none⟩ = false) :
    CallsDIn Fence.wide n Try.prog 40 #[.pointer (some ⟨be, 0, none⟩)] (.panicking (failed x)) w fun e u' w' =>
      e = .returned (.tuple #[]) ∧ u' = .panicking [{ v := .iface 122 (.agg #[.int .i64 x]), recovered := true }] ∧ Steps (fun k => k = be) w w' ∧ w'.cell? ⟨be, 0, none⟩ = some (.int .i64 x) ∧ (∀ q, q ≠ ⟨be, 0, none⟩ → q.block < w.heap.size → w'.cell? q = w.cell? q) := by
  refine callsDIn_of_wpSIn Try.func40 rfl trivial fun c₀ cs hu => ?_
  unfold failed at hu
  have hta : ∀ w, (Instr.typeAssert (.iface 122 (.agg #[.int .i64 x])) 20 122 true).run Try.prog w = .ok (.tuple #[.agg #[.int .i64 x], .bool true]) w := fun w => by kernel_rfl
  apply wpSIn_seq
  apply wpSIn_region
  simp [wpOpsSIn, go_sem, recoverD, hu, Try.ntmps40, Exit.thenS]
  refine wpSIn_of_wpIn rfl ((wpIn_wide (n := n)).2 ?_)
  have hpw := World.block_lt_of_cell? w _ hc
  have hnew := cell_new w #[.int .i64 x] 122 0 _ rfl
  have hs := (Steps.setCell (own := fun k => k = be) w (p := ⟨be, 0, none⟩) rfl (.int .i64 x)).trans (Steps.alloc (fun k => k = be) _ (.cells #[.int .i64 x] 122)) (fun _ _ h => h)
  have hsz : (w.setCell ⟨be, 0, none⟩ (.int .i64 x)).heap.size = w.heap.size := by simp
  have hx : ((w.setCell ⟨be, 0, none⟩ (.int .i64 x)).alloc (.cells #[.int .i64 x] 122)).cell? ⟨be, 0, none⟩ = some (.int .i64 x) := cell_later (below_alloc _ _) (World.cell?_setCell_same' _ _ _ (by rw [hc]; rfl))
  have ho : ∀ q, q ≠ ⟨be, 0, none⟩ → q.block < w.heap.size → ((w.setCell ⟨be, 0, none⟩ (.int .i64 x)).alloc (.cells #[.int .i64 x] 122)).cell? q = w.cell? q := fun q hq hl =>
    (World.cell?_of_block (Below.heap_alloc _ _ _ (by omega))).trans (World.cell?_setCell_other _ _ _ _ (Ne.symm hq))
  have hz' : (w.alloc (.cells #[.int .i64 x] 122)).frozen? ⟨be, 0, none⟩ = false := (World.frozen?_of_block (Below.heap_alloc w _ _ hpw)).trans hz
  have HFIN := Lib.hid (And.intro hs (And.intro hx ho))
  clear hs hx ho hsz
  simp only [List.size_toArray, List.length_cons, List.length_nil, Nat.reduceAdd, Nat.reduceSub, Array.replicate_succ, Array.replicate_zero, List.push_toArray, List.append_toArray, List.nil_append, List.cons_append, List.setIfInBounds_toArray, List.set_cons_zero, List.set_cons_succ]
  go_wp2
  obtain ⟨q1, q2, q3⟩ := HFIN.out
  cases c₀
  simp [bodyPostS, results, Try.results40, go_sem]
  exact ⟨q1, q2, fun q h => q3 q h⟩

theorem told_leaves {fn : Func} {R : Ending → World → Prop} {tmps : Array Value} {W : World} {be : Nat} {v : Value} (hr : (results fn tmps).run Try.prog W = .ok v W ∧ R (.returned v) W) :
    LeavesInM Fence.wide 0 Try.prog fn tmps R [toldD be] .returning W := by
  refine ⟨by simp, .inr ⟨fun h => by simp [Fence.wide] at h, .func 40, #[], 40, #[.pointer (some ⟨be, 0, none⟩)], rfl, by simp [go_sem], fun _ _ => trivial, ?_⟩⟩
  refine CallsDIn.mono (told_idleIn _ W) ?_
  rintro e u' w'' ⟨rfl, rfl, rfl⟩
  simp only [settle, LeavesInM, LeavesIn]
  exact ⟨v, hr⟩
theorem doorM_ret {fn : Func} {R : Ending → World → Prop} {tmps : Array Value} {W : World} {D be : Nat} {v : Value} (hK : W.heap[D]? = some (.deferred (some [])))
    (hr : ∀ X, Steps (fun k => k = D) W X → X.heap.size = W.heap.size → (results fn tmps).run Try.prog X = .ok v X ∧ R (.returned v) X) :
    bodyPostM Fence.wide 0 Try.prog fn R .ret { tmps, defers := [{ target := .collected D, args := #[] }, toldD be] } W := by
  have h := hr _ (Steps.putObj (own := fun k => k = D) W rfl (.deferred none)) (by simp)
  exact ⟨by simp, .inl ⟨_, _, rfl, run_takeDeferred hK, told_leaves h⟩⟩
theorem doorM_panic {fn : Func} {R : Ending → World → Prop} {tmps : Array Value} {W : World} {be : Nat} {x y : Int} {v : Value} (hc : W.cell? ⟨be, 0, none⟩ = some (.int .i64 y)) (hz : W.frozen? ⟨be, 0, none⟩ = false)
    (h : ∀ W', Steps (fun k => k = be) W W' → W'.cell? ⟨be, 0, none⟩ = some (.int .i64 x) → (∀ q, q ≠ ⟨be, 0, none⟩ → q.block < W.heap.size → W'.cell? q = W.cell? q) → (results fn tmps).run Try.prog W' = .ok v W' ∧ R (.returned v) W') :
    bodyPostM Fence.wide 0 Try.prog fn R (.panic (failed x)) { tmps, defers := [toldD be] } W := by
  refine ⟨by simp, .inr ⟨fun h => by simp [Fence.wide] at h, .func 40, #[], 40, #[.pointer (some ⟨be, 0, none⟩)], rfl, by simp [go_sem], fun _ _ => trivial, ?_⟩⟩
  refine CallsDIn.mono (told_panickingIn be x y W hc hz) ?_
  rintro e u' w'' ⟨rfl, rfl, h1, h2, h3⟩
  simp only [settle, LeavesInM, LeavesIn]
  exact ⟨v, h w'' h1 h2 h3⟩

theorem flatMap_len {α β : Type} (f : α → List β) (N : Nat) : ∀ (l : List α), (∀ x ∈ l, (f x).length ≤ N) → (l.flatMap f).length ≤ l.length * N
  | [], _ => by simp
  | x :: l, h => by
    rw [List.flatMap_cons, List.length_append, List.length_cons, Nat.succ_mul]
    have h1 := h x (by simp)
    have h2 := flatMap_len f N l (fun y hy => h y (by simp [hy]))
    omega
theorem joins_len {m : Nat → Nat → Bool} {fset sset : Nat → Bool} {ns : Nat} : ∀ (r : Nat) (l : List Int), (joins m fset sset ns r l).length ≤ (ns + 1) ^ r
  | 0, l => by unfold joins; split <;> simp
  | r + 1, l => by
    unfold joins
    rw [List.length_append, Nat.pow_succ, Nat.mul_add, Nat.mul_one, Nat.add_comm]
    have h1 := flatMap_len (fun k => if (m l.length k && !l.contains (k : Int)) = true then joins m fset sset ns r (l ++ [(k : Int)]) else []) ((ns + 1) ^ r) (List.range ns) (fun k _ => by
      split
      · exact joins_len r _
      · simp)
    rw [List.length_range, Nat.mul_comm] at h1
    refine Nat.add_le_add h1 ?_
    split
    · simp
    · exact joins_len r _

/-- How many joinings there are, and the error. -/
def bPossible (b : Bo) (east north : Int) : Nat × Int :=
  if b.ok then if b.shift (east, north) then ((bJoins b (sures b.fs) (sures b.ss) (east, north)).length, 0) else (0, 2) else (0, 1)
def PossiblePost (b : Bo) (east north : Int) (w : World) (e : Ending) (w' : World) : Prop :=
  e = .returned (.tuple #[.int .i64 (bPossible b east north).1, .int .i64 (bPossible b east north).2]) ∧ Below w.heap.size w w'
theorem bJoins_len {b : Bo} (hok : b.ok = true) (f s : Nat) (z : Int × Int) : (bJoins b f s z).length ≤ 117649 := by
  obtain ⟨h1, h2⟩ := bo_lens hok
  refine Nat.le_trans (joins_len _ _) ?_
  exact Nat.le_trans (Nat.pow_le_pow_left (Nat.succ_le_succ h2) _) (Nat.le_trans (Nat.pow_le_pow_right (by omega) h1) (by decide))

theorem possible_any (b : Bo) (east north : Int) (fa sa : Option Addr) (fc sc : Nat) (w : World) (hb : BoArg w b fa sa) :
    Calls Try.prog 15 #[.agg #[.int .i64 b.e.lo, .int .i64 b.e.hi, .int .i64 b.n.lo, .int .i64 b.n.hi, .slice fa b.fs.length fc, .slice sa b.ss.length sc], .int .i64 east, .int .i64 north] w (PossiblePost b east north w) := by
  obtain ⟨hf, hs, hlf, hls⟩ := hb
  refine (callsIn_wide (n := 0)).1 ?_
  refine callsIn_of_wp_marks Try.func15 rfl trivial ?_ rfl
  simp only [Try.ntmps15, List.size_toArray, List.length_cons, List.length_nil, Nat.reduceAdd, Nat.reduceSub, Array.replicate_succ, Array.replicate_zero, List.push_toArray, List.append_toArray, List.nil_append, List.cons_append]
  gi_wp2_with fail
  obtain ⟨W0, hW0⟩ : ∃ W, (((w.alloc (.cells #[.int .i64 b.e.lo, .int .i64 b.e.hi, .int .i64 b.n.lo, .int .i64 b.n.hi, .slice fa b.fs.length fc, .slice sa b.ss.length sc] 26)).alloc (.cells #[.int .i64 0] 3)).alloc (.cells #[.int .i64 0] 29)) = W := ⟨_, rfl⟩
  rw [hW0]
  try simp only [Nat.add_assoc, Nat.reduceAdd]
  have hst_W0 : Steps (fun _ => False) w W0 := by rw [← hW0]; exact ((Steps.alloc _ w _).trans (Steps.alloc (fun _ => False) _ _) (fun _ _ h => h)).trans (Steps.alloc (fun _ => False) _ _) (fun _ _ h => h)
  have hz_W0 : W0.heap.size = w.heap.size + 3 := by rw [← hW0]; simp
  have g0_W0 : W0.heap[w.heap.size]? = some (.cells #[.int .i64 b.e.lo, .int .i64 b.e.hi, .int .i64 b.n.lo, .int .i64 b.n.hi, .slice fa b.fs.length fc, .slice sa b.ss.length sc] 26) := by rw [← hW0]; simp only [alloc_get, World.size_alloc]; repeat (first | exact if_pos trivial | exact if_pos (by omega) | rw [if_neg (by omega)])
  have g1_W0 : W0.heap[w.heap.size + 1]? = some (.cells #[.int .i64 0] 3) := by rw [← hW0]; simp only [alloc_get, World.size_alloc]; repeat (first | exact if_pos trivial | exact if_pos (by omega) | rw [if_neg (by omega)])
  have g2_W0 : W0.heap[w.heap.size + 2]? = some (.cells #[.int .i64 0] 29) := by rw [← hW0]; simp only [alloc_get, World.size_alloc]; repeat (first | exact if_pos trivial | exact if_pos (by omega) | rw [if_neg (by omega)])
  clear hW0
  have hb0 : Below w.heap.size w W0 := hst_W0.below (Nat.le_refl _) (fun _ _ h => h)
  cases hok : b.ok with
  | false =>
    have hB : bPossible b east north = (0, 1) := by simp [bPossible, hok]
    have HB := Lib.hid hB
    clear hB
    refine ⟨trivial, rfl, (callsIn_wide.2 (open_no b fa sa fc sc W0 hok (hf.below hb0 (Nat.le_refl _)) (hs.below hb0 (Nat.le_refl _)) hlf hls)).mono ?_⟩
    rintro e W1 ⟨rfl, hb1⟩
    have hW1 : w.heap.size + 2 < W1.heap.size := by have := hb1.size; omega
    have j1 := obj_later hb1 g1_W0
    have j2 := obj_later hb1 g2_W0
    refine doorM_panic (y := 0) (v := .tuple #[.int .i64 0, .int .i64 1]) (cell_block j2 0) (frozen_block j2 0) (fun W' hs' hc' _ => ?_)
    have i1 : W'.heap[w.heap.size + 1]? = some (.cells #[.int .i64 0] 3) := hs'.obj (by omega) j1
    have c10 := cell_block i1 0
    simp only [List.getElem?_toArray, List.getElem?_cons_zero, List.getElem?_cons_succ] at c10
    refine ⟨by simp [results, Try.results15, go_sem, hc', c10], ?_⟩
    unfold PossiblePost
    rw [HB.out]
    exact ⟨rfl, hb0.trans ((hb1.mono hb0.size).trans (hs'.below (by omega) (fun k hk h => by omega)))⟩
  | true =>
    refine ⟨trivial, rfl, (callsIn_wide.2 (open_yes b fa sa fc sc W0 hok (hf.below hb0 (Nat.le_refl _)) (hs.below hb0 (Nat.le_refl _)))).mono ?_⟩
    rintro e W1 ⟨p, r, rfl, hB1, hr1, hrl, hpl, hb1⟩
    have hW1 : w.heap.size + 2 < W1.heap.size := by have := hb1.size; omega
    have hk1 : KnownOk W1 r b := ⟨_, _, hr1, by simp⟩
    have hlens := bo_lens hok
    obtain ⟨q3, hq3⟩ : ∃ q, b.shift (east, north) = q := ⟨_, rfl⟩
    have HQ3 := Lib.hid hq3
    clear hq3
    gi_wp2_with fail
    obtain ⟨W2, hW2⟩ : ∃ W, (W1.alloc (.cells #[.int .i64 east, .int .i64 north] 72)) = W := ⟨_, rfl⟩
    rw [hW2]
    try simp only [Nat.add_assoc, Nat.reduceAdd]
    have hst_W2 : Steps (fun _ => False) W1 W2 := by rw [← hW2]; exact Steps.alloc _ W1 _
    have hz_W2 : W2.heap.size = W1.heap.size + 1 := by rw [← hW2]; simp
    have g0_W2 : W2.heap[W1.heap.size]? = some (.cells #[.int .i64 east, .int .i64 north] 72) := by rw [← hW2]; simp only [alloc_get, World.size_alloc]; repeat (first | exact if_pos trivial | exact if_pos (by omega) | rw [if_neg (by omega)])
    clear hW2
    have hb2 : Below W1.heap.size W1 W2 := hst_W2.below (Nat.le_refl _) (fun _ _ h => h)
    have hB2 := hB1.later hb2
    have hk2 := hk1.steps hst_W2 (fun h => h)
    have hbw : Below w.heap.size w W2 := hb0.trans ((hb1.mono hb0.size).trans (hb2.mono (by omega)))
    refine ⟨trivial, rfl, (callsIn_wide.2 (isShift_any p b fa sa fc sc (east, north) _ hB2.bo)).mono ?_⟩
    rintro e W3 ⟨rfl, hb3⟩
    rw [HQ3.out]
    have j1 := obj_later hb3 (obj_later hb2 (obj_later hb1 g1_W0))
    have j2 := obj_later hb3 (obj_later hb2 (obj_later hb1 g2_W0))
    have hz3 := hb3.size
    cases q3 with
    | false =>
      have hB : bPossible b east north = (0, 2) := by simp [bPossible, hok, HQ3.out]
      have HB := Lib.hid hB
      clear hB
      gi_wp2_with (refine ⟨trivial, rfl, ?_⟩; gi_at_call 42; refine (callsIn_wide.2 (must_no _ _)).mono ?_; rintro e w' ⟨rfl, rfl⟩)
      refine doorM_panic (y := 0) (v := .tuple #[.int .i64 0, .int .i64 2]) (cell_block j2 0) (frozen_block j2 0) (fun W' hs' hc' _ => ?_)
      have i1 : W'.heap[w.heap.size + 1]? = some (.cells #[.int .i64 0] 3) := hs'.obj (by omega) j1
      have c10 := cell_block i1 0
      simp only [List.getElem?_toArray, List.getElem?_cons_zero, List.getElem?_cons_succ] at c10
      refine ⟨by simp [results, Try.results15, go_sem, hc', c10], ?_⟩
      unfold PossiblePost
      rw [HB.out]
      exact ⟨rfl, hbw.trans ((hb3.mono (by omega)).trans (hs'.below (by omega) (fun k hk h => by omega)))⟩
    | true =>
      have hB : bPossible b east north = ((bJoins b (sures b.fs) (sures b.ss) (east, north)).length, 0) := by simp [bPossible, hok, HQ3.out]
      have HB := Lib.hid hB
      clear hB
      have hB3 := hB2.later hb3
      have hk3 : KnownOk W3 r b := by
        obtain ⟨es, clk, h1, h2⟩ := hk2
        exact ⟨es, clk, obj_later hb3 h1, h2⟩
      have i0 := obj_later hb3 g0_W2
      have e0 := cell_block i0 0
      have e1 := cell_block i0 1
      simp only [List.getElem?_toArray, List.getElem?_cons_zero, List.getElem?_cons_succ] at e0 e1
      have f6 : sures b.fs < 2 ^ 6 := Nat.lt_of_lt_of_le (sures_lt _) (Nat.pow_le_pow_right (by omega) hlens.1)
      have s6 : sures b.ss < 2 ^ b.ss.length := sures_lt _
      have hm := joinings_made p b fa sa fc sc (sures b.fs) (sures b.ss) r (east, north) W3 hB3 hk3 hok HQ3.out
      gi_wp2_with (first | (refine ⟨trivial, rfl, ?_⟩; gi_at_call 42; refine (callsIn_wide.2 (must_yes _ _)).mono ?_; rintro e w' ⟨rfl, rfl⟩) | (refine ⟨trivial, rfl, ?_⟩; gi_at_call 50; refine (callsIn_wide.2 hm).mono ?_; rintro e Wj ⟨B2, B5, rfl, hjm, hB2', hB5', hs1, hkj⟩))
      have hzj := hs1.size
      have hBj : BrdAt Wj p b fa sa fc sc (sures b.fs) (sures b.ss) r := hB3.steps hs1 hk3
      have n1 : Wj.heap[w.heap.size + 1]? = some (.cells #[.int .i64 0] 3) := hs1.obj (by omega) j1
      have n2 : Wj.heap[w.heap.size + 2]? = some (.cells #[.int .i64 0] 29) := hs1.obj (by omega) j2
      have hbj : Below w.heap.size w Wj := hbw.trans ((hb3.mono (by omega)).trans (hs1.below (by omega) (fun k hk h => by omega)))
      have hpj := World.block_lt_of_cell? Wj _ hBj.c6
      have hp2 := World.block_lt_of_cell? Wj _ hjm.c2
      have hp5 := World.block_lt_of_cell? Wj _ (hjm.c5 0 (by omega))
      dsimp only at hpj hp2 hp5
      have hpne : p ≠ w.heap.size + 1 := by omega
      clear hs1 j1 j2 e0 e1 i0 hm hk3 hB3 hB2 hk2 hb2 hB1 hk1 hr1
      refine wpIn_range_own (α := List Int) (gf := 73) (lb := #[.pointer (some ⟨B2, 0, none⟩), .pointer (some ⟨B5, 0, none⟩)]) (L := bJoins b (sures b.fs) (sures b.ss) (east, north)) (Enc := JoinEnc (Wj.heap.size + 2)) (Kp := KeepCells (fun k => k = p ∨ k = B2 ∨ k = B5))
        rfl (enters_of Try.func73 (by kernel_rfl) rfl) ?seq KeepCells.trans ?kb ?ps
        (fun own pre W => (∀ k, own k → Wj.heap.size ≤ k) ∧ Boxed W (w.heap.size + 1) 3 (.int .i64 pre.length) ∧ Steps (fun k => k = w.heap.size + 1 ∨ Wj.heap.size ≤ k) Wj W)
        (fun _ _ _ _ => False) ?bi (fun c own own' x A C h _ _ => h) ⟨fun _ h => h.elim, n1, Steps.refl _ _⟩ ?enc ?round ?done (fun _ _ _ _ _ _ _ _ h => h.elim)
      case seq =>
        intro W1 hs hz
        exact joinings_iter (hBj.later (hs.below (Nat.le_refl _) (fun _ _ h => h))) (hjm.keep (KeepCells.of_steps hs (fun _ _ h => h))) hok f6 s6 (by omega)
      case kb =>
        intro A C hA hs
        exact KeepCells.of_steps hs (fun k hk h => by omega)
      case ps => rintro own x vals W ⟨q, cap, rfl, _⟩; rfl
      case bi =>
        rintro own own' x A C ⟨h2, h4, h3⟩ hs ho
        exact ⟨fun k hk => by rcases ho k hk with h | h; exact h2 k h; have := h3.size; omega, hs.obj (fun h => by have := h2 _ h; omega) h4, h3.trans hs (fun k _ hk => .inr (h2 k hk))⟩
      case enc => exact fun own own' x vals W hw h => joinEnc_wider (fun k hk => by rcases hw k hk with h | h | h; exact .inl h; exact .inr (by omega); exact .inr (by omega)) h
      case round =>
        rintro l own pre x vals W hl hol hrec hpost ⟨hown, hbx, hsW⟩ hen
        obtain ⟨q, cap, rfl, _⟩ := hen
        have hlen : pre.length < 117650 := by
          obtain ⟨post, hp⟩ := hpost
          have := bJoins_len hok (sures b.fs) (sures b.ss) (east, north)
          rw [hp, List.length_append] at this
          omega
        have hsz := hsW.size
        gi_wp2
        refine ⟨fun _ _ => trivial, Nat.le_refl _, fun W2' h2 hz2 hl2 => ?_⟩
        have hX2 : Boxed W2' (w.heap.size + 1) 3 (.int .i64 pre.length) := h2.obj (by omega) hbx
        have hXc := hX2.cell
        have hXf := hX2.frozen
        gi_wp2
        have hst := Steps.setCell (own := fun k => k = w.heap.size + 1) W2' (p := ⟨w.heap.size + 1, 0, none⟩) rfl (.int .i64 ((pre.length : Int) + 1))
        have hset := hX2.set (.int .i64 ((pre.length : Int) + 1))
        refine ⟨fun k hk => ?_, hst.size, ?_, hown, ?_, (hsW.mono (fun _ _ h => h)).trans ((h2.mono (own' := fun k => k = l ∨ k = w.heap.size + 1) (fun _ _ h => .inl h)).trans hst (fun _ _ h => .inr h)) (fun k _ h => by omega)⟩
        · exact Below.heap_setCell _ _ _ _ (by have := hown k hk; show ¬ k = w.heap.size + 1; omega)
        · exact KeepCells.of_steps ((h2.mono (own' := fun k => k = l ∨ k = w.heap.size + 1) (fun _ _ h => .inl h)).trans hst (fun _ _ h => .inr h)) (fun k hk h => by omega)
        · rw [List.length_append, List.length_singleton]
          exact hset
      case done =>
        rintro D own W hD hoD ⟨hown, hX2, hsW⟩ hK
        have hlen := bJoins_len hok (sures b.fs) (sures b.ss) (east, north)
        have hB' := HB.out
        generalize (bJoins b (sures b.fs) (sures b.ss) (east, north)).length = N at hlen hX2 hB'
        have HB' := Lib.hid hB'
        clear hB' HB
        have hE2 : W.heap[w.heap.size + 2]? = some (.cells #[.int .i64 0] 29) := hsW.obj (by omega) n2
        have hXc := hX2.cell
        have hXf := hX2.frozen
        have hEc := cell_block hE2 0
        have hEf := frozen_block hE2 0
        simp only [List.getElem?_toArray, List.getElem?_cons_zero, List.getElem?_cons_succ] at hEc
        have hsz := hsW.size
        have hDne : D ≠ w.heap.size + 1 ∧ D ≠ w.heap.size + 2 := by omega
        gi_wp2
        have m1 : ((W.setCell ⟨w.heap.size + 1, 0, none⟩ (.int .i64 N)).setCell ⟨w.heap.size + 2, 0, none⟩ (.int .i64 0)).heap[w.heap.size + 1]? = some (.cells #[.int .i64 N] 3) := block_other (hX2.set (.int .i64 N)) (by omega) 0 _
        have m2 : ((W.setCell ⟨w.heap.size + 1, 0, none⟩ (.int .i64 N)).setCell ⟨w.heap.size + 2, 0, none⟩ (.int .i64 0)).heap[w.heap.size + 2]? = some (.cells #[.int .i64 0] 29) := by
          have := block_set (block_other hE2 (show w.heap.size + 2 ≠ w.heap.size + 1 by omega) 0 (.int .i64 N)) 0 (.int .i64 0)
          simpa using this
        have m3 : ((W.setCell ⟨w.heap.size + 1, 0, none⟩ (.int .i64 N)).setCell ⟨w.heap.size + 2, 0, none⟩ (.int .i64 0)).heap[D]? = some (.deferred (some [])) := block_other (block_other hK hDne.1 0 _) hDne.2 0 _
        have mS : Below w.heap.size w ((W.setCell ⟨w.heap.size + 1, 0, none⟩ (.int .i64 N)).setCell ⟨w.heap.size + 2, 0, none⟩ (.int .i64 0)) :=
          ((hbj.trans (hsW.below (by have := hbj.size; omega) (fun k hk h => by omega))).setCell (p := ⟨w.heap.size + 1, 0, none⟩) (by show w.heap.size ≤ w.heap.size + 1; omega) _).setCell (p := ⟨w.heap.size + 2, 0, none⟩) (by show w.heap.size ≤ w.heap.size + 2; omega) _
        generalize (W.setCell ⟨w.heap.size + 1, 0, none⟩ (.int .i64 N)).setCell ⟨w.heap.size + 2, 0, none⟩ (.int .i64 0) = W9 at m1 m2 m3 mS ⊢
        refine doorM_ret (v := .tuple #[.int .i64 N, .int .i64 0]) m3 (fun X hX _ => ?_)
        have c1 := cell_block (show X.heap[w.heap.size + 1]? = _ from hX.obj (by omega) m1) 0
        have c2 := cell_block (show X.heap[w.heap.size + 2]? = _ from hX.obj (by omega) m2) 0
        simp only [List.getElem?_toArray, List.getElem?_cons_zero, List.getElem?_cons_succ] at c1 c2
        refine ⟨by simp [results, Try.results15, go_sem, c1, c2], ?_⟩
        unfold PossiblePost
        rw [HB'.out]
        exact ⟨rfl, mS.trans (hX.below mS.size (fun k hk h => by have := hbj.size; omega))⟩
end Go.Proofs.Ytjkegmjjhdmkiaa
