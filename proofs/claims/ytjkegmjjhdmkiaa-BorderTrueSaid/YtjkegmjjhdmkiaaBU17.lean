/- Package border: how many joinings there are with a shift. Package border: the fewest stars that contradict each other. What the laws of layer 6 call of their own: spans, stars, the sample; and which borders are valid. -/
import Derived.Test.YtjkegmjjhdmkiaaBU16
import Derived.RecoverIn
import Derived.Test.YtjkegmjjhdmkiaaBU3
namespace Go.Proofs.Ytjkegmjjhdmkiaa
open Go.RowKit Go.Shelf
attribute [local go_sem] Oper.semAt_some
set_option maxHeartbeats 1600000
set_option maxRecDepth 100000
set_option linter.unusedSimpArgs false

theorem told_idleIn {n : Nat} (p : Addr) (w : World) :
    CallsDIn Fence.wide n Try.prog 40 #[.pointer (some p)] .returning w fun e u' w' => e = .returned (.tuple #[]) ∧ u' = .returning ∧ w' = w := by
  refine callsDIn_of_wpSIn Try.func40 rfl trivial fun c₀ cs hu => ?_
  apply wpSIn_seq
  apply wpSIn_region
  simp [wpOpsSIn, go_sem, recoverD, hu, Try.ntmps40, Exit.thenS]
  refine wpSIn_of_wpIn rfl ((wpIn_wide (n := n)).2 ?_)
  simp only [List.size_toArray, List.length_cons, List.length_nil, Nat.reduceAdd, Nat.reduceSub, Array.replicate_succ, Array.replicate_zero, List.push_toArray, List.append_toArray, List.nil_append, List.cons_append, List.setIfInBounds_toArray, List.set_cons_zero, List.set_cons_succ]
  go_wp2
  cases c₀
  simp_all [bodyPostS, results, Try.results40]

theorem told_panickingIn {n : Nat} (be : Nat) (x y : Int) (w : World) (hc : w.cell? ⟨be, 0, none⟩ = some (.int .i64 y)) (hz : w.frozen? ⟨be, 0, none⟩ = false) :
    CallsDIn Fence.wide n Try.prog 40 #[.pointer (some ⟨be, 0, none⟩)] (.panicking (failed x)) w fun e u' w' =>
      e = .returned (.tuple #[]) ∧ u' = .panicking [{ v := .iface 122 (.agg #[.int .i64 x]), recovered := true }] ∧ Steps (fun k => k = be) w w' ∧ w'.cell? ⟨be, 0, none⟩ = some (.int .i64 x) ∧ (∀ q, q ≠ ⟨be, 0, none⟩ → q.block < w.heap.size → w'.cell? q = w.cell? q) := by
  refine callsDIn_of_wpSIn Try.func40 rfl trivial fun c₀ cs hu => ?_
  unfold failed at hu
  have hta : ∀ w, (Instr.typeAssert (.iface 122 (.agg #[.int .i64 x])) 20 122 true).run Try.prog w = .ok (.tuple #[.agg #[.int .i64 x], .bool true]) w := fun w => by kernel_rfl
  apply wpSIn_seq
  apply wpSIn_region
  simp [wpOpsSIn, go_sem, recoverD, hu, Try.ntmps40, Exit.thenS]
  refine wpSIn_of_wpIn rfl ((wpIn_wide (n := n)).2 ?_)
  have hpw := World.block_lt_of_cell? w _ hc
  have hnew := cell_new w #[.int .i64 x] 122 0 _ rfl
  have hs := (Steps.setCell (own := fun k => k = be) w (p := ⟨be, 0, none⟩) rfl (.int .i64 x)).trans (Steps.alloc (fun k => k = be) _ (.cells #[.int .i64 x] 122)) (fun _ _ h => h)
  have hsz : (w.setCell ⟨be, 0, none⟩ (.int .i64 x)).heap.size = w.heap.size := by simp
  have hx : ((w.setCell ⟨be, 0, none⟩ (.int .i64 x)).alloc (.cells #[.int .i64 x] 122)).cell? ⟨be, 0, none⟩ = some (.int .i64 x) := cell_later (below_alloc _ _) (World.cell?_setCell_same' _ _ _ (by rw [hc]; rfl))
  have ho : ∀ q, q ≠ ⟨be, 0, none⟩ → q.block < w.heap.size → ((w.setCell ⟨be, 0, none⟩ (.int .i64 x)).alloc (.cells #[.int .i64 x] 122)).cell? q = w.cell? q := fun q hq hl =>
    (World.cell?_of_block (Below.heap_alloc _ _ _ (by omega))).trans (World.cell?_setCell_other _ _ _ _ (Ne.symm hq))
  have hz' : (w.alloc (.cells #[.int .i64 x] 122)).frozen? ⟨be, 0, none⟩ = false := (World.frozen?_of_block (Below.heap_alloc w _ _ hpw)).trans hz
  have HFIN := Lib.hid (And.intro hs (And.intro hx ho))
  clear hs hx ho hsz
  simp only [List.size_toArray, List.length_cons, List.length_nil, Nat.reduceAdd, Nat.reduceSub, Array.replicate_succ, Array.replicate_zero, List.push_toArray, List.append_toArray, List.nil_append, List.cons_append, List.setIfInBounds_toArray, List.set_cons_zero, List.set_cons_succ]
  go_wp2
  obtain ⟨q1, q2, q3⟩ := HFIN.out
  cases c₀
  simp [bodyPostS, results, Try.results40, go_sem]
  exact ⟨q1, q2, fun q h => q3 q h⟩

theorem told_leaves {fn : Func} {R : Ending → World → Prop} {tmps : Array Value} {W : World} {be : Nat} {v : Value} (hr : (results fn tmps).run Try.prog W = .ok v W ∧ R (.returned v) W) :
    LeavesInM Fence.wide 0 Try.prog fn tmps R [toldD be] .returning W := by
  refine ⟨by simp, .inr ⟨fun h => by simp [Fence.wide] at h, .func 40, #[], 40, #[.pointer (some ⟨be, 0, none⟩)], rfl, by simp [go_sem], fun _ _ => trivial, ?_⟩⟩
  refine CallsDIn.mono (told_idleIn _ W) ?_
  rintro e u' w'' ⟨rfl, rfl, rfl⟩
  simp only [settle, LeavesInM, LeavesIn]
  exact ⟨v, hr⟩
theorem doorM_ret {fn : Func} {R : Ending → World → Prop} {tmps : Array Value} {W : World} {D be : Nat} {v : Value} (hK : W.heap[D]? = some (.deferred (some [])))
    (hr : ∀ X, Steps (fun k => k = D) W X → X.heap.size = W.heap.size → (results fn tmps).run Try.prog X = .ok v X ∧ R (.returned v) X) :
    bodyPostM Fence.wide 0 Try.prog fn R .ret { tmps, defers := [{ target := .collected D, args := #[] }, toldD be] } W := by
  have h := hr _ (Steps.putObj (own := fun k => k = D) W rfl (.deferred none)) (by simp)
  exact ⟨by simp, .inl ⟨_, _, rfl, run_takeDeferred hK, told_leaves h⟩⟩
theorem doorM_panic {fn : Func} {R : Ending → World → Prop} {tmps : Array Value} {W : World} {be : Nat} {x y : Int} {v : Value} (hc : W.cell? ⟨be, 0, none⟩ = some (.int .i64 y)) (hz : W.frozen? ⟨be, 0, none⟩ = false)
    (h : ∀ W', Steps (fun k => k = be) W W' → W'.cell? ⟨be, 0, none⟩ = some (.int .i64 x) → (∀ q, q ≠ ⟨be, 0, none⟩ → q.block < W.heap.size → W'.cell? q = W.cell? q) → (results fn tmps).run Try.prog W' = .ok v W' ∧ R (.returned v) W') :
    bodyPostM Fence.wide 0 Try.prog fn R (.panic (failed x)) { tmps, defers := [toldD be] } W := by
  refine ⟨by simp, .inr ⟨fun h => by simp [Fence.wide] at h, .func 40, #[], 40, #[.pointer (some ⟨be, 0, none⟩)], rfl, by simp [go_sem], fun _ _ => trivial, ?_⟩⟩
  refine CallsDIn.mono (told_panickingIn be x y W hc hz) ?_
  rintro e u' w'' ⟨rfl, rfl, h1, h2, h3⟩
  simp only [settle, LeavesInM, LeavesIn]
  exact ⟨v, h w'' h1 h2 h3⟩

theorem flatMap_len {α β : Type} (f : α → List β) (N : Nat) : ∀ (l : List α), (∀ x ∈ l, (f x).length ≤ N) → (l.flatMap f).length ≤ l.length * N
  | [], _ => by simp
  | x :: l, h => by
    rw [List.flatMap_cons, List.length_append, List.length_cons, Nat.succ_mul]
    have h1 := h x (by simp)
    have h2 := flatMap_len f N l (fun y hy => h y (by simp [hy]))
    omega
theorem joins_len {m : Nat → Nat → Bool} {fset sset : Nat → Bool} {ns : Nat} : ∀ (r : Nat) (l : List Int), (joins m fset sset ns r l).length ≤ (ns + 1) ^ r
  | 0, l => by unfold joins; split <;> simp
  | r + 1, l => by
    unfold joins
    rw [List.length_append, Nat.pow_succ, Nat.mul_add, Nat.mul_one, Nat.add_comm]
    have h1 := flatMap_len (fun k => if (m l.length k && !l.contains (k : Int)) = true then joins m fset sset ns r (l ++ [(k : Int)]) else []) ((ns + 1) ^ r) (List.range ns) (fun k _ => by
      split
      · exact joins_len r _
      · simp)
    rw [List.length_range, Nat.mul_comm] at h1
    refine Nat.add_le_add h1 ?_
    split
    · simp
    · exact joins_len r _

/-- How many joinings there are, and the error. -/
def bPossible (b : Bo) (east north : Int) : Nat × Int :=
  if b.ok then if b.shift (east, north) then ((bJoins b (sures b.fs) (sures b.ss) (east, north)).length, 0) else (0, 2) else (0, 1)
def PossiblePost (b : Bo) (east north : Int) (w : World) (e : Ending) (w' : World) : Prop :=
  e = .returned (.tuple #[.int .i64 (bPossible b east north).1, .int .i64 (bPossible b east north).2]) ∧ Below w.heap.size w w'
theorem bJoins_len {b : Bo} (hok : b.ok = true) (f s : Nat) (z : Int × Int) : (bJoins b f s z).length ≤ 117649 := by
  obtain ⟨h1, h2⟩ := bo_lens hok
  refine Nat.le_trans (joins_len _ _) ?_
  exact Nat.le_trans (Nat.pow_le_pow_left (Nat.succ_le_succ h2) _) (Nat.le_trans (Nat.pow_le_pow_right (by omega) h1) (by decide))

theorem possible_any (b : Bo) (east north : Int) (fa sa : Option Addr) (fc sc : Nat) (w : World) (hb : BoArg w b fa sa) :
    Calls Try.prog 15 #[.agg #[.int .i64 b.e.lo, .int .i64 b.e.hi, .int .i64 b.n.lo, .int .i64 b.n.hi, .slice fa b.fs.length fc, .slice sa b.ss.length sc], .int .i64 east, .int .i64 north] w (PossiblePost b east north w) := by
  obtain ⟨hf, hs, hlf, hls⟩ := hb
  refine (callsIn_wide (n := 0)).1 ?_
  refine callsIn_of_wp_marks Try.func15 rfl trivial ?_ rfl
  simp only [Try.ntmps15, List.size_toArray, List.length_cons, List.length_nil, Nat.reduceAdd, Nat.reduceSub, Array.replicate_succ, Array.replicate_zero, List.push_toArray, List.append_toArray, List.nil_append, List.cons_append]
  gi_wp2_with fail
  obtain ⟨W0, hW0⟩ : ∃ W, (((w.alloc (.cells #[.int .i64 b.e.lo, .int .i64 b.e.hi, .int .i64 b.n.lo, .int .i64 b.n.hi, .slice fa b.fs.length fc, .slice sa b.ss.length sc] 26)).alloc (.cells #[.int .i64 0] 3)).alloc (.cells #[.int .i64 0] 29)) = W := ⟨_, rfl⟩
  rw [hW0]
  try simp only [Nat.add_assoc, Nat.reduceAdd]
  have hst_W0 : Steps (fun _ => False) w W0 := by rw [← hW0]; exact ((Steps.alloc _ w _).trans (Steps.alloc (fun _ => False) _ _) (fun _ _ h => h)).trans (Steps.alloc (fun _ => False) _ _) (fun _ _ h => h)
  have hz_W0 : W0.heap.size = w.heap.size + 3 := by rw [← hW0]; simp
  have g0_W0 : W0.heap[w.heap.size]? = some (.cells #[.int .i64 b.e.lo, .int .i64 b.e.hi, .int .i64 b.n.lo, .int .i64 b.n.hi, .slice fa b.fs.length fc, .slice sa b.ss.length sc] 26) := by rw [← hW0]; simp only [alloc_get, World.size_alloc]; repeat (first | exact if_pos trivial | exact if_pos (by omega) | rw [if_neg (by omega)])
  have g1_W0 : W0.heap[w.heap.size + 1]? = some (.cells #[.int .i64 0] 3) := by rw [← hW0]; simp only [alloc_get, World.size_alloc]; repeat (first | exact if_pos trivial | exact if_pos (by omega) | rw [if_neg (by omega)])
  have g2_W0 : W0.heap[w.heap.size + 2]? = some (.cells #[.int .i64 0] 29) := by rw [← hW0]; simp only [alloc_get, World.size_alloc]; repeat (first | exact if_pos trivial | exact if_pos (by omega) | rw [if_neg (by omega)])
  clear hW0
  have hb0 : Below w.heap.size w W0 := hst_W0.below (Nat.le_refl _) (fun _ _ h => h)
  cases hok : b.ok with
  | false =>
    have hB : bPossible b east north = (0, 1) := by simp [bPossible, hok]
    have HB := Lib.hid hB
    clear hB
    refine ⟨trivial, rfl, (callsIn_wide.2 (open_no b fa sa fc sc W0 hok (hf.below hb0 (Nat.le_refl _)) (hs.below hb0 (Nat.le_refl _)) hlf hls)).mono ?_⟩
    rintro e W1 ⟨rfl, hb1⟩
    have hW1 : w.heap.size + 2 < W1.heap.size := by have := hb1.size; omega
    have j1 := obj_later hb1 g1_W0
    have j2 := obj_later hb1 g2_W0
    refine doorM_panic (y := 0) (v := .tuple #[.int .i64 0, .int .i64 1]) (cell_block j2 0) (frozen_block j2 0) (fun W' hs' hc' _ => ?_)
    have i1 : W'.heap[w.heap.size + 1]? = some (.cells #[.int .i64 0] 3) := hs'.obj (by omega) j1
    have c10 := cell_block i1 0
    simp only [List.getElem?_toArray, List.getElem?_cons_zero, List.getElem?_cons_succ] at c10
    refine ⟨by simp [results, Try.results15, go_sem, hc', c10], ?_⟩
    unfold PossiblePost
    rw [HB.out]
    exact ⟨rfl, hb0.trans ((hb1.mono hb0.size).trans (hs'.below (by omega) (fun k hk h => by omega)))⟩
  | true =>
    refine ⟨trivial, rfl, (callsIn_wide.2 (open_yes b fa sa fc sc W0 hok (hf.below hb0 (Nat.le_refl _)) (hs.below hb0 (Nat.le_refl _)))).mono ?_⟩
    rintro e W1 ⟨p, r, rfl, hB1, hr1, hrl, hpl, hb1⟩
    have hW1 : w.heap.size + 2 < W1.heap.size := by have := hb1.size; omega
    have hk1 : KnownOk W1 r b := ⟨_, _, hr1, by simp⟩
    have hlens := bo_lens hok
    obtain ⟨q3, hq3⟩ : ∃ q, b.shift (east, north) = q := ⟨_, rfl⟩
    have HQ3 := Lib.hid hq3
    clear hq3
    gi_wp2_with fail
    obtain ⟨W2, hW2⟩ : ∃ W, (W1.alloc (.cells #[.int .i64 east, .int .i64 north] 72)) = W := ⟨_, rfl⟩
    rw [hW2]
    try simp only [Nat.add_assoc, Nat.reduceAdd]
    have hst_W2 : Steps (fun _ => False) W1 W2 := by rw [← hW2]; exact Steps.alloc _ W1 _
    have hz_W2 : W2.heap.size = W1.heap.size + 1 := by rw [← hW2]; simp
    have g0_W2 : W2.heap[W1.heap.size]? = some (.cells #[.int .i64 east, .int .i64 north] 72) := by rw [← hW2]; simp only [alloc_get, World.size_alloc]; repeat (first | exact if_pos trivial | exact if_pos (by omega) | rw [if_neg (by omega)])
    clear hW2
    have hb2 : Below W1.heap.size W1 W2 := hst_W2.below (Nat.le_refl _) (fun _ _ h => h)
    have hB2 := hB1.later hb2
    have hk2 := hk1.steps hst_W2 (fun h => h)
    have hbw : Below w.heap.size w W2 := hb0.trans ((hb1.mono hb0.size).trans (hb2.mono (by omega)))
    refine ⟨trivial, rfl, (callsIn_wide.2 (isShift_any p b fa sa fc sc (east, north) _ hB2.bo)).mono ?_⟩
    rintro e W3 ⟨rfl, hb3⟩
    rw [HQ3.out]
    have j1 := obj_later hb3 (obj_later hb2 (obj_later hb1 g1_W0))
    have j2 := obj_later hb3 (obj_later hb2 (obj_later hb1 g2_W0))
    have hz3 := hb3.size
    cases q3 with
    | false =>
      have hB : bPossible b east north = (0, 2) := by simp [bPossible, hok, HQ3.out]
      have HB := Lib.hid hB
      clear hB
      gi_wp2_with (refine ⟨trivial, rfl, ?_⟩; gi_at_call 42; refine (callsIn_wide.2 (must_no _ _)).mono ?_; rintro e w' ⟨rfl, rfl⟩)
      refine doorM_panic (y := 0) (v := .tuple #[.int .i64 0, .int .i64 2]) (cell_block j2 0) (frozen_block j2 0) (fun W' hs' hc' _ => ?_)
      have i1 : W'.heap[w.heap.size + 1]? = some (.cells #[.int .i64 0] 3) := hs'.obj (by omega) j1
      have c10 := cell_block i1 0
      simp only [List.getElem?_toArray, List.getElem?_cons_zero, List.getElem?_cons_succ] at c10
      refine ⟨by simp [results, Try.results15, go_sem, hc', c10], ?_⟩
      unfold PossiblePost
      rw [HB.out]
      exact ⟨rfl, hbw.trans ((hb3.mono (by omega)).trans (hs'.below (by omega) (fun k hk h => by omega)))⟩
    | true =>
      have hB : bPossible b east north = ((bJoins b (sures b.fs) (sures b.ss) (east, north)).length, 0) := by simp [bPossible, hok, HQ3.out]
      have HB := Lib.hid hB
      clear hB
      have hB3 := hB2.later hb3
      have hk3 : KnownOk W3 r b := by
        obtain ⟨es, clk, h1, h2⟩ := hk2
        exact ⟨es, clk, obj_later hb3 h1, h2⟩
      have i0 := obj_later hb3 g0_W2
      have e0 := cell_block i0 0
      have e1 := cell_block i0 1
      simp only [List.getElem?_toArray, List.getElem?_cons_zero, List.getElem?_cons_succ] at e0 e1
      have f6 : sures b.fs < 2 ^ 6 := Nat.lt_of_lt_of_le (sures_lt _) (Nat.pow_le_pow_right (by omega) hlens.1)
      have s6 : sures b.ss < 2 ^ b.ss.length := sures_lt _
      have hm := joinings_made p b fa sa fc sc (sures b.fs) (sures b.ss) r (east, north) W3 hB3 hk3 hok HQ3.out
      gi_wp2_with (first | (refine ⟨trivial, rfl, ?_⟩; gi_at_call 42; refine (callsIn_wide.2 (must_yes _ _)).mono ?_; rintro e w' ⟨rfl, rfl⟩) | (refine ⟨trivial, rfl, ?_⟩; gi_at_call 50; refine (callsIn_wide.2 hm).mono ?_; rintro e Wj ⟨B2, B5, rfl, hjm, hB2', hB5', hs1, hkj⟩))
      have hzj := hs1.size
      have hBj : BrdAt Wj p b fa sa fc sc (sures b.fs) (sures b.ss) r := hB3.steps hs1 hk3
      have n1 : Wj.heap[w.heap.size + 1]? = some (.cells #[.int .i64 0] 3) := hs1.obj (by omega) j1
      have n2 : Wj.heap[w.heap.size + 2]? = some (.cells #[.int .i64 0] 29) := hs1.obj (by omega) j2
      have hbj : Below w.heap.size w Wj := hbw.trans ((hb3.mono (by omega)).trans (hs1.below (by omega) (fun k hk h => by omega)))
      have hpj := World.block_lt_of_cell? Wj _ hBj.c6
      have hp2 := World.block_lt_of_cell? Wj _ hjm.c2
      have hp5 := World.block_lt_of_cell? Wj _ (hjm.c5 0 (by omega))
      dsimp only at hpj hp2 hp5
      have hpne : p ≠ w.heap.size + 1 := by omega
      clear hs1 j1 j2 e0 e1 i0 hm hk3 hB3 hB2 hk2 hb2 hB1 hk1 hr1
      refine wpIn_range_own (α := List Int) (gf := 73) (lb := #[.pointer (some ⟨B2, 0, none⟩), .pointer (some ⟨B5, 0, none⟩)]) (L := bJoins b (sures b.fs) (sures b.ss) (east, north)) (Enc := JoinEnc (Wj.heap.size + 2)) (Kp := KeepCells (fun k => k = p ∨ k = B2 ∨ k = B5))
        rfl (enters_of Try.func73 (by kernel_rfl) rfl) ?seq KeepCells.trans ?kb ?ps
        (fun own pre W => (∀ k, own k → Wj.heap.size ≤ k) ∧ Boxed W (w.heap.size + 1) 3 (.int .i64 pre.length) ∧ Steps (fun k => k = w.heap.size + 1 ∨ Wj.heap.size ≤ k) Wj W)
        (fun _ _ _ _ => False) ?bi (fun c own own' x A C h _ _ => h) ⟨fun _ h => h.elim, n1, Steps.refl _ _⟩ ?enc ?round ?done (fun _ _ _ _ _ _ _ _ h => h.elim)
      case seq =>
        intro W1 hs hz
        exact joinings_iter (hBj.later (hs.below (Nat.le_refl _) (fun _ _ h => h))) (hjm.keep (KeepCells.of_steps hs (fun _ _ h => h))) hok f6 s6 (by omega)
      case kb =>
        intro A C hA hs
        exact KeepCells.of_steps hs (fun k hk h => by omega)
      case ps => rintro own x vals W ⟨q, cap, rfl, _⟩; rfl
      case bi =>
        rintro own own' x A C ⟨h2, h4, h3⟩ hs ho
        exact ⟨fun k hk => by rcases ho k hk with h | h; exact h2 k h; have := h3.size; omega, hs.obj (fun h => by have := h2 _ h; omega) h4, h3.trans hs (fun k _ hk => .inr (h2 k hk))⟩
      case enc => exact fun own own' x vals W hw h => joinEnc_wider (fun k hk => by rcases hw k hk with h | h | h; exact .inl h; exact .inr (by omega); exact .inr (by omega)) h
      case round =>
        rintro l own pre x vals W hl hol hrec hpost ⟨hown, hbx, hsW⟩ hen
        obtain ⟨q, cap, rfl, _⟩ := hen
        have hlen : pre.length < 117650 := by
          obtain ⟨post, hp⟩ := hpost
          have := bJoins_len hok (sures b.fs) (sures b.ss) (east, north)
          rw [hp, List.length_append] at this
          omega
        have hsz := hsW.size
        gi_wp2
        refine ⟨fun _ _ => trivial, Nat.le_refl _, fun W2' h2 hz2 hl2 => ?_⟩
        have hX2 : Boxed W2' (w.heap.size + 1) 3 (.int .i64 pre.length) := h2.obj (by omega) hbx
        have hXc := hX2.cell
        have hXf := hX2.frozen
        gi_wp2
        have hst := Steps.setCell (own := fun k => k = w.heap.size + 1) W2' (p := ⟨w.heap.size + 1, 0, none⟩) rfl (.int .i64 ((pre.length : Int) + 1))
        have hset := hX2.set (.int .i64 ((pre.length : Int) + 1))
        refine ⟨fun k hk => ?_, hst.size, ?_, hown, ?_, (hsW.mono (fun _ _ h => h)).trans ((h2.mono (own' := fun k => k = l ∨ k = w.heap.size + 1) (fun _ _ h => .inl h)).trans hst (fun _ _ h => .inr h)) (fun k _ h => by omega)⟩
        · exact Below.heap_setCell _ _ _ _ (by have := hown k hk; show ¬ k = w.heap.size + 1; omega)
        · exact KeepCells.of_steps ((h2.mono (own' := fun k => k = l ∨ k = w.heap.size + 1) (fun _ _ h => .inl h)).trans hst (fun _ _ h => .inr h)) (fun k hk h => by omega)
        · rw [List.length_append, List.length_singleton]
          exact hset
      case done =>
        rintro D own W hD hoD ⟨hown, hX2, hsW⟩ hK
        have hlen := bJoins_len hok (sures b.fs) (sures b.ss) (east, north)
        have hB' := HB.out
        generalize (bJoins b (sures b.fs) (sures b.ss) (east, north)).length = N at hlen hX2 hB'
        have HB' := Lib.hid hB'
        clear hB' HB
        have hE2 : W.heap[w.heap.size + 2]? = some (.cells #[.int .i64 0] 29) := hsW.obj (by omega) n2
        have hXc := hX2.cell
        have hXf := hX2.frozen
        have hEc := cell_block hE2 0
        have hEf := frozen_block hE2 0
        simp only [List.getElem?_toArray, List.getElem?_cons_zero, List.getElem?_cons_succ] at hEc
        have hsz := hsW.size
        have hDne : D ≠ w.heap.size + 1 ∧ D ≠ w.heap.size + 2 := by omega
        gi_wp2
        have m1 : ((W.setCell ⟨w.heap.size + 1, 0, none⟩ (.int .i64 N)).setCell ⟨w.heap.size + 2, 0, none⟩ (.int .i64 0)).heap[w.heap.size + 1]? = some (.cells #[.int .i64 N] 3) := block_other (hX2.set (.int .i64 N)) (by omega) 0 _
        have m2 : ((W.setCell ⟨w.heap.size + 1, 0, none⟩ (.int .i64 N)).setCell ⟨w.heap.size + 2, 0, none⟩ (.int .i64 0)).heap[w.heap.size + 2]? = some (.cells #[.int .i64 0] 29) := by
          have := block_set (block_other hE2 (show w.heap.size + 2 ≠ w.heap.size + 1 by omega) 0 (.int .i64 N)) 0 (.int .i64 0)
          simpa using this
        have m3 : ((W.setCell ⟨w.heap.size + 1, 0, none⟩ (.int .i64 N)).setCell ⟨w.heap.size + 2, 0, none⟩ (.int .i64 0)).heap[D]? = some (.deferred (some [])) := block_other (block_other hK hDne.1 0 _) hDne.2 0 _
        have mS : Below w.heap.size w ((W.setCell ⟨w.heap.size + 1, 0, none⟩ (.int .i64 N)).setCell ⟨w.heap.size + 2, 0, none⟩ (.int .i64 0)) :=
          ((hbj.trans (hsW.below (by have := hbj.size; omega) (fun k hk h => by omega))).setCell (p := ⟨w.heap.size + 1, 0, none⟩) (by show w.heap.size ≤ w.heap.size + 1; omega) _).setCell (p := ⟨w.heap.size + 2, 0, none⟩) (by show w.heap.size ≤ w.heap.size + 2; omega) _
        generalize (W.setCell ⟨w.heap.size + 1, 0, none⟩ (.int .i64 N)).setCell ⟨w.heap.size + 2, 0, none⟩ (.int .i64 0) = W9 at m1 m2 m3 mS ⊢
        refine doorM_ret (v := .tuple #[.int .i64 N, .int .i64 0]) m3 (fun X hX _ => ?_)
        have c1 := cell_block (show X.heap[w.heap.size + 1]? = _ from hX.obj (by omega) m1) 0
        have c2 := cell_block (show X.heap[w.heap.size + 2]? = _ from hX.obj (by omega) m2) 0
        simp only [List.getElem?_toArray, List.getElem?_cons_zero, List.getElem?_cons_succ] at c1 c2
        refine ⟨by simp [results, Try.results15, go_sem, c1, c2], ?_⟩
        unfold PossiblePost
        rw [HB'.out]
        exact ⟨rfl, mS.trans (hX.below mS.size (fun k hk h => by have := hbj.size; omega))⟩
end Go.Proofs.Ytjkegmjjhdmkiaa
namespace Go.Proofs.Ytjkegmjjhdmkiaa
open Go.RowKit Go.Shelf
set_option maxHeartbeats 1600000
set_option maxRecDepth 100000
set_option linter.unusedSimpArgs false

/-- Both sets of Sure stars in one number. -/
def allSure (b : Bo) : Nat := sures b.fs * 64 + sures b.ss
def canSet (b : Bo) (t : Nat) : Bool := bCan b (t / 64) (t % 64)
/-- The fewest stars that contradict each other, the least such set. -/
structure IsClash (b : Bo) (t : Nat) : Prop where
  le : t ≤ allSure b
  sub : andN t (allSure b) = 0
  no : canSet b t = false
  few : ∀ t', t' ≤ allSure b → andN t' (allSure b) = 0 → popc 12 t' < popc 12 t → canSet b t' = true
  least : ∀ t', t' < t → andN t' (allSure b) = 0 → popc 12 t' = popc 12 t → canSet b t' = true

def ClashOut (b : Bo) (e : Ending) : Prop :=
  if b.ok then
    if bCan b (sures b.fs) (sures b.ss) then e = .returned (.tuple #[.int .i64 0, .int .i64 0, .int .i64 4])
    else ∃ t, IsClash b t ∧ e = .returned (.tuple #[.int .i64 (t / 64 : Nat), .int .i64 (t % 64 : Nat), .int .i64 0])
  else e = .returned (.tuple #[.int .i64 0, .int .i64 0, .int .i64 1])
def ClashPost (b : Bo) (w : World) (e : Ending) (w' : World) : Prop := ClashOut b e ∧ Below w.heap.size w w'

theorem allSure_bits (b : Bo) (hf : sures b.fs < 2 ^ 6) (hs : sures b.ss < 2 ^ 6) : bits BinOp.or IntKind.u64 (IntKind.u64.wrap ((sures b.fs : Int) * 64)) (sures b.ss : Int) = ((allSure b : Nat) : Int) := by
  unfold allSure
  generalize sures b.fs = f at hf
  generalize sures b.ss = s at hs
  have h1 : IntKind.u64.wrap ((f : Int) * 64) = ((f * 64 : Nat) : Int) := by rw [IntKind.wrap_u64]; omega
  rw [h1, or_u64 _ _ (by omega) (by omega)]
  have h2 := Nat.two_pow_add_eq_or_of_lt (i := 6) hs f
  rw [show f * 64 = 2 ^ 6 * f by omega, h2]
theorem allSure_lt {b : Bo} (hf : sures b.fs < 2 ^ 6) (hs : sures b.ss < 2 ^ 6) : allSure b < 4096 := by unfold allSure; omega
theorem allSure_div {b : Bo} (hs : sures b.ss < 2 ^ 6) : allSure b / 64 = sures b.fs ∧ allSure b % 64 = sures b.ss := by unfold allSure; omega
theorem allSure_bit {b : Bo} (hs : sures b.ss < 2 ^ 6) (k : Nat) : (allSure b).testBit k = if k < 6 then (sures b.ss).testBit k else (sures b.fs).testBit (k - 6) := by
  unfold allSure
  have h2 := Nat.two_pow_add_eq_or_of_lt (i := 6) hs (sures b.fs)
  rw [show sures b.fs * 64 = 2 ^ 6 * sures b.fs by omega, h2, Nat.testBit_or, Nat.mul_comm, Nat.testBit_mul_two_pow]
  by_cases h : k < 6
  · simp [h, show ¬ 6 ≤ k by omega]
  · have : (sures b.ss).testBit k = false := Nat.testBit_lt_two_pow (Nat.lt_of_lt_of_le hs (Nat.pow_le_pow_right (by omega) (by omega)))
    simp [h, this, show 6 ≤ k by omega]

theorem popc_le : ∀ n s, popc n s ≤ n
  | 0, _ => Nat.le_refl _
  | n + 1, s => by unfold popc; have := popc_le n s; split <;> omega

/-- Where a region ends in a panic alone, of a function with these slots for results. -/
def onPanic (ts : List (Nat × Value)) (ds : List Deferred) (G : List PanicEntry → World → Prop) : Exit → Act → World → Prop
  | .panic c, a, w => (∀ x ∈ ts, a.tmps[x.1]? = some x.2) ∧ a.defers = ds ∧ G c w
  | _, _, _ => False
theorem onPanic_put {ts : List (Nat × Value)} {ds : List Deferred} {G : List PanicEntry → World → Prop} (d : Nat) (hd : (ts.all fun x => x.1 != d) = true) (v : Value) (c : List PanicEntry) (a : Act) (w : World)
    (h : onPanic ts ds G (.panic c) (a.put (some d) v) w) : onPanic ts ds G (.panic c) a w := by
  obtain ⟨h1, h2, h3⟩ := h
  refine ⟨fun x hx => ?_, h2, h3⟩
  have h4 := h1 x hx
  have h5 : x.1 ≠ d := by simpa using List.all_eq_true.1 hd x hx
  simp only [Act.put] at h4
  rw [Array.getElem?_setIfInBounds_ne (Ne.symm h5)] at h4
  exact h4

theorem andN_self {A : Nat} : (hA : A < 4096) → andN A A = 0 := fun hA => by
  refine Nat.eq_of_testBit_eq (fun k => ?_)
  rw [Nat.zero_testBit]
  by_cases h : k < 64
  · rw [andN_testBit A A k (by omega) h]; simp
  · exact Nat.testBit_lt_two_pow (Nat.lt_of_le_of_lt Nat.and_le_left (Nat.lt_of_lt_of_le hA (Nat.le_trans (by decide : 4096 ≤ 2 ^ 12) (Nat.pow_le_pow_right (by omega) (by omega)))))
theorem clash_low {b : Bo} {A t : Nat} (hA : allSure b = A) (hf6 : sures b.fs < 2 ^ 6) (s6 : sures b.ss < 2 ^ b.ss.length) (s66 : sures b.ss < 2 ^ 6) (h : andN t A = 0) : t % 64 < 2 ^ b.ss.length := by
  subst hA
  refine Nat.lt_pow_two_of_testBit _ (fun k hk => ?_)
  rw [show (64 : Nat) = 2 ^ 6 from rfl, Nat.testBit_mod_two_pow]
  by_cases h6 : k < 6
  · have h1 := andN_testBit t (allSure b) k (Nat.lt_of_lt_of_le (show allSure b < 2 ^ 64 by unfold allSure; omega) (Nat.le_refl _)) (by omega)
    rw [h, Nat.zero_testBit, allSure_bit s66 k, if_pos h6, Nat.testBit_lt_two_pow (Nat.lt_of_lt_of_le s6 (Nat.pow_le_pow_right (by omega) hk))] at h1
    simp at h1
    simp [h1]
  · simp [h6]

theorem clash_any (b : Bo) (fa sa : Option Addr) (fc sc : Nat) (w : World) (hb : BoArg w b fa sa) :
    Calls Try.prog 25 #[.agg #[.int .i64 b.e.lo, .int .i64 b.e.hi, .int .i64 b.n.lo, .int .i64 b.n.hi, .slice fa b.fs.length fc, .slice sa b.ss.length sc]] w (ClashPost b w) := by
  obtain ⟨hf, hs, hlf, hls⟩ := hb
  go_enter_defers Try.func25, Try.ntmps25
  go_wp2_with fail
  obtain ⟨W0, hW0⟩ : ∃ W, ((w.alloc (.cells #[.int .i64 b.e.lo, .int .i64 b.e.hi, .int .i64 b.n.lo, .int .i64 b.n.hi, .slice fa b.fs.length fc, .slice sa b.ss.length sc] 26)).alloc (.cells #[.int .i64 0] 29)) = W := ⟨_, rfl⟩
  rw [hW0]
  try simp only [Nat.add_assoc, Nat.reduceAdd]
  have hst_W0 : Steps (fun _ => False) w W0 := by rw [← hW0]; exact (Steps.alloc _ w _).trans (Steps.alloc (fun _ => False) _ _) (fun _ _ h => h)
  have hz_W0 : W0.heap.size = w.heap.size + 2 := by rw [← hW0]; simp
  have g0_W0 : W0.heap[w.heap.size]? = some (.cells #[.int .i64 b.e.lo, .int .i64 b.e.hi, .int .i64 b.n.lo, .int .i64 b.n.hi, .slice fa b.fs.length fc, .slice sa b.ss.length sc] 26) := by rw [← hW0]; simp only [alloc_get, World.size_alloc]; repeat (first | exact if_pos trivial | exact if_pos (by omega) | rw [if_neg (by omega)])
  have g1_W0 : W0.heap[w.heap.size + 1]? = some (.cells #[.int .i64 0] 29) := by rw [← hW0]; simp only [alloc_get, World.size_alloc]; repeat (first | exact if_pos trivial | exact if_pos (by omega) | rw [if_neg (by omega)])
  clear hW0
  have hb0 : Below w.heap.size w W0 := hst_W0.below (Nat.le_refl _) (fun _ _ h => h)
  cases hok : b.ok with
  | false =>
    have hB : ∀ e, e = .returned (.tuple #[.int .i64 0, .int .i64 0, .int .i64 1]) → ClashOut b e := fun e h => by simp [ClashOut, hok, h]
    have HB := Lib.hid hB
    clear hB
    refine (open_no b fa sa fc sc W0 hok (hf.below hb0 (Nat.le_refl _)) (hs.below hb0 (Nat.le_refl _)) hlf hls).mono ?_
    rintro e W1 ⟨rfl, hb1⟩
    have hW1 : w.heap.size + 1 < W1.heap.size := by have := hb1.size; omega
    have j1 := obj_later hb1 g1_W0
    refine door_panic (y := 0) (v := .tuple #[.int .i64 0, .int .i64 0, .int .i64 1]) (cell_block j1 0) (frozen_block j1 0) (fun W' hs' hc' _ => ?_)
    exact ⟨by simp [results, Try.results25, go_sem, hc'], HB.out _ rfl, hb0.trans ((hb1.mono hb0.size).trans (hs'.below (by omega) (fun k hk h => by omega)))⟩
  | true =>
    refine (open_yes b fa sa fc sc W0 hok (hf.below hb0 (Nat.le_refl _)) (hs.below hb0 (Nat.le_refl _))).mono ?_
    rintro e W1 ⟨p, r, rfl, hB1, hr1, hrl, hpl, hb1⟩
    have hW1 : w.heap.size + 1 < W1.heap.size := by have := hb1.size; omega
    have hk1 : KnownOk W1 r b := ⟨_, _, hr1, by simp⟩
    have hlens := bo_lens hok
    have f6 : sures b.fs < 2 ^ 6 := Nat.lt_of_lt_of_le (sures_lt _) (Nat.pow_le_pow_right (by omega) hlens.1)
    have s6 : sures b.ss < 2 ^ b.ss.length := sures_lt _
    have s66 : sures b.ss < 2 ^ 6 := Nat.lt_of_lt_of_le s6 (Nat.pow_le_pow_right (by omega) hlens.2)
    have hcan := can_any p b fa sa fc sc (sures b.fs) (sures b.ss) r (sures b.fs) (sures b.ss) W1.drew (hB1.later (below_drew _)) (hk1.steps (Steps.refl (fun _ => False) W1).drew (fun h => h)) hok f6 s6
    have c6 := hB1.c6
    have c7 := hB1.c7
    have k6 : ∀ W', KeepCells (fun k => k = p) W1 W' → W'.cell? ⟨p, 6, none⟩ = some (.int .u64 (sures b.fs)) := fun W' h => h ⟨p, 6, none⟩ _ rfl c6
    have k7 : ∀ W', KeepCells (fun k => k = p) W1 W' → W'.cell? ⟨p, 7, none⟩ = some (.int .u64 (sures b.ss)) := fun W' h => h ⟨p, 7, none⟩ _ rfl c7
    have j1 := obj_later hb1 g1_W0
    have hprn := brd_ne hB1 hk1
    go_upto_region 3 with fail
    cases hq : bCan b (sures b.fs) (sures b.ss) with
    | true =>
      have hB : ∀ e, e = .returned (.tuple #[.int .i64 0, .int .i64 0, .int .i64 4]) → ClashOut b e := fun e h => by simp [ClashOut, hok, hq, h]
      have HB := Lib.hid hB
      clear hB
      have HQ := Lib.hid hq
      clear hq
      refine (wpIn_wide (n := 1)).1 ?_
      refine wpIn_mono (Q := onPanic [(2, .int .i64 0), (3, .int .i64 0), (4, .pointer (some ⟨w.heap.size + 1, 0, none⟩))] [toldD (w.heap.size + 1)] (fun c W => c = failed 4 ∧ Steps (fun k => k = r) W1 W)) ?_ ?_
      · refine wpIn_region_W (S := fun W' => KeepCells (fun k => k = p) W1 W') 12 (by kernel_rfl) (by kernel_rfl) (fun a v _ h => h) (fun hHeld => ?_)
        have hQ := onPanic_put (ts := [(2, .int .i64 0), (3, .int .i64 0), (4, .pointer (some ⟨w.heap.size + 1, 0, none⟩))]) (ds := [toldD (w.heap.size + 1)]) (G := fun c W => c = failed 4 ∧ Steps (fun k => k = r) W1 W)
        have hQq : ∀ d, (([2, 3, 4] : List Nat).all fun x => x != d) = true → ∀ v c a W, onPanic [(2, .int .i64 0), (3, .int .i64 0), (4, .pointer (some ⟨w.heap.size + 1, 0, none⟩))] [toldD (w.heap.size + 1)] (fun c W => c = failed 4 ∧ Steps (fun k => k = r) W1 W) (.panic c) (a.put (some d) v) W →
          onPanic [(2, .int .i64 0), (3, .int .i64 0), (4, .pointer (some ⟨w.heap.size + 1, 0, none⟩))] [toldD (w.heap.size + 1)] (fun c W => c = failed 4 ∧ Steps (fun k => k = r) W1 W) (.panic c) a W := fun d hd v c a W h => hQ d (by simpa using hd) v c a W h
        refine wpAnyW_takeD 0 13 (v := ?_) (by kernel_rfl) (by kernel_rfl) (by kernel_rfl) (by kernel_rfl) (fun c a w h => hQq 13 (by decide) _ c a w h) ?_ (by assumption) ?_
        rotate_left
        · intro oi hoi w hSw; (try dsimp only at hSw); simp only [List.getElem?_toArray, List.getElem?_cons_zero, List.getElem?_cons_succ, Option.some.injEq] at hoi; subst hoi; go_simp; try with_reducible rfl
        simp only [Act.put, List.setIfInBounds_toArray, List.set_cons_zero, List.set_cons_succ]
        refine wpAnyW_takeD 1 14 (v := ?_) (by kernel_rfl) (by kernel_rfl) (by kernel_rfl) (by kernel_rfl) (fun c a w h => hQq 14 (by decide) _ c a w h) ?_ (by assumption) ?_
        rotate_left
        · intro oi hoi w hSw; (try dsimp only at hSw); simp only [List.getElem?_toArray, List.getElem?_cons_zero, List.getElem?_cons_succ, Option.some.injEq] at hoi; subst hoi; go_simp; try with_reducible rfl
        simp only [Act.put, List.setIfInBounds_toArray, List.set_cons_zero, List.set_cons_succ]
        refine wpAnyW_takeD 2 15 (v := ?_) (by kernel_rfl) (by kernel_rfl) (by kernel_rfl) (by kernel_rfl) (fun c a w h => hQq 15 (by decide) _ c a w h) ?_ (by assumption) ?_
        rotate_left
        · intro oi hoi w hSw; (try dsimp only at hSw); simp only [List.getElem?_toArray, List.getElem?_cons_zero, List.getElem?_cons_succ, Option.some.injEq] at hoi; subst hoi; go_simp; try with_reducible rfl
        simp only [Act.put, List.setIfInBounds_toArray, List.set_cons_zero, List.set_cons_succ]
        refine wpAnyW_takeD 3 16 (v := ?_) (by kernel_rfl) (by kernel_rfl) (by kernel_rfl) (by kernel_rfl) (fun c a w h => hQq 16 (by decide) _ c a w h) ?_ (by assumption) ?_
        rotate_left
        · intro oi hoi w hSw; (try dsimp only at hSw); simp only [List.getElem?_toArray, List.getElem?_cons_zero, List.getElem?_cons_succ, Option.some.injEq] at hoi; subst hoi; go_simp; try with_reducible rfl
        simp only [Act.put, List.setIfInBounds_toArray, List.set_cons_zero, List.set_cons_succ]
        refine wpAnyW_takeD 4 17 (v := ?_) (by kernel_rfl) (by kernel_rfl) (by kernel_rfl) (by kernel_rfl) (fun c a w h => hQq 17 (by decide) _ c a w h) ?_ (by assumption) ?_
        rotate_left
        · intro oi hoi w hSw; (try dsimp only at hSw); simp only [List.getElem?_toArray, List.getElem?_cons_zero, List.getElem?_cons_succ, Option.some.injEq] at hoi; subst hoi; go_simp; try with_reducible rfl
        simp only [Act.put, List.setIfInBounds_toArray, List.set_cons_zero, List.set_cons_succ]
        refine wpAnyW_takeD 5 18 (v := ?_) (by kernel_rfl) (by kernel_rfl) (by kernel_rfl) (by kernel_rfl) (fun c a w h => hQq 18 (by decide) _ c a w h) ?_ (by assumption) ?_
        rotate_left
        · intro oi hoi w hSw; (try dsimp only at hSw); simp only [List.getElem?_toArray, List.getElem?_cons_zero, List.getElem?_cons_succ, Option.some.injEq] at hoi; subst hoi; go_simp; try with_reducible rfl
        simp only [Act.put, List.setIfInBounds_toArray, List.set_cons_zero, List.set_cons_succ]
        refine wpAnyW_takeD 6 19 (v := ?_) (by kernel_rfl) (by kernel_rfl) (by kernel_rfl) (by kernel_rfl) (fun c a w h => hQq 19 (by decide) _ c a w h) ?_ (by assumption) ?_
        rotate_left
        · intro oi hoi w hSw; (try dsimp only at hSw); simp only [List.getElem?_toArray, List.getElem?_cons_zero, List.getElem?_cons_succ, Option.some.injEq] at hoi; subst hoi; go_simp; try with_reducible rfl
        simp only [Act.put, List.setIfInBounds_toArray, List.set_cons_zero, List.set_cons_succ]
        refine wpAnyW_takeD 7 20 (v := ?_) (by kernel_rfl) (by kernel_rfl) (by kernel_rfl) (by kernel_rfl) (fun c a w h => hQq 20 (by decide) _ c a w h) ?_ (by assumption) ?_
        rotate_left
        · intro oi hoi w hSw; (try dsimp only at hSw); simp only [List.getElem?_toArray, List.getElem?_cons_zero, List.getElem?_cons_succ, Option.some.injEq] at hoi; subst hoi; go_simp; try with_reducible rfl
        simp only [Act.put, List.setIfInBounds_toArray, List.set_cons_zero, List.set_cons_succ]
        refine wpAnyW_takeD 8 21 (v := ?_) (by kernel_rfl) (by kernel_rfl) (by kernel_rfl) (by kernel_rfl) (fun c a w h => hQq 21 (by decide) _ c a w h) ?_ (by assumption) ?_
        rotate_left
        · intro oi hoi w hSw; (try dsimp only at hSw); simp only [List.getElem?_toArray, List.getElem?_cons_zero, List.getElem?_cons_succ, Option.some.injEq] at hoi; subst hoi; go_simp; try with_reducible rfl
        simp only [Act.put, List.setIfInBounds_toArray, List.set_cons_zero, List.set_cons_succ]
        refine wpAnyW_one 9 (by kernel_rfl) (by kernel_rfl) ?_
        intro o ho K hK
        simp only [List.getElem?_toArray, List.getElem?_cons_zero, List.getElem?_cons_succ, Option.some.injEq] at ho
        subst ho
        go_simp
        refine ⟨trivial, CallsIn.mono (callsIn_wide.2 hcan) ?_⟩
        rintro e W2 ⟨rfl, hs2, hk2⟩
        rw [HQ.out]
        have hs2' : Steps (fun k => k = r) W1 W2 := (Steps.refl (fun k => k = r) W1).drew.trans hs2 (fun _ _ h => h)
        refine hK _ _ (KeepCells.of_steps hs2' (fun k hk h => by omega)) (fun _ => ?_)
        clear hK K
        try simp only [Act.put, List.setIfInBounds_toArray, List.set_cons_zero, List.set_cons_succ]
        refine wpAnyW_takeD 10 23 (v := ?_) (by kernel_rfl) (by kernel_rfl) (by kernel_rfl) (by kernel_rfl) (fun c a w h => hQq 23 (by decide) _ c a w h) ?_ (by assumption) ?_
        rotate_left
        · intro oi hoi w hSw; (try dsimp only at hSw); simp only [List.getElem?_toArray, List.getElem?_cons_zero, List.getElem?_cons_succ, Option.some.injEq] at hoi; subst hoi; go_simp; try with_reducible rfl
        simp only [Act.put, List.setIfInBounds_toArray, List.set_cons_zero, List.set_cons_succ]
        refine wpAnyW_one 11 (by kernel_rfl) (by kernel_rfl) ?_
        intro o ho K hK
        simp only [List.getElem?_toArray, List.getElem?_cons_zero, List.getElem?_cons_succ, Option.some.injEq] at ho
        subst ho
        go_simp
        refine ⟨trivial, CallsIn.mono (callsIn_wide.2 (must_no _ _)) ?_⟩
        rintro e W3 ⟨rfl, rfl⟩
        exact ⟨by simp, rfl, rfl, hs2'⟩
      · rintro e ⟨tm, ds⟩ W h
        cases e with
        | panic c =>
          obtain ⟨h1, h2, rfl, h4⟩ := h
          simp only at h1 h2
          subst h2
          have i1 : W.heap[w.heap.size + 1]? = some (.cells #[.int .i64 0] 29) := h4.obj (by omega) j1
          have m2 := h1 (2, .int .i64 0) (by simp)
          have m3 := h1 (3, .int .i64 0) (by simp)
          have m4 := h1 (4, .pointer (some ⟨w.heap.size + 1, 0, none⟩)) (by simp)
          simp only at m2 m3 m4
          have hz4 := h4.size
          show bodyPostD _ _ _ (.panic _) _ _
          refine door_panic (y := 0) (v := .tuple #[.int .i64 0, .int .i64 0, .int .i64 4]) (cell_block i1 0) (frozen_block i1 0) (fun W' hs' hc' _ => ?_)
          exact ⟨by simp [results, Try.results25, go_sem, hc', m2, m3, m4], HB.out _ rfl, hb0.trans ((hb1.mono hb0.size).trans ((h4.below (by omega) (fun k hk h => by omega)).trans (hs'.below (by omega) (fun k hk h => by omega))))⟩
        | _ => exact h.elim
    | false =>
      have HQ := Lib.hid hq
      clear hq
      refine (wpIn_wide (n := 1)).1 ?_
      refine wpIn_region_Wn (S := fun W' => KeepCells (fun k => k = p) W1 W') 12 (by kernel_rfl) (by kernel_rfl) (fun a v _ h => h) (fun hHeld => ?_)
      refine wpAnyW_takeD 0 13 (v := ?_) (by kernel_rfl) (by kernel_rfl) (by kernel_rfl) (by kernel_rfl) (fun _ _ _ h => h) ?_ (by assumption) ?_
      rotate_left
      · intro oi hoi w hSw; (try dsimp only at hSw); simp only [List.getElem?_toArray, List.getElem?_cons_zero, List.getElem?_cons_succ, Option.some.injEq] at hoi; subst hoi; go_simp; try with_reducible rfl
      simp only [Act.put, List.setIfInBounds_toArray, List.set_cons_zero, List.set_cons_succ]
      refine wpAnyW_takeD 1 14 (v := ?_) (by kernel_rfl) (by kernel_rfl) (by kernel_rfl) (by kernel_rfl) (fun _ _ _ h => h) ?_ (by assumption) ?_
      rotate_left
      · intro oi hoi w hSw; (try dsimp only at hSw); simp only [List.getElem?_toArray, List.getElem?_cons_zero, List.getElem?_cons_succ, Option.some.injEq] at hoi; subst hoi; go_simp; try with_reducible rfl
      simp only [Act.put, List.setIfInBounds_toArray, List.set_cons_zero, List.set_cons_succ]
      refine wpAnyW_takeD 2 15 (v := ?_) (by kernel_rfl) (by kernel_rfl) (by kernel_rfl) (by kernel_rfl) (fun _ _ _ h => h) ?_ (by assumption) ?_
      rotate_left
      · intro oi hoi w hSw; (try dsimp only at hSw); simp only [List.getElem?_toArray, List.getElem?_cons_zero, List.getElem?_cons_succ, Option.some.injEq] at hoi; subst hoi; go_simp; try with_reducible rfl
      simp only [Act.put, List.setIfInBounds_toArray, List.set_cons_zero, List.set_cons_succ]
      refine wpAnyW_takeD 3 16 (v := ?_) (by kernel_rfl) (by kernel_rfl) (by kernel_rfl) (by kernel_rfl) (fun _ _ _ h => h) ?_ (by assumption) ?_
      rotate_left
      · intro oi hoi w hSw; (try dsimp only at hSw); simp only [List.getElem?_toArray, List.getElem?_cons_zero, List.getElem?_cons_succ, Option.some.injEq] at hoi; subst hoi; go_simp; try with_reducible rfl
      simp only [Act.put, List.setIfInBounds_toArray, List.set_cons_zero, List.set_cons_succ]
      refine wpAnyW_takeD 4 17 (v := ?_) (by kernel_rfl) (by kernel_rfl) (by kernel_rfl) (by kernel_rfl) (fun _ _ _ h => h) ?_ (by assumption) ?_
      rotate_left
      · intro oi hoi w hSw; (try dsimp only at hSw); simp only [List.getElem?_toArray, List.getElem?_cons_zero, List.getElem?_cons_succ, Option.some.injEq] at hoi; subst hoi; go_simp; try with_reducible rfl
      simp only [Act.put, List.setIfInBounds_toArray, List.set_cons_zero, List.set_cons_succ]
      refine wpAnyW_takeD 5 18 (v := ?_) (by kernel_rfl) (by kernel_rfl) (by kernel_rfl) (by kernel_rfl) (fun _ _ _ h => h) ?_ (by assumption) ?_
      rotate_left
      · intro oi hoi w hSw; (try dsimp only at hSw); simp only [List.getElem?_toArray, List.getElem?_cons_zero, List.getElem?_cons_succ, Option.some.injEq] at hoi; subst hoi; go_simp; try with_reducible rfl
      simp only [Act.put, List.setIfInBounds_toArray, List.set_cons_zero, List.set_cons_succ]
      refine wpAnyW_takeD 6 19 (v := ?_) (by kernel_rfl) (by kernel_rfl) (by kernel_rfl) (by kernel_rfl) (fun _ _ _ h => h) ?_ (by assumption) ?_
      rotate_left
      · intro oi hoi w hSw; (try dsimp only at hSw); simp only [List.getElem?_toArray, List.getElem?_cons_zero, List.getElem?_cons_succ, Option.some.injEq] at hoi; subst hoi; go_simp; try with_reducible rfl
      simp only [Act.put, List.setIfInBounds_toArray, List.set_cons_zero, List.set_cons_succ]
      refine wpAnyW_takeD 7 20 (v := ?_) (by kernel_rfl) (by kernel_rfl) (by kernel_rfl) (by kernel_rfl) (fun _ _ _ h => h) ?_ (by assumption) ?_
      rotate_left
      · intro oi hoi w hSw; (try dsimp only at hSw); simp only [List.getElem?_toArray, List.getElem?_cons_zero, List.getElem?_cons_succ, Option.some.injEq] at hoi; subst hoi; go_simp; try with_reducible rfl
      simp only [Act.put, List.setIfInBounds_toArray, List.set_cons_zero, List.set_cons_succ]
      refine wpAnyW_takeD 8 21 (v := ?_) (by kernel_rfl) (by kernel_rfl) (by kernel_rfl) (by kernel_rfl) (fun _ _ _ h => h) ?_ (by assumption) ?_
      rotate_left
      · intro oi hoi w hSw; (try dsimp only at hSw); simp only [List.getElem?_toArray, List.getElem?_cons_zero, List.getElem?_cons_succ, Option.some.injEq] at hoi; subst hoi; go_simp; try with_reducible rfl
      simp only [Act.put, List.setIfInBounds_toArray, List.set_cons_zero, List.set_cons_succ]
      refine wpAnyW_one 9 (by kernel_rfl) (by kernel_rfl) ?_
      intro o ho K hK
      simp only [List.getElem?_toArray, List.getElem?_cons_zero, List.getElem?_cons_succ, Option.some.injEq] at ho
      subst ho
      go_simp
      refine ⟨trivial, CallsIn.mono (callsIn_wide.2 hcan) ?_⟩
      rintro e W2 ⟨rfl, hs2, hk2⟩
      rw [HQ.out]
      have hs2' : Steps (fun k => k = r) W1 W2 := (Steps.refl (fun k => k = r) W1).drew.trans hs2 (fun _ _ h => h)
      have hHeld2 : KeepCells (fun k => k = p) W1 W2 := KeepCells.of_steps hs2' (fun k hk h => by omega)
      refine hK _ _ hHeld2 (fun _ => ?_)
      clear hK K
      try simp only [Act.put, List.setIfInBounds_toArray, List.set_cons_zero, List.set_cons_succ]
      refine wpAnyW_takeD 10 23 (v := ?_) (by kernel_rfl) (by kernel_rfl) (by kernel_rfl) (by kernel_rfl) (fun _ _ _ h => h) ?_ (by assumption) ?_
      rotate_left
      · intro oi hoi w hSw; (try dsimp only at hSw); simp only [List.getElem?_toArray, List.getElem?_cons_zero, List.getElem?_cons_succ, Option.some.injEq] at hoi; subst hoi; go_simp; try with_reducible rfl
      simp only [Act.put, List.setIfInBounds_toArray, List.set_cons_zero, List.set_cons_succ]
      refine wpAnyW_one 11 (by kernel_rfl) (by kernel_rfl) ?_
      intro o ho K hK
      simp only [List.getElem?_toArray, List.getElem?_cons_zero, List.getElem?_cons_succ, Option.some.injEq] at ho
      subst ho
      go_simp
      refine ⟨trivial, CallsIn.mono (callsIn_wide.2 (must_yes _ _)) ?_⟩
      rintro e W3 ⟨rfl, rfl⟩
      refine hK _ _ hHeld2 (fun _ => ?_)
      clear hK K
      try simp only [Act.put, List.setIfInBounds_toArray, List.set_cons_zero, List.set_cons_succ]
      refine wpAnyW_done (by kernel_rfl) ?_ _
      dsimp only [onNormal]
      have c6 := k6 _ hHeld2
      have c7 := k7 _ hHeld2
      clear k6 k7 hcan hHeld hHeld2 hs2
      go_upto_region 4 with fail
      have k6 : ∀ W', KeepCells (fun k => k = p) W2 W' → W'.cell? ⟨p, 6, none⟩ = some (.int .u64 (sures b.fs)) := fun W' h => h ⟨p, 6, none⟩ _ rfl c6
      have k7 : ∀ W', KeepCells (fun k => k = p) W2 W' → W'.cell? ⟨p, 7, none⟩ = some (.int .u64 (sures b.ss)) := fun W' h => h ⟨p, 7, none⟩ _ rfl c7
      refine (wpIn_wide (n := 1)).1 ?_
      refine wpIn_region_Wn (S := fun W' => KeepCells (fun k => k = p) W2 W') 11 (by kernel_rfl) (by kernel_rfl) (fun a v _ h => h) (fun hHeld => ?_)
      have hF : (sures b.fs : Int) < 64 := by omega
      have hSS : (sures b.ss : Int) < 64 := by omega
      refine wpAnyW_takeD 0 25 (v := ?_) (by kernel_rfl) (by kernel_rfl) (by kernel_rfl) (by kernel_rfl) (fun _ _ _ h => h) ?_ (by assumption) ?_
      rotate_left
      · intro oi hoi w hSw; (try dsimp only at hSw); simp only [List.getElem?_toArray, List.getElem?_cons_zero, List.getElem?_cons_succ, Option.some.injEq] at hoi; subst hoi; go_simp; try with_reducible rfl
      simp only [Act.put, List.setIfInBounds_toArray, List.set_cons_zero, List.set_cons_succ]
      refine wpAnyW_takeD 1 26 (v := ?_) (by kernel_rfl) (by kernel_rfl) (by kernel_rfl) (by kernel_rfl) (fun _ _ _ h => h) ?_ (by assumption) ?_
      rotate_left
      · intro oi hoi w hSw; (try dsimp only at hSw); simp only [List.getElem?_toArray, List.getElem?_cons_zero, List.getElem?_cons_succ, Option.some.injEq] at hoi; subst hoi; go_simp; try with_reducible rfl
      simp only [Act.put, List.setIfInBounds_toArray, List.set_cons_zero, List.set_cons_succ]
      refine wpAnyW_takeD 2 27 (v := ?_) (by kernel_rfl) (by kernel_rfl) (by kernel_rfl) (by kernel_rfl) (fun _ _ _ h => h) ?_ (by assumption) ?_
      rotate_left
      · intro oi hoi w hSw; (try dsimp only at hSw); simp only [List.getElem?_toArray, List.getElem?_cons_zero, List.getElem?_cons_succ, Option.some.injEq] at hoi; subst hoi; go_simp; try with_reducible rfl
      simp only [Act.put, List.setIfInBounds_toArray, List.set_cons_zero, List.set_cons_succ]
      refine wpAnyW_takeD 3 28 (v := ?_) (by kernel_rfl) (by kernel_rfl) (by kernel_rfl) (by kernel_rfl) (fun _ _ _ h => h) ?_ (by assumption) ?_
      rotate_left
      · intro oi hoi w hSw; (try dsimp only at hSw); simp only [List.getElem?_toArray, List.getElem?_cons_zero, List.getElem?_cons_succ, Option.some.injEq] at hoi; subst hoi; go_simp; try with_reducible rfl
      simp only [Act.put, List.setIfInBounds_toArray, List.set_cons_zero, List.set_cons_succ]
      refine wpAnyW_takeD 4 29 (v := ?_) (by kernel_rfl) (by kernel_rfl) (by kernel_rfl) (by kernel_rfl) (fun _ _ _ h => h) ?_ (by assumption) ?_
      rotate_left
      · intro oi hoi w hSw; (try dsimp only at hSw); simp only [List.getElem?_toArray, List.getElem?_cons_zero, List.getElem?_cons_succ, Option.some.injEq] at hoi; subst hoi; go_simp; try with_reducible rfl
      simp only [Act.put, List.setIfInBounds_toArray, List.set_cons_zero, List.set_cons_succ]
      refine wpAnyW_takeD 5 30 (v := ?_) (by kernel_rfl) (by kernel_rfl) (by kernel_rfl) (by kernel_rfl) (fun _ _ _ h => h) ?_ (by assumption) ?_
      rotate_left
      · intro oi hoi w hSw; (try dsimp only at hSw); simp only [List.getElem?_toArray, List.getElem?_cons_zero, List.getElem?_cons_succ, Option.some.injEq] at hoi; subst hoi; go_simp; try with_reducible rfl
      simp only [Act.put, List.setIfInBounds_toArray, List.set_cons_zero, List.set_cons_succ]
      refine wpAnyW_takeD 6 31 (v := ?_) (by kernel_rfl) (by kernel_rfl) (by kernel_rfl) (by kernel_rfl) (fun _ _ _ h => h) ?_ (by assumption) ?_
      rotate_left
      · intro oi hoi w hSw; (try dsimp only at hSw); simp only [List.getElem?_toArray, List.getElem?_cons_zero, List.getElem?_cons_succ, Option.some.injEq] at hoi; subst hoi; go_simp; try with_reducible rfl
      simp only [Act.put, List.setIfInBounds_toArray, List.set_cons_zero, List.set_cons_succ]
      refine wpAnyW_takeD 7 32 (v := ?_) (by kernel_rfl) (by kernel_rfl) (by kernel_rfl) (by kernel_rfl) (fun _ _ _ h => h) ?_ (by assumption) ?_
      rotate_left
      · intro oi hoi w hSw; (try dsimp only at hSw); simp only [List.getElem?_toArray, List.getElem?_cons_zero, List.getElem?_cons_succ, Option.some.injEq] at hoi; subst hoi; go_simp; try with_reducible rfl
      simp only [Act.put, List.setIfInBounds_toArray, List.set_cons_zero, List.set_cons_succ]
      refine wpAnyW_takeD 8 33 (v := ?_) (by kernel_rfl) (by kernel_rfl) (by kernel_rfl) (by kernel_rfl) (fun _ _ _ h => h) ?_ (by assumption) ?_
      rotate_left
      · intro oi hoi w hSw; (try dsimp only at hSw); simp only [List.getElem?_toArray, List.getElem?_cons_zero, List.getElem?_cons_succ, Option.some.injEq] at hoi; subst hoi; go_simp; try with_reducible rfl
      simp only [Act.put, List.setIfInBounds_toArray, List.set_cons_zero, List.set_cons_succ]
      refine wpAnyW_takeD 9 34 (v := ?_) (by kernel_rfl) (by kernel_rfl) (by kernel_rfl) (by kernel_rfl) (fun _ _ _ h => h) ?_ (by assumption) ?_
      rotate_left
      · intro oi hoi w hSw; (try dsimp only at hSw); simp only [List.getElem?_toArray, List.getElem?_cons_zero, List.getElem?_cons_succ, Option.some.injEq] at hoi; subst hoi; go_simp; try with_reducible rfl
      simp only [Act.put, List.setIfInBounds_toArray, List.set_cons_zero, List.set_cons_succ]
      refine wpAnyW_takeD 10 6 (v := ?_) (by kernel_rfl) (by kernel_rfl) (by kernel_rfl) (by kernel_rfl) (fun _ _ _ h => h) ?_ (by assumption) ?_
      rotate_left
      · intro oi hoi w hSw; (try dsimp only at hSw); simp only [List.getElem?_toArray, List.getElem?_cons_zero, List.getElem?_cons_succ, Option.some.injEq] at hoi; subst hoi; go_simp; try with_reducible rfl
      simp only [Act.put, List.setIfInBounds_toArray, List.set_cons_zero, List.set_cons_succ]
      refine wpAnyW_done (by kernel_rfl) ?_ _
      dsimp only [onNormal]
      rw [allSure_bits b f6 s66]
      have hal := allSure_lt f6 s66
      have hno : canSet b (allSure b) = false := by unfold canSet; rw [(allSure_div s66).1, (allSure_div s66).2]; exact HQ.out
      have HNO := Lib.hid hno
      have hpl' := popc_le 12 (allSure b)
      have hali : (allSure b : Int) < 4096 := by omega
      clear hno
      generalize hA : allSure b = A at hal hpl' hali HNO
      have HA := Lib.hid hA
      clear hA
      go_wp2_with fail
      go_loopw [7, 8, 9, 10] (fun sz _ _ _ wr => ∃ n : Nat, n ≤ popc 12 A ∧ sz = .int .i64 n ∧ (∀ t, t ≤ A → andN t A = 0 → popc 12 t < n → canSet b t = true) ∧ Steps (fun k => k = r) W1 wr ∧ KnownOk wr r b) (fun sz _ _ _ _ => 13 - (intOf sz).toNat)
      case atStart => exact ⟨0, Nat.zero_le _, rfl, fun _ _ _ h => absurd h (Nat.not_lt_zero _), hs2'.drew, hk2.steps (Steps.refl (fun _ => False) W2).drew (fun h => h)⟩
      case round =>
        obtain ⟨wo, rfl⟩ : ∃ x, x = wr := ⟨_, rfl⟩
        obtain ⟨n, hn, rfl, hfew, hso, hko⟩ := hrel
        have HFEW := Lib.hid hfew
        clear hfew
        go_wp2_with fail
        go_step3
        go_wp2_with fail
        go_step3
        go_wp2_with fail
        go_loopw [8, 9, 10] (fun s _ _ wr => ∃ t : Nat, t ≤ A + 1 ∧ s = .int .u64 t ∧ (∀ t', t' < t → andN t' A = 0 → popc 12 t' = n → canSet b t' = true) ∧ Steps (fun k => k = r) W1 wr ∧ KnownOk wr r b) (fun s _ _ _ => A + 1 - (intOf s).toNat)
        case atStart => exact ⟨0, Nat.zero_le _, rfl, fun _ h => absurd h (Nat.not_lt_zero _), hso, hko⟩
        case round =>
          rename_i hK13
          obtain ⟨wq, rfl⟩ : ∃ x, x = wr := ⟨_, rfl⟩
          obtain ⟨t, ht, rfl, hlst, hsq, hkq⟩ := hrel
          have HL := Lib.hid hlst
          clear hlst
          by_cases hlt : t ≤ A
          · have ht4 : t < 4096 := by omega
            have hb1' := andN_bits t A (by omega) (by omega)
            have hnext : canSet b t = true ∨ andN t A ≠ 0 ∨ popc 12 t ≠ n → ∀ t', t' < t + 1 → andN t' A = 0 → popc 12 t' = n → canSet b t' = true := fun h t' h1 h2 h3 => by
              by_cases e : t' = t
              · subst e
                rcases h with h | h | h
                · exact h
                · exact absurd h2 h
                · exact absurd h3 h
              · exact HL.out t' (by omega) h2 h3
            have HNX := Lib.hid hnext
            clear hnext
            have htA : (t : Int) ≤ A := by omega
            by_cases hsub : andN t A = 0
            · rw [hsub] at hb1'
              have hsz := size_any t ht4 wq
              by_cases hpc : popc 12 t = n
              · have hBq := hB1.steps hsq hk1
                have hdiv : ((t : Int) / 64) = ((t / 64 : Nat) : Int) := by omega
                have hmod : bits BinOp.and IntKind.u64 (t : Int) 63 = ((t % 64 : Nat) : Int) := by
                  rw [show (63 : Int) = ((63 : Nat) : Int) from rfl, and_u64 _ _ (by omega) (by omega), show (63 : Nat) = 2 ^ 6 - 1 from rfl, Nat.and_two_pow_sub_one_eq_mod]
                have hc1 : t % 64 < 2 ^ b.ss.length := clash_low HA.out f6 s6 s66 hsub
                have hcn := can_any p b fa sa fc sc (sures b.fs) (sures b.ss) r (t / 64) (t % 64) wq hBq hkq hok (by omega) hc1
                rw [← hdiv] at hcn
                have HPC := Lib.hid hpc
                have HSUB := Lib.hid hsub
                have hd64 : (t : Int) / 64 < 64 := by omega
                have hm64 : ((t % 64 : Nat) : Int) < 64 := by omega
                clear hpc hsub hdiv
                rw [HPC.out] at hsz
                have j1q : wq.heap[w.heap.size + 1]? = some (.cells #[.int .i64 0] 29) := hsq.obj (by omega) j1
                cases hcs : canSet b t with
                | true =>
                  have HCS := Lib.hid hcs
                  have hcs' : bCan b (t / 64) (t % 64) = true := hcs
                  unfold CanPost at hcn
                  rw [hcs'] at hcn
                  clear hcs hcs'
                  go_wp2_with (first | (go_at_call 58; refine hsz.mono ?_; rintro e w' ⟨rfl, rfl⟩) | (go_at_call 57; refine hcn.mono ?_; rintro e W4 ⟨rfl, hs4, hk4⟩))
                  go_roundw
                  case rel => exact ⟨t + 1, by omega, by go_num, HNX.out (.inl HCS.out), hsq.trans hs4 (fun _ _ h => h), hk4⟩
                  case measure => simp [intOf]; omega
                | false =>
                  have HCS := Lib.hid hcs
                  have hcs' : bCan b (t / 64) (t % 64) = false := hcs
                  unfold CanPost at hcn
                  rw [hcs'] at hcn
                  clear hcs hcs'
                  go_wp2_with (first | (go_at_call 58; refine hsz.mono ?_; rintro e w' ⟨rfl, rfl⟩) | (go_at_call 57; refine hcn.mono ?_; rintro e W4 ⟨rfl, hs4, hk4⟩; have j14 : W4.heap[w.heap.size + 1]? = some (.cells #[.int .i64 0] 29) := hs4.obj (by omega) j1q; have c14 := cell_block j14 0; have f14 := frozen_block j14 0; simp only [List.getElem?_toArray, List.getElem?_cons_zero, List.getElem?_cons_succ] at c14))
                  rw [Exit.noGoto_ret]
                  refine door_ret (v := .tuple #[.int .i64 ((t : Int) / 64), .int .i64 ((t : Int) % 64), .int .i64 0]) (by simp [results, Try.results25, go_sem, c14]) ?_
                  have hout : ClashOut b (.returned (.tuple #[.int .i64 ((t : Int) / 64), .int .i64 ((t : Int) % 64), .int .i64 0])) := by
                    unfold ClashOut
                    rw [hok, HQ.out]
                    simp only [if_true, Bool.false_eq_true, if_false]
                    refine ⟨t, ⟨by rw [HA.out]; omega, by rw [HA.out]; exact HSUB.out, HCS.out, fun t' h1 h2 h3 => ?_, fun t' h1 h2 h3 => ?_⟩, by rw [Int.natCast_ediv, Int.natCast_emod]; rfl⟩
                    · rw [HA.out] at h1 h2
                      rw [HPC.out] at h3
                      exact HFEW.out t' h1 h2 h3
                    · rw [HA.out] at h2
                      rw [HPC.out] at h3
                      exact HL.out t' h1 h2 h3
                  have hs14 : Steps (fun k => k = r) W1 W4 := hsq.trans hs4 (fun _ _ h => h)
                  exact ⟨hout, (hb0.trans ((hb1.mono hb0.size).trans (hs14.below (by omega) (fun k hk h => by omega)))).setCell (p := ⟨w.heap.size + 1, 0, none⟩) (by show w.heap.size ≤ w.heap.size + 1; omega) _⟩
              · have HPC := Lib.hid hpc
                have HSUB := Lib.hid hsub
                clear hpc hsub
                have hpcb : decide (((popc 12 t : Nat) : Int) = n) = false := by have := HPC.out; simp; omega
                have hpcb2 : (((popc 12 t : Nat) : Int) != n) = true := by have := HPC.out; simp; omega
                go_wp2_with (go_at_call 58; refine hsz.mono ?_; rintro e w' ⟨rfl, rfl⟩)
                go_roundw
                case rel => exact ⟨t + 1, by omega, by go_num, HNX.out (.inr (.inr HPC.out)), hsq, hkq⟩
                case measure => simp [intOf]; omega
            · have HSUB := Lib.hid hsub
              clear hsub
              have h0 : (((andN t A : Nat) : Int) != 0) = true := by have := HSUB.out; simp; omega
              go_wp2_with fail
              go_roundw
              case rel => exact ⟨t + 1, by omega, by go_num, HNX.out (.inr (.inl HSUB.out)), hsq, hkq⟩
              case measure => simp [intOf]; omega
          · obtain rfl : t = A + 1 := by omega
            have hnn : n < popc 12 A := by
              rcases Nat.lt_or_ge n (popc 12 A) with h | h
              · exact h
              · have h2 : popc 12 A = n := by omega
                have := HL.out A (by omega) (andN_self hal) h2
                rw [HNO.out] at this
                cases this
            have hn12 : n < 12 := by omega
            go_wp2_with fail
            apply hK13
            go_wp2_with fail
            go_roundw
            case rel =>
              refine ⟨n + 1, by omega, by go_num, fun t' h1 h2 h3 => ?_, hsq, hkq⟩
              by_cases e : popc 12 t' = n
              · exact HL.out t' (by omega) h2 e
              · exact HFEW.out t' h1 h2 (by omega)
            case measure => simp [intOf]; omega
end Go.Proofs.Ytjkegmjjhdmkiaa
namespace Go.Proofs.Ytjkegmjjhdmkiaa
open Go.RowKit Go.Shelf
set_option maxHeartbeats 1600000
set_option maxRecDepth 100000
set_option linter.unusedSimpArgs false

theorem lspan_any (lo hi : Int) (w : World) : Calls Try.prog 38 #[.int .i64 lo, .int .i64 hi] w fun e w' => e = .returned (.agg #[.int .i64 lo, .int .i64 hi]) ∧ Below w.heap.size w w' := by
  go_enter Try.func38, Try.ntmps38
  go_wp2
  exact bodyPost_ret (v := .agg #[.int .i64 lo, .int .i64 hi]) (by simp [results, Try.results38, go_sem]) rfl ⟨rfl, by first | exact below_alloc _ _ | exact (below_alloc _ _).setCell (Nat.le_refl _) _⟩

def edV (x : Ed) : Value := .agg #[.int .i64 x.e.lo, .int .i64 x.e.hi, .int .i64 x.n.lo, .int .i64 x.n.hi, .int .i64 x.b.lo, .int .i64 x.b.hi, .bool x.sure]

theorem ledge_any (a b c d e f : Int) (q : Bool) (w : World) : Calls Try.prog 66 #[.int .i64 a, .int .i64 b, .int .i64 c, .int .i64 d, .int .i64 e, .int .i64 f, .bool q] w fun r w' =>
    r = .returned (.agg #[.int .i64 a, .int .i64 b, .int .i64 c, .int .i64 d, .int .i64 e, .int .i64 f, .bool q]) ∧ Below w.heap.size w w' := by
  go_enter Try.func66, Try.ntmps66
  go_wp2_with fail
  have hb0 := below_alloc w (.cells #[.int .i64 0, .int .i64 0, .int .i64 0, .int .i64 0, .int .i64 0, .int .i64 0, .bool false] 55)
  have g0 := obj_new w (.cells #[.int .i64 0, .int .i64 0, .int .i64 0, .int .i64 0, .int .i64 0, .int .i64 0, .bool false] 55)
  refine (lspan_any a b _).mono ?_
  rintro r w1 ⟨rfl, hb1⟩
  replace hb0 := hb0.trans (hb1.mono hb0.size)
  replace g0 := obj_later hb1 g0
  clear hb1
  go_wp2_with fail
  refine (lspan_any c d _).mono ?_
  rintro r w2 ⟨rfl, hb1⟩
  replace hb0 := hb0.trans (hb1.mono hb0.size)
  replace g0 := obj_later hb1 g0
  clear hb1
  go_wp2_with fail
  refine (lspan_any e f _).mono ?_
  rintro r w3 ⟨rfl, hb1⟩
  replace hb0 := hb0.trans (hb1.mono hb0.size)
  replace g0 := obj_later hb1 g0
  clear hb1
  have c0 := cell_block g0 0
  have c1 := cell_block g0 1
  have c2 := cell_block g0 2
  have c3 := cell_block g0 3
  have c4 := cell_block g0 4
  have c5 := cell_block g0 5
  have c6 := cell_block g0 6
  simp only [List.getElem?_toArray, List.getElem?_cons_zero, List.getElem?_cons_succ] at c0 c1 c2 c3 c4 c5 c6
  have fz := frozen_block g0
  have f0 := fz 0
  have f1 := fz 1
  have f2 := fz 2
  have f3 := fz 3
  have f4 := fz 4
  have f5 := fz 5
  have f6 := fz 6
  go_wp2_with fail
  have hle : ∀ k, w.heap.size ≤ (⟨w.heap.size, k, none⟩ : Addr).block := fun k => Nat.le_refl _
  refine bodyPost_ret (v := .agg #[.int .i64 a, .int .i64 b, .int .i64 c, .int .i64 d, .int .i64 e, .int .i64 f, .bool q]) (by simp [results, Try.results66, go_sem, c0, c1, c2, c3, c4, c5, c6]) rfl ⟨rfl, ?_⟩
  exact (((((((hb0.setCell (hle 0) _).setCell (hle 1) _).setCell (hle 2) _).setCell (hle 3) _).setCell (hle 4) _).setCell (hle 5) _).setCell (hle 6) _)

theorem rspan_any (s : Sp) (lo hi : Int) (w : World) :
    Calls Try.prog 63 #[.agg #[.int .i64 s.lo, .int .i64 s.hi], .int .i64 lo, .int .i64 hi] w fun e w' => e = .returned (.bool (s.ok lo hi)) ∧ Below w.heap.size w w' := by
  obtain ⟨a, b⟩ := s
  simp only [Sp.ok]
  go_enter Try.func63, Try.ntmps63
  go_wp2
  all_goals (go_ret; refine ⟨ret_bool ?_, (Below.refl _ _).alloc (Nat.le_refl _) _⟩)
  · have h1 : lo ≤ a := by assumption
    have h2 : a ≤ b := by assumption
    simp [h1, h2]
  · have h1 : b < a := by assumption
    simp; omega
  · have h1 : a < lo := by assumption
    simp; omega
end Go.Proofs.Ytjkegmjjhdmkiaa
