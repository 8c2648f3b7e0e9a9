/- Package border: the recursive function behind the iterator over all joinings. Package border: the recursive function behind the iterator over all joinings: the step. -/
import Derived.Test.YtjkegmjjhdmkiaaBU10
import Derived.Test.YtjkegmjjhdmkiaaBU4
namespace Go.Proofs.Ytjkegmjjhdmkiaa
open Go.RowKit Go.Shelf
attribute [local go_sem] Oper.semAt_some
set_option maxHeartbeats 1600000
set_option maxRecDepth 100000
set_option linter.unusedSimpArgs false

/-- Where no depth is asked the figures are all one. -/
theorem room_any (k : Nat) : Fence.wide.room k := fun d h => by simp [Fence.wide] at h
theorem RoundIn.any {m m' : Nat} {P : Program} {l : Nat} {f : FuncId} {tmps : Array Value} {assign body : Code} {w : World} {R : Ending → World → Prop}
    (h : RoundIn Fence.wide m P l f tmps assign body w R) : RoundIn Fence.wide m' P l f tmps assign body w R := ⟨h.1, fun c cs _ => h.2 c cs (room_any _)⟩

/-- The value 'on': the function that calls itself. -/
def onV (B2 By Bo B5 : Nat) : Value := .func (.func 74) #[] #[.pointer (some ⟨B2, 0, none⟩), .pointer (some ⟨By, 0, none⟩), .pointer (some ⟨Bo, 0, none⟩), .pointer (some ⟨B5, 0, none⟩)]

/-- What 'on' reads. -/
structure OnS (W : World) (p B2 By Bo B5 l : Nat) (nf ns : Nat) (fa sa : Option Addr) (fc sc fset sset : Nat) (row : Nat → Nat) : Prop where
  c2 : W.cell? ⟨B2, 0, none⟩ = some (.pointer (some ⟨p, 0, none⟩))
  cy : W.cell? ⟨By, 0, none⟩ = some (.func (.yield l) #[] #[])
  co : W.cell? ⟨Bo, 0, none⟩ = some (onV B2 By Bo B5)
  c5 : ∀ i, i < 6 → W.cell? ⟨B5, i, none⟩ = some (.int .u64 (row i))
  b4 : W.cell? ⟨p, 4, none⟩ = some (.slice fa nf fc)
  b5 : W.cell? ⟨p, 5, none⟩ = some (.slice sa ns sc)
  b6 : W.cell? ⟨p, 6, none⟩ = some (.int .u64 fset)
  b7 : W.cell? ⟨p, 7, none⟩ = some (.int .u64 sset)

def OnB (p B2 By Bo B5 : Nat) : Nat → Prop := fun k => k = p ∨ k = B2 ∨ k = By ∨ k = Bo ∨ k = B5

theorem OnS.keep {A C : World} {p B2 By Bo B5 l nf ns : Nat} {fa sa : Option Addr} {fc sc fset sset : Nat} {row : Nat → Nat} (h : OnS A p B2 By Bo B5 l nf ns fa sa fc sc fset sset row)
    (k : KeepCells (OnB p B2 By Bo B5) A C) : OnS C p B2 By Bo B5 l nf ns fa sa fc sc fset sset row :=
  ⟨k ⟨B2, 0, none⟩ _ (by simp [OnB]) h.c2, k ⟨By, 0, none⟩ _ (by simp [OnB]) h.cy, k ⟨Bo, 0, none⟩ _ (by simp [OnB]) h.co, fun i hi => k ⟨B5, i, none⟩ _ (by simp [OnB]) (h.c5 i hi),
    k ⟨p, 4, none⟩ _ (by simp [OnB]) h.b4, k ⟨p, 5, none⟩ _ (by simp [OnB]) h.b5, k ⟨p, 6, none⟩ _ (by simp [OnB]) h.b6, k ⟨p, 7, none⟩ _ (by simp [OnB]) h.b7⟩

theorem keep_join {A C : World} {p B2 By Bo B5 bq : Nat} (h : KeepCells (fun k => k = p ∨ k = B2 ∨ k = B5) A C) (k : ∀ k, (k = By ∨ k = Bo ∨ k = bq) → C.heap[k]? = A.heap[k]?) : KeepCells (OnB p B2 By Bo B5) A C := fun a v ha hv => by
  by_cases hq : a.block = By ∨ a.block = Bo ∨ a.block = bq
  · rw [World.cell?_of_block (w := A) (k _ hq)]; exact hv
  · exact h a v (by unfold OnB at ha; omega) hv

/-- The row that is written: block bq begins with ls. -/
def RowAt (W : World) (bq : Nat) (ls : List Int) : Prop := ∃ cs : Array Value, W.heap[bq]? = some (.cells cs 3 (0, 0)) ∧ cs.size = 6 ∧ ∀ i (h : i < ls.length), cs[i]? = some (.int .i64 ls[i])

def Used (used : Nat) (ls : List Int) : Prop := used < 2 ^ 6 ∧ ∀ k, used.testBit k = ls.contains (k : Int)

/-- What the iterator tells of each joining. -/
def JoinEnc (B0 : Nat) (own : Nat → Prop) (x : List Int) (vals : Array Value) (W : World) : Prop :=
  ∃ q cap, vals = #[.slice (some ⟨q, 0, none⟩) x.length cap] ∧ B0 ≤ q ∧ ¬ own q ∧ q < W.heap.size ∧ IntsAt W q x

/-- All joinings that go on from ls, by masks. -/
def jsFrom (row : Nat → Nat) (fset sset ns r : Nat) (ls : List Int) : List (List Int) := joins (fun i k => (row i).testBit k) (fun i => fset.testBit i) (fun k => sset.testBit k) ns r ls

/-- How a call of 'on' ends. -/
def OnPost (W : World) (p B2 By Bo B5 bq : Nat) (J Jx : (Nat → Prop) → List (List Int) → World → Prop) (own : Nat → Prop) (pre js : List (List Int)) (ls : List Int) (e : Ending) (W' : World) : Prop :=
  KeepCells (OnB p B2 By Bo B5) W W' ∧ W.heap.size ≤ W'.heap.size ∧
  ((e = .returned (.bool true) ∧ RowAt W' bq ls ∧ J own (pre ++ js) W') ∨ (e = .returned (.bool false) ∧ ∃ q, q <+: js ∧ Jx own (pre ++ q) W'))

section
variable {p B2 By Bo B5 bq l B0 nf ns : Nat} {fa sa : Option Addr} {fc sc fset sset : Nat} {row : Nat → Nat}

/-- What is asked of the round, and of all that is around. -/
structure OnCtx (p B2 By Bo B5 bq l B0 nf ns fset sset : Nat) (row : Nat → Nat) (J Jx : (Nat → Prop) → List (List Int) → World → Prop) (L : List (List Int)) : Prop where
  hJ : Bides J
  hJx : Bides Jx
  nf6 : nf ≤ 6
  ns6 : ns ≤ 6
  f6 : fset < 2 ^ 6
  s6 : sset < 2 ^ ns
  row6 : ∀ i, row i < 2 ^ ns
  apart : ¬ OnB p B2 By Bo B5 bq
  hq : B0 ≤ bq
  yield : ∀ pre x vals W1, (∃ post, L = pre ++ x :: post) → J (fun k => k = By ∨ k = Bo ∨ k = bq) pre W1 → JoinEnc B0 (fun k => k = By ∨ k = Bo ∨ k = bq) x vals W1 → YieldAt Fence.wide 0 Try.prog l vals W1 fun e W' =>
      KeepCells (fun k => k = p ∨ k = B2 ∨ k = B5) W1 W' ∧ W1.heap.size ≤ W'.heap.size ∧ (∀ k, (k = By ∨ k = Bo ∨ k = bq) → W'.heap[k]? = W1.heap[k]?) ∧
        ((e = .returned (.bool true) ∧ J (fun k => k = By ∨ k = Bo ∨ k = bq) (pre ++ [x]) W') ∨ (e = .returned (.bool false) ∧ Jx (fun k => k = By ∨ k = Bo ∨ k = bq) (pre ++ [x]) W'))

def andN (s u : Nat) : Nat := s &&& (18446744073709551615 - u)
theorem andN_bits (s u : Nat) (hs : s < 2 ^ 64) (hu : u < 2 ^ 64) : bits .andNot .u64 (s : Int) (u : Int) = ((andN s u : Nat) : Int) := u64_andNot_nat s u (by omega) (by omega)
theorem andN_testBit (s u k : Nat) (hu : u < 2 ^ 64) (hk : k < 64) : (andN s u).testBit k = (s.testBit k && !u.testBit k) := by
  unfold andN
  rw [Nat.testBit_and, show 18446744073709551615 - u = 2 ^ 64 - (u + 1) by omega, Nat.testBit_two_pow_sub_succ (by omega)]
  simp [hk]
theorem andN_lt (s u n : Nat) (hs : s < 2 ^ n) : andN s u < 2 ^ n := Nat.lt_of_le_of_lt Nat.and_le_left hs
theorem testBit_high {s n k : Nat} (hs : s < 2 ^ n) (hk : n ≤ k) : s.testBit k = false := Nat.testBit_lt_two_pow (Nat.lt_of_lt_of_le hs (Nat.pow_le_pow_right (by omega) hk))
theorem andN_zero (s u n : Nat) (hs : s < 2 ^ n) (hn : n ≤ 6) (hu : u < 2 ^ 6) : (andN s u = 0) ↔ ∀ k, k < n → s.testBit k = true → u.testBit k = true := by
  have hu64 : u < 2 ^ 64 := Nat.lt_of_lt_of_le hu (Nat.pow_le_pow_right (by omega) (by omega))
  constructor
  · intro h k hk h1
    have := andN_testBit s u k hu64 (by omega)
    rw [h, Nat.zero_testBit, h1] at this
    simpa using this.symm
  · intro h
    apply Nat.eq_of_testBit_eq
    intro k
    rw [Nat.zero_testBit]
    by_cases hk : k < n
    · rw [andN_testBit s u k hu64 (by omega)]
      cases hb : s.testBit k
      · rfl
      · simp [h k hk hb]
    · exact testBit_high (andN_lt s u n hs) (by omega)
theorem js_zero (row : Nat → Nat) (fset sset ns used : Nat) (ls : List Int) (hs : sset < 2 ^ ns) (hn : ns ≤ 6) (hU : Used used ls) : jsFrom row fset sset ns 0 ls = if andN sset used = 0 then [ls] else [] := by
  unfold jsFrom joins
  congr 1
  rw [List.all_eq_true, andN_zero sset used ns hs hn hU.1, eq_iff_iff]
  constructor
  · intro h k hk h1
    have := h k (List.mem_range.2 hk)
    rw [h1] at this
    rw [hU.2]
    simpa using this
  · intro h k hk
    cases hb : sset.testBit k
    · rfl
    · have := h k (List.mem_range.1 hk) hb
      rw [hU.2] at this
      simpa using this

theorem on_zero {J Jx : (Nat → Prop) → List (List Int) → World → Prop} {L : List (List Int)} (C : OnCtx p B2 By Bo B5 bq l B0 nf ns fset sset row J Jx L) :
    ∀ (ls : List Int) (used : Nat) (pre : List (List Int)) (W : World), ls.length + 0 = nf → OnS W p B2 By Bo B5 l nf ns fa sa fc sc fset sset row → RowAt W bq ls → Used used ls → B0 ≤ W.heap.size →
      J (fun k => k = By ∨ k = Bo ∨ k = bq) pre W → (∃ post, L = pre ++ jsFrom row fset sset ns 0 ls ++ post) →
      Calls Try.prog 74 #[.slice (some ⟨bq, 0, none⟩) ls.length 6, .int .u64 used, .pointer (some ⟨B2, 0, none⟩), .pointer (some ⟨By, 0, none⟩), .pointer (some ⟨Bo, 0, none⟩), .pointer (some ⟨B5, 0, none⟩)] W
        (OnPost W p B2 By Bo B5 bq J Jx (fun k => k = By ∨ k = Bo ∨ k = bq) pre (jsFrom row fset sset ns 0 ls) ls) := by
  intro ls used pre W hlen hS hR hU hB0 hJ hpost
  obtain ⟨c2, cy, co, c5, b4, b5, b6, b7⟩ := hS
  refine (callsIn_wide (n := 1)).1 ?_
  refine callsIn_of_wp Try.func74 rfl trivial ?_ rfl
  simp only [Try.ntmps74, List.size_toArray, List.length_cons, List.length_nil, Nat.reduceAdd, Nat.reduceSub, Array.replicate_succ, Array.replicate_zero, List.push_toArray, List.append_toArray, List.nil_append, List.cons_append]
  obtain rfl : nf = ls.length := by omega
  have hl6 : ls.length ≤ 6 := by have := C.nf6; omega
  have k2 : ∀ W', KeepCells (OnB p B2 By Bo B5) W W' → W'.cell? ⟨B2, 0, none⟩ = some (.pointer (some ⟨p, 0, none⟩)) := fun W' h => h ⟨B2, 0, none⟩ _ (by simp [OnB]) c2
  have ky : ∀ W', KeepCells (OnB p B2 By Bo B5) W W' → W'.cell? ⟨By, 0, none⟩ = some (.func (.yield l) #[] #[]) := fun W' h => h ⟨By, 0, none⟩ _ (by simp [OnB]) cy
  have k7 : ∀ W', KeepCells (OnB p B2 By Bo B5) W W' → W'.cell? ⟨p, 7, none⟩ = some (.int .u64 sset) := fun W' h => h ⟨p, 7, none⟩ _ (by simp [OnB]) b7
  have hjs := js_zero row fset sset ns used ls C.s6 C.ns6 hU
  have hAN := andN_bits sset used (Nat.lt_of_lt_of_le C.s6 (Nat.pow_le_pow_right (by omega) (Nat.le_trans C.ns6 (by omega)))) (Nat.lt_of_lt_of_le hU.1 (Nat.pow_le_pow_right (by omega) (by omega)))
  obtain ⟨rr, hrr⟩ : ∃ rr, jsFrom row fset sset ns 0 ls = rr := ⟨_, rfl⟩
  rw [hrr] at hpost hjs ⊢
  clear hrr
  have HJS := Lib.hid hjs
  have HLEN := Lib.hid hlen
  clear hjs hlen
  by_cases hz : andN sset used = 0
  · rw [hz] at hAN
    gi_wp2
    refine wpIn_region_W (S := fun W' => KeepCells (OnB p B2 By Bo B5) W W') 14 (by kernel_rfl) (by kernel_rfl) (KeepCells.refl _ _) (fun hHeld => ?_)
    refine wpAnyW_takeD 0 22 (v := ?_) (by kernel_rfl) (by kernel_rfl) (by kernel_rfl) (by kernel_rfl) (fun _ _ _ h => h) ?_ (by assumption) ?_
    rotate_left
    · intro oi hoi w hSw; (try dsimp only at hSw); simp only [List.getElem?_toArray, List.getElem?_cons_zero, List.getElem?_cons_succ, Option.some.injEq] at hoi; subst hoi; go_simp; try with_reducible rfl
    simp only [Act.put, List.setIfInBounds_toArray, List.set_cons_zero, List.set_cons_succ]
    refine wpAnyW_takeD 1 23 (v := ?_) (by kernel_rfl) (by kernel_rfl) (by kernel_rfl) (by kernel_rfl) (fun _ _ _ h => h) ?_ (by assumption) ?_
    rotate_left
    · intro oi hoi w hSw; (try dsimp only at hSw); simp only [List.getElem?_toArray, List.getElem?_cons_zero, List.getElem?_cons_succ, Option.some.injEq] at hoi; subst hoi; go_simp; try with_reducible rfl
    simp only [Act.put, List.setIfInBounds_toArray, List.set_cons_zero, List.set_cons_succ]
    refine wpAnyW_takeD 2 24 (v := ?_) (by kernel_rfl) (by kernel_rfl) (by kernel_rfl) (by kernel_rfl) (fun _ _ _ h => h) ?_ (by assumption) ?_
    rotate_left
    · intro oi hoi w hSw; (try dsimp only at hSw); simp only [List.getElem?_toArray, List.getElem?_cons_zero, List.getElem?_cons_succ, Option.some.injEq] at hoi; subst hoi; go_simp; try with_reducible rfl
    simp only [Act.put, List.setIfInBounds_toArray, List.set_cons_zero, List.set_cons_succ]
    refine wpAnyW_takeD 3 25 (v := ?_) (by kernel_rfl) (by kernel_rfl) (by kernel_rfl) (by kernel_rfl) (fun _ _ _ h => h) ?_ (by assumption) ?_
    rotate_left
    · intro oi hoi w hSw; (try dsimp only at hSw); simp only [List.getElem?_toArray, List.getElem?_cons_zero, List.getElem?_cons_succ, Option.some.injEq] at hoi; subst hoi; go_simp; try with_reducible rfl
    simp only [Act.put, List.setIfInBounds_toArray, List.set_cons_zero, List.set_cons_succ]
    refine wpAnyW_takeD 4 26 (v := ?_) (by kernel_rfl) (by kernel_rfl) (by kernel_rfl) (by kernel_rfl) (fun _ _ _ h => h) ?_ (by assumption) ?_
    rotate_left
    · intro oi hoi w hSw; (try dsimp only at hSw); simp only [List.getElem?_toArray, List.getElem?_cons_zero, List.getElem?_cons_succ, Option.some.injEq] at hoi; subst hoi; go_simp; try with_reducible rfl
    simp only [Act.put, List.setIfInBounds_toArray, List.set_cons_zero, List.set_cons_succ]
    refine wpAnyW_takeD 5 27 (v := ?_) (by kernel_rfl) (by kernel_rfl) (by kernel_rfl) (by kernel_rfl) (fun _ _ _ h => h) ?_ (by assumption) ?_
    rotate_left
    · intro oi hoi w hSw; (try dsimp only at hSw); simp only [List.getElem?_toArray, List.getElem?_cons_zero, List.getElem?_cons_succ, Option.some.injEq] at hoi; subst hoi; go_simp; try with_reducible rfl
    simp only [Act.put, List.setIfInBounds_toArray, List.set_cons_zero, List.set_cons_succ]
    refine wpAnyW_takeD 6 28 (v := ?_) (by kernel_rfl) (by kernel_rfl) (by kernel_rfl) (by kernel_rfl) (fun _ _ _ h => h) ?_ (by assumption) ?_
    rotate_left
    · intro oi hoi w hSw; (try dsimp only at hSw); simp only [List.getElem?_toArray, List.getElem?_cons_zero, List.getElem?_cons_succ, Option.some.injEq] at hoi; subst hoi; go_simp; try with_reducible rfl
    simp only [Act.put, List.setIfInBounds_toArray, List.set_cons_zero, List.set_cons_succ]
    refine wpAnyW_takeD 7 29 (v := ?_) (by kernel_rfl) (by kernel_rfl) (by kernel_rfl) (by kernel_rfl) (fun _ _ _ h => h) ?_ (by assumption) ?_
    rotate_left
    · intro oi hoi w hSw; (try dsimp only at hSw); simp only [List.getElem?_toArray, List.getElem?_cons_zero, List.getElem?_cons_succ, Option.some.injEq] at hoi; subst hoi; go_simp; try with_reducible rfl
    simp only [Act.put, List.setIfInBounds_toArray, List.set_cons_zero, List.set_cons_succ]
    refine wpAnyW_takeD 8 30 (v := ?_) (by kernel_rfl) (by kernel_rfl) (by kernel_rfl) (by kernel_rfl) (fun _ _ _ h => h) ?_ (by assumption) ?_
    rotate_left
    · intro oi hoi w hSw; (try dsimp only at hSw); simp only [List.getElem?_toArray, List.getElem?_cons_zero, List.getElem?_cons_succ, Option.some.injEq] at hoi; subst hoi; go_simp; try with_reducible rfl
    simp only [Act.put, List.setIfInBounds_toArray, List.set_cons_zero, List.set_cons_succ]
    refine wpAnyW_takeD 9 31 (v := ?_) (by kernel_rfl) (by kernel_rfl) (by kernel_rfl) (by kernel_rfl) (fun _ _ _ h => h) ?_ (by assumption) ?_
    rotate_left
    · intro oi hoi w hSw; (try dsimp only at hSw); simp only [List.getElem?_toArray, List.getElem?_cons_zero, List.getElem?_cons_succ, Option.some.injEq] at hoi; subst hoi; go_simp; try with_reducible rfl
    simp only [Act.put, List.setIfInBounds_toArray, List.set_cons_zero, List.set_cons_succ]
    have hI : IntsAt W.drew bq ls := by obtain ⟨cs, h1, _, h2⟩ := hR; exact ⟨cs, _, h1, h2⟩
    refine wpAnyW_one 10 (by kernel_rfl) (by kernel_rfl) ?_
    intro o ho K hK
    simp only [List.getElem?_toArray, List.getElem?_cons_zero, List.getElem?_cons_succ, Option.some.injEq] at ho
    subst ho
    go_simp
    refine ⟨trivial, CallsIn.mono (callsIn_wide.2 (clone_any bq 6 ls _ hI hl6)) ?_⟩
    rintro e W1 ⟨q, cap', rfl, hq, hIq, hbl⟩
    have hst1 : Steps (fun _ => False) W W1 := ⟨hbl.os, hbl.tape, hbl.output, hbl.size, fun k hk _ => hbl.block k hk⟩
    have hk1 : KeepCells (OnB p B2 By Bo B5) W W1 := KeepCells.of_steps hst1 (fun _ _ h => h)
    refine hK _ _ hk1 (fun hHeld1 => ?_)
    clear hK K
    try simp only [Act.put, List.setIfInBounds_toArray, List.set_cons_zero, List.set_cons_succ]
    have hJ1 := C.hJ _ (fun k => k = By ∨ k = Bo ∨ k = bq) _ _ _ hJ (hst1.mono (fun _ _ h => h.elim)) (fun k h => .inl h)
    have hqW : W.heap.size ≤ q := hq
    have hnq : ¬ (q = By ∨ q = Bo ∨ q = bq) := by
      have h1 := World.block_lt_of_cell? W _ cy
      have h2 := World.block_lt_of_cell? W _ co
      have h3 : bq < W.heap.size := by obtain ⟨cs, h3, _⟩ := hR; exact (Array.getElem?_eq_some_iff.1 h3).1
      dsimp only at h1 h2
      omega
    obtain ⟨fn, tmps, assign, body, hy, hRd⟩ := C.yield pre ls _ W1 (by
      obtain ⟨post, hp⟩ := hpost
      rw [HJS.out, if_pos hz] at hp
      exact ⟨post, by rw [hp]; simp⟩) hJ1 ⟨q, cap', rfl, by omega, hnq, hIq.lt, hIq⟩
    refine wpAnyW_one 11 (by kernel_rfl) (by kernel_rfl) ?_
    intro o ho K hK
    simp only [List.getElem?_toArray, List.getElem?_cons_zero, List.getElem?_cons_succ, Option.some.injEq] at ho
    subst ho
    go_simp
    refine hRd.mono ?_
    rintro e W2 ⟨hk2, hs2, ho2, h2⟩
    have hk12 : KeepCells (OnB p B2 By Bo B5) W1 W2 := keep_join hk2 ho2
    have hR2 : RowAt W2 bq ls := by
      obtain ⟨cs, h3, h4⟩ := hR
      exact ⟨cs, (ho2 bq (.inr (.inr rfl))).trans ((hbl.block bq (Array.getElem?_eq_some_iff.1 h3).1).trans h3), h4⟩
    rcases h2 with ⟨rfl, hJ2⟩ | ⟨rfl, hJx2⟩
    all_goals
      refine hK _ _ (hk1.trans hk12) (fun hHeld2 => ?_)
      clear hK K
      try simp only [Act.put, List.setIfInBounds_toArray, List.set_cons_zero, List.set_cons_succ]
      refine wpAnyW_takeD 12 34 (v := ?_) (by kernel_rfl) (by kernel_rfl) (by kernel_rfl) (by kernel_rfl) (fun _ _ _ h => h) ?_ (by assumption) ?_
      rotate_left
      · intro oi hoi w hSw; (try dsimp only at hSw); simp only [List.getElem?_toArray, List.getElem?_cons_zero, List.getElem?_cons_succ, Option.some.injEq] at hoi; subst hoi; go_simp; try with_reducible rfl
      simp only [Act.put, List.setIfInBounds_toArray, List.set_cons_zero, List.set_cons_succ]
      refine wpAnyW_takeD 13 8 (v := ?_) (by kernel_rfl) (by kernel_rfl) (by kernel_rfl) (by kernel_rfl) (fun _ _ _ h => h) ?_ (by assumption) ?_
      rotate_left
      · intro oi hoi w hSw; (try dsimp only at hSw); simp only [List.getElem?_toArray, List.getElem?_cons_zero, List.getElem?_cons_succ, Option.some.injEq] at hoi; subst hoi; go_simp; try with_reducible rfl
      simp only [Act.put, List.setIfInBounds_toArray, List.set_cons_zero, List.set_cons_succ]
      refine wpAnyW_done (by kernel_rfl) ?_ _
      gi_wp2
      go_ret
      rw [HJS.out, if_pos hz]
    · exact ⟨hk1.trans hk12, Nat.le_trans hbl.size hs2, .inl ⟨rfl, hR2, hJ2⟩⟩
    · exact ⟨hk1.trans hk12, Nat.le_trans hbl.size hs2, .inr ⟨rfl, _, List.prefix_refl _, hJx2⟩⟩
  · obtain ⟨v, hv⟩ : ∃ v : Int, bits .andNot .u64 (sset : Int) (used : Int) = v := ⟨_, rfl⟩
    have hv0 : ¬ v = 0 := by rw [← hv, hAN]; omega
    have hv1 : (v != 0) = true := bne_iff_ne.2 hv0
    clear hAN
    gi_wp2
    refine wpIn_region_W (S := fun W' => KeepCells (OnB p B2 By Bo B5) W W') 14 (by kernel_rfl) (by kernel_rfl) (KeepCells.refl _ _) (fun hHeld => ?_)
    refine wpAnyW_takeD 0 22 (v := ?_) (by kernel_rfl) (by kernel_rfl) (by kernel_rfl) (by kernel_rfl) (fun _ _ _ h => h) ?_ (by assumption) ?_
    rotate_left
    · intro oi hoi w hSw; (try dsimp only at hSw); simp only [List.getElem?_toArray, List.getElem?_cons_zero, List.getElem?_cons_succ, Option.some.injEq] at hoi; subst hoi; go_simp; try with_reducible rfl
    simp only [Act.put, List.setIfInBounds_toArray, List.set_cons_zero, List.set_cons_succ]
    refine wpAnyW_takeD 1 23 (v := ?_) (by kernel_rfl) (by kernel_rfl) (by kernel_rfl) (by kernel_rfl) (fun _ _ _ h => h) ?_ (by assumption) ?_
    rotate_left
    · intro oi hoi w hSw; (try dsimp only at hSw); simp only [List.getElem?_toArray, List.getElem?_cons_zero, List.getElem?_cons_succ, Option.some.injEq] at hoi; subst hoi; go_simp; try with_reducible rfl
    simp only [Act.put, List.setIfInBounds_toArray, List.set_cons_zero, List.set_cons_succ]
    refine wpAnyW_takeD 2 24 (v := ?_) (by kernel_rfl) (by kernel_rfl) (by kernel_rfl) (by kernel_rfl) (fun _ _ _ h => h) ?_ (by assumption) ?_
    rotate_left
    · intro oi hoi w hSw; (try dsimp only at hSw); simp only [List.getElem?_toArray, List.getElem?_cons_zero, List.getElem?_cons_succ, Option.some.injEq] at hoi; subst hoi; go_simp; try with_reducible rfl
    simp only [Act.put, List.setIfInBounds_toArray, List.set_cons_zero, List.set_cons_succ]
    refine wpAnyW_takeD 3 25 (v := ?_) (by kernel_rfl) (by kernel_rfl) (by kernel_rfl) (by kernel_rfl) (fun _ _ _ h => h) ?_ (by assumption) ?_
    rotate_left
    · intro oi hoi w hSw; (try dsimp only at hSw); simp only [List.getElem?_toArray, List.getElem?_cons_zero, List.getElem?_cons_succ, Option.some.injEq] at hoi; subst hoi; go_simp; try with_reducible rfl
    simp only [Act.put, List.setIfInBounds_toArray, List.set_cons_zero, List.set_cons_succ]
    refine wpAnyW_takeD 4 26 (v := ?_) (by kernel_rfl) (by kernel_rfl) (by kernel_rfl) (by kernel_rfl) (fun _ _ _ h => h) ?_ (by assumption) ?_
    rotate_left
    · intro oi hoi w hSw; (try dsimp only at hSw); simp only [List.getElem?_toArray, List.getElem?_cons_zero, List.getElem?_cons_succ, Option.some.injEq] at hoi; subst hoi; go_simp; try with_reducible rfl
    simp only [Act.put, List.setIfInBounds_toArray, List.set_cons_zero, List.set_cons_succ]
    refine wpAnyW_takeD 5 27 (v := ?_) (by kernel_rfl) (by kernel_rfl) (by kernel_rfl) (by kernel_rfl) (fun _ _ _ h => h) ?_ (by assumption) ?_
    rotate_left
    · intro oi hoi w hSw; (try dsimp only at hSw); simp only [List.getElem?_toArray, List.getElem?_cons_zero, List.getElem?_cons_succ, Option.some.injEq] at hoi; subst hoi; go_simp; try with_reducible rfl
    simp only [Act.put, List.setIfInBounds_toArray, List.set_cons_zero, List.set_cons_succ]
    refine wpAnyW_takeD 6 28 (v := ?_) (by kernel_rfl) (by kernel_rfl) (by kernel_rfl) (by kernel_rfl) (fun _ _ _ h => h) ?_ (by assumption) ?_
    rotate_left
    · intro oi hoi w hSw; (try dsimp only at hSw); simp only [List.getElem?_toArray, List.getElem?_cons_zero, List.getElem?_cons_succ, Option.some.injEq] at hoi; subst hoi; go_simp; try with_reducible rfl
    simp only [Act.put, List.setIfInBounds_toArray, List.set_cons_zero, List.set_cons_succ]
    refine wpAnyW_takeD 7 29 (v := ?_) (by kernel_rfl) (by kernel_rfl) (by kernel_rfl) (by kernel_rfl) (fun _ _ _ h => h) ?_ (by assumption) ?_
    rotate_left
    · intro oi hoi w hSw; (try dsimp only at hSw); simp only [List.getElem?_toArray, List.getElem?_cons_zero, List.getElem?_cons_succ, Option.some.injEq] at hoi; subst hoi; go_simp; try with_reducible rfl
    simp only [Act.put, List.setIfInBounds_toArray, List.set_cons_zero, List.set_cons_succ]
    refine wpAnyW_skipD 8 30 (by kernel_rfl) (by kernel_rfl) (by kernel_rfl) (by kernel_rfl) (fun _ _ _ h => h) (by assumption) ?_
    simp only [Act.put, List.setIfInBounds_toArray, List.set_cons_zero, List.set_cons_succ]
    refine wpAnyW_skipD 9 31 (by kernel_rfl) (by kernel_rfl) (by kernel_rfl) (by kernel_rfl) (fun _ _ _ h => h) (by assumption) ?_
    simp only [Act.put, List.setIfInBounds_toArray, List.set_cons_zero, List.set_cons_succ]
    refine wpAnyW_skipD 10 32 (by kernel_rfl) (by kernel_rfl) (by kernel_rfl) (by kernel_rfl) (fun _ _ _ h => h) (by assumption) ?_
    simp only [Act.put, List.setIfInBounds_toArray, List.set_cons_zero, List.set_cons_succ]
    refine wpAnyW_skipD 11 33 (by kernel_rfl) (by kernel_rfl) (by kernel_rfl) (by kernel_rfl) (fun _ _ _ h => h) (by assumption) ?_
    simp only [Act.put, List.setIfInBounds_toArray, List.set_cons_zero, List.set_cons_succ]
    refine wpAnyW_takeD 12 34 (v := ?_) (by kernel_rfl) (by kernel_rfl) (by kernel_rfl) (by kernel_rfl) (fun _ _ _ h => h) ?_ (by assumption) ?_
    rotate_left
    · intro oi hoi w hSw; (try dsimp only at hSw); simp only [List.getElem?_toArray, List.getElem?_cons_zero, List.getElem?_cons_succ, Option.some.injEq] at hoi; subst hoi; go_simp; try with_reducible rfl
    simp only [Act.put, List.setIfInBounds_toArray, List.set_cons_zero, List.set_cons_succ]
    refine wpAnyW_takeD 13 8 (v := ?_) (by kernel_rfl) (by kernel_rfl) (by kernel_rfl) (by kernel_rfl) (fun _ _ _ h => h) ?_ (by assumption) ?_
    rotate_left
    · intro oi hoi w hSw; (try dsimp only at hSw); simp only [List.getElem?_toArray, List.getElem?_cons_zero, List.getElem?_cons_succ, Option.some.injEq] at hoi; subst hoi; go_simp; try with_reducible rfl
    simp only [Act.put, List.setIfInBounds_toArray, List.set_cons_zero, List.set_cons_succ]
    refine wpAnyW_done (by kernel_rfl) ?_ _
    gi_wp2
    go_ret
    rw [HJS.out, if_neg hz]
    exact ⟨KeepCells.refl _ _, Nat.le_refl _, .inl ⟨rfl, hR, by simpa using C.hJ _ _ _ _ W.drew hJ (Steps.refl _ W).drew (fun k h => .inl h)⟩⟩
end
end Go.Proofs.Ytjkegmjjhdmkiaa
namespace Go.Proofs.Ytjkegmjjhdmkiaa
open Go.RowKit Go.Shelf
attribute [local go_sem] Oper.semAt_some
set_option maxHeartbeats 1600000
set_option maxRecDepth 100000
set_option linter.unusedSimpArgs false

theorem setRow_steps (w : World) (g : Nat) (cs : Array Value) : Steps (fun k => k = g) w (w.setRow g cs) :=
  ⟨rfl, rfl, rfl, by simp [World.setRow], fun k _ hn => by simp only [World.setRow, Array.getElem?_modify]; rw [if_neg (fun e => hn e.symm)]⟩

theorem RowAt.push {w : World} {bq : Nat} {ls : List Int} (hR : RowAt w bq ls) (hl : ls.length < 6) (y : Int) :
    ∃ cs : Array Value, w.heap[bq]? = some (.cells cs 3 (0, 0)) ∧ cs.size = 6 ∧ RowAt (w.setRow bq (cs.toList.take ls.length ++ [Value.int .i64 y] ++ cs.toList.drop (ls.length + 1)).toArray) bq (ls ++ [y]) := by
  obtain ⟨cs, h1, h2, h3⟩ := hR
  refine ⟨cs, h1, h2, _, setRow_heap w bq cs _ _ _ h1, ?_, ?_⟩
  · simp; omega
  · intro i hi
    simp only [List.length_append, List.length_singleton] at hi
    rw [List.getElem?_toArray]
    have htl : (cs.toList.take ls.length).length = ls.length := by simp; omega
    by_cases he : i = ls.length
    · subst he
      rw [List.append_assoc, List.getElem?_append_right (by omega), htl]
      simp
    · rw [List.append_assoc, List.getElem?_append_left (by omega), List.getElem?_take, if_pos (by omega)]
      have := h3 i (by omega)
      rw [List.getElem_append_left (by omega)]
      simpa using this

theorem RowAt.pop {w : World} {bq : Nat} {ls : List Int} {y : Int} (hR : RowAt w bq (ls ++ [y])) : RowAt w bq ls := by
  obtain ⟨cs, h1, h2, h3⟩ := hR
  exact ⟨cs, h1, h2, fun i hi => by
    have := h3 i (by simp; omega)
    rw [List.getElem_append_left hi] at this
    exact this⟩

theorem append_one {n : Nat} {o : Oper} {a : Act} {w : World} {K : Act → World → Prop} {Q : Exit → Act → World → Prop} {bq q : Nat} {ls : List Int} {y : Int} (s x : Operand)
    (ho : o.op = .call { callee := .builtin .append, args := #[s, x], argTypes := #[40, 40] }) (hs : a.eval s = .slice (some ⟨bq, 0, none⟩) ls.length 6) (hx : a.eval x = .slice (some ⟨q, 0, none⟩) 1 1)
    (hq : w.cell? ⟨q, 0, none⟩ = some (.int .i64 y)) (hR : RowAt w bq ls) (hl : ls.length < 6)
    (h : ∀ W3, Steps (fun k => k = bq) w W3 → RowAt W3 bq (ls ++ [y]) → K (a.put o.dst (.slice (some ⟨bq, 0, none⟩) (ls.length + 1) 6)) W3) : Oper.wpIn Fence.wide n Try.prog o a w K Q := by
  obtain ⟨i0, hi, hz0, hz1, hz2⟩ := info_parts infoInt
  obtain ⟨cs, h1, h2, h3⟩ := hR.push hl y
  have hr := run_append_room (P := Try.prog) w 40 o.type 3 i0 Try.underlying40 hi bq ls.length 6 cs h1 ⟨q, 0, none⟩ 1 1 [.int .i64 y] (by simp [hz1])
    (by intro j u hu; cases j with
        | zero => simp only [List.getElem?_cons_zero, Option.some.injEq] at hu; subst hu; exact hq
        | succ j => simp at hu) (by intro u hu; simp at hu; subst hu; rfl) (by omega) (by simp [hz1, h2]; omega)
  simp only [hz1, Nat.mul_one, List.length_singleton] at hr
  unfold Oper.wpIn
  refine ⟨wideAll, ?_⟩
  rw [Fence.wide_round, Oper.semAt_none]
  unfold execOp
  simp only [ho, resolve, invoke, builtin, Sem.run_bind, Sem.run_pure, Result.andThen_ok, List.map_toArray, List.map_cons, List.map_nil, hs, hx, hr]
  exact h _ (setRow_steps _ _ _) h3

theorem Used.none {used : Nat} {ls : List Int} (h : Used used ls) : Used used (ls ++ [-1]) := ⟨h.1, fun k => by
  rw [h.2]
  have : ¬ ((k : Int) = -1) := by omega
  simp [this]⟩
theorem Used.some {used k : Nat} {ls : List Int} (h : Used used ls) (hk : k < 6) : Used (used ||| 2 ^ k) (ls ++ [(k : Int)]) :=
  ⟨Nat.or_lt_two_pow h.1 (Nat.pow_lt_pow_right (by omega) hk), fun j => by
    rw [Nat.testBit_or, h.2, Nat.testBit_two_pow]
    by_cases e : k = j
    · subst e; simp
    · have : ¬ ((j : Int) = (k : Int)) := by omega
      simp [e, this]⟩

/-- All joinings that go on with a star, or with none: the first k stars. -/
def jsNone (row : Nat → Nat) (fset sset ns r : Nat) (ls : List Int) : List (List Int) := if fset.testBit ls.length then [] else jsFrom row fset sset ns r (ls ++ [-1])
def jsTo (row : Nat → Nat) (fset sset ns r : Nat) (ls : List Int) (k : Nat) : List (List Int) :=
  (List.range k).flatMap fun j => if (row ls.length).testBit j && !ls.contains (j : Int) then jsFrom row fset sset ns r (ls ++ [(j : Int)]) else []
theorem js_succ (row : Nat → Nat) (fset sset ns r : Nat) (ls : List Int) : jsFrom row fset sset ns (r + 1) ls = jsNone row fset sset ns r ls ++ jsTo row fset sset ns r ls ns := by
  unfold jsFrom jsNone jsTo
  rw [joins]
  rfl
theorem jsTo_succ (row : Nat → Nat) (fset sset ns r : Nat) (ls : List Int) (k : Nat) : jsTo row fset sset ns r ls (k + 1) = jsTo row fset sset ns r ls k ++
    if (row ls.length).testBit k && !ls.contains (k : Int) then jsFrom row fset sset ns r (ls ++ [(k : Int)]) else [] := by
  simp [jsTo, List.range_succ]
theorem jsTo_split (row : Nat → Nat) (fset sset ns r : Nat) (ls : List Int) (k : Nat) (hk : k < ns) : ∃ post, jsTo row fset sset ns r ls ns = jsTo row fset sset ns r ls (k + 1) ++ post := by
  rw [jsTo_succ]
  obtain ⟨t, ht⟩ := range_split ns k hk
  unfold jsTo
  rw [ht]
  simp

section
variable {p B2 By Bo B5 bq l B0 nf ns : Nat} {fa sa : Option Addr} {fc sc fset sset : Nat} {row : Nat → Nat}

/-- Behind the first part of the step: what the slot holds, and the world. -/
def OnMid (W : World) (p B2 By Bo B5 bq : Nat) (J Jx : (Nat → Prop) → List (List Int) → World → Prop) (own : Nat → Prop) (pre js : List (List Int)) (ls : List Int) (v : Value) (W' : World) : Prop :=
  KeepCells (OnB p B2 By Bo B5) W W' ∧ W.heap.size ≤ W'.heap.size ∧
  ((v = .bool false ∧ RowAt W' bq ls ∧ J own (pre ++ js) W') ∨ (v = .bool true ∧ ∃ q, q <+: js ∧ Jx own (pre ++ q) W'))

theorem on_succ {J Jx : (Nat → Prop) → List (List Int) → World → Prop} {L : List (List Int)} (C : OnCtx p B2 By Bo B5 bq l B0 nf ns fset sset row J Jx L) (r : Nat)
    (ih : ∀ (ls : List Int) (used : Nat) (pre : List (List Int)) (W : World), ls.length + r = nf → OnS W p B2 By Bo B5 l nf ns fa sa fc sc fset sset row → RowAt W bq ls → Used used ls → B0 ≤ W.heap.size →
      J (fun k => k = By ∨ k = Bo ∨ k = bq) pre W → (∃ post, L = pre ++ jsFrom row fset sset ns r ls ++ post) →
      Calls Try.prog 74 #[.slice (some ⟨bq, 0, none⟩) ls.length 6, .int .u64 used, .pointer (some ⟨B2, 0, none⟩), .pointer (some ⟨By, 0, none⟩), .pointer (some ⟨Bo, 0, none⟩), .pointer (some ⟨B5, 0, none⟩)] W
        (OnPost W p B2 By Bo B5 bq J Jx (fun k => k = By ∨ k = Bo ∨ k = bq) pre (jsFrom row fset sset ns r ls) ls)) :
    ∀ (ls : List Int) (used : Nat) (pre : List (List Int)) (W : World), ls.length + (r + 1) = nf → OnS W p B2 By Bo B5 l nf ns fa sa fc sc fset sset row → RowAt W bq ls → Used used ls → B0 ≤ W.heap.size →
      J (fun k => k = By ∨ k = Bo ∨ k = bq) pre W → (∃ post, L = pre ++ jsFrom row fset sset ns (r + 1) ls ++ post) →
      Calls Try.prog 74 #[.slice (some ⟨bq, 0, none⟩) ls.length 6, .int .u64 used, .pointer (some ⟨B2, 0, none⟩), .pointer (some ⟨By, 0, none⟩), .pointer (some ⟨Bo, 0, none⟩), .pointer (some ⟨B5, 0, none⟩)] W
        (OnPost W p B2 By Bo B5 bq J Jx (fun k => k = By ∨ k = Bo ∨ k = bq) pre (jsFrom row fset sset ns (r + 1) ls) ls) := by
  intro ls used pre W hlen hS hR hU hB0 hJ hpost
  have hS0 := hS
  obtain ⟨c2, cy, co, c5, b4, b5, b6, b7⟩ := hS
  have hn6 : ls.length < 6 := by have := C.nf6; omega
  have hni : (ls.length : Int) < 6 := by omega
  have hne : ¬ ls.length = nf := by omega
  have k2 : ∀ W', KeepCells (OnB p B2 By Bo B5) W W' → W'.cell? ⟨B2, 0, none⟩ = some (.pointer (some ⟨p, 0, none⟩)) := fun W' h => h ⟨B2, 0, none⟩ _ (by simp [OnB]) c2
  have ko : ∀ W', KeepCells (OnB p B2 By Bo B5) W W' → W'.cell? ⟨Bo, 0, none⟩ = some (onV B2 By Bo B5) := fun W' h => h ⟨Bo, 0, none⟩ _ (by simp [OnB]) co
  have k6 : ∀ W', KeepCells (OnB p B2 By Bo B5) W W' → W'.cell? ⟨p, 6, none⟩ = some (.int .u64 fset) := fun W' h => h ⟨p, 6, none⟩ _ (by simp [OnB]) b6
  unfold onV at co ko
  rw [js_succ] at hpost
  have HP := Lib.hid hpost
  have HLEN := Lib.hid hlen
  clear hpost hlen
  go_enter Try.func74, Try.ntmps74
  go_upto_region 4 with fail
  go_cut [50] (fun v wx => OnMid W p B2 By Bo B5 bq J Jx (fun k => k = By ∨ k = Bo ∨ k = bq) pre (jsNone row fset sset ns r ls) ls v wx)
  case first =>
    refine (wpIn_wide (n := 1)).1 ?_
    refine wpIn_region_W (S := fun W' => KeepCells (OnB p B2 By Bo B5) W W') 16 (by kernel_rfl) (by kernel_rfl) (KeepCells.refl _ _) (fun hHeld => ?_)
    have hhas := has_any fset ls.length W.drew (Nat.lt_of_lt_of_le C.f6 (Nat.pow_le_pow_right (by omega) (by omega))) (by omega)
    have hbit : ∀ b, fset.testBit ls.length = b → jsNone row fset sset ns r ls = if b then [] else jsFrom row fset sset ns r (ls ++ [-1]) := fun b h => by unfold jsNone; rw [h]
    cases hb : fset.testBit ls.length
    all_goals
      have hjs := hbit _ hb
      rw [hb] at hhas
      have HJS := Lib.hid hjs
      clear hbit hb hjs
    ·
      refine wpAnyW_takeD 0 35 (v := ?_) (by kernel_rfl) (by kernel_rfl) (by kernel_rfl) (by kernel_rfl) (fun _ _ _ h => h) ?_ (by assumption) ?_
      rotate_left
      · intro oi hoi w hSw; (try dsimp only at hSw); simp only [List.getElem?_toArray, List.getElem?_cons_zero, List.getElem?_cons_succ, Option.some.injEq] at hoi; subst hoi; go_simp; try with_reducible rfl
      simp only [Act.put, List.setIfInBounds_toArray, List.set_cons_zero, List.set_cons_succ]
      refine wpAnyW_takeD 1 36 (v := ?_) (by kernel_rfl) (by kernel_rfl) (by kernel_rfl) (by kernel_rfl) (fun _ _ _ h => h) ?_ (by assumption) ?_
      rotate_left
      · intro oi hoi w hSw; (try dsimp only at hSw); simp only [List.getElem?_toArray, List.getElem?_cons_zero, List.getElem?_cons_succ, Option.some.injEq] at hoi; subst hoi; go_simp; try with_reducible rfl
      simp only [Act.put, List.setIfInBounds_toArray, List.set_cons_zero, List.set_cons_succ]
      refine wpAnyW_takeD 2 37 (v := ?_) (by kernel_rfl) (by kernel_rfl) (by kernel_rfl) (by kernel_rfl) (fun _ _ _ h => h) ?_ (by assumption) ?_
      rotate_left
      · intro oi hoi w hSw; (try dsimp only at hSw); simp only [List.getElem?_toArray, List.getElem?_cons_zero, List.getElem?_cons_succ, Option.some.injEq] at hoi; subst hoi; go_simp; try with_reducible rfl
      simp only [Act.put, List.setIfInBounds_toArray, List.set_cons_zero, List.set_cons_succ]
      refine wpAnyW_takeD 3 38 (v := ?_) (by kernel_rfl) (by kernel_rfl) (by kernel_rfl) (by kernel_rfl) (fun _ _ _ h => h) ?_ (by assumption) ?_
      rotate_left
      · intro oi hoi w hSw; (try dsimp only at hSw); simp only [List.getElem?_toArray, List.getElem?_cons_zero, List.getElem?_cons_succ, Option.some.injEq] at hoi; subst hoi; go_simp; try with_reducible rfl
      simp only [Act.put, List.setIfInBounds_toArray, List.set_cons_zero, List.set_cons_succ]
      refine wpAnyW_takeD 4 39 (v := ?_) (by kernel_rfl) (by kernel_rfl) (by kernel_rfl) (by kernel_rfl) (fun _ _ _ h => h) ?_ (by assumption) ?_
      rotate_left
      · intro oi hoi w hSw; (try dsimp only at hSw); simp only [List.getElem?_toArray, List.getElem?_cons_zero, List.getElem?_cons_succ, Option.some.injEq] at hoi; subst hoi; go_simp; try with_reducible rfl
      simp only [Act.put, List.setIfInBounds_toArray, List.set_cons_zero, List.set_cons_succ]
      refine wpAnyW_one 5 (by kernel_rfl) (by kernel_rfl) ?_
      intro o ho K hK
      simp only [List.getElem?_toArray, List.getElem?_cons_zero, List.getElem?_cons_succ, Option.some.injEq] at ho
      subst ho
      go_simp
      refine ⟨trivial, CallsIn.mono (callsIn_wide.2 hhas) ?_⟩
      rintro e W1 ⟨rfl, rfl⟩
      refine hK _ _ hHeld (fun _ => ?_)
      clear hK K
      try simp only [Act.put, List.setIfInBounds_toArray, List.set_cons_zero, List.set_cons_succ]
      refine wpAnyW_takeD 6 41 (v := ?_) (by kernel_rfl) (by kernel_rfl) (by kernel_rfl) (by kernel_rfl) (fun _ _ _ h => h) ?_ (by assumption) ?_
      rotate_left
      · intro oi hoi w hSw; (try dsimp only at hSw); simp only [List.getElem?_toArray, List.getElem?_cons_zero, List.getElem?_cons_succ, Option.some.injEq] at hoi; subst hoi; go_simp; try with_reducible rfl
      simp only [Act.put, List.setIfInBounds_toArray, List.set_cons_zero, List.set_cons_succ]
      refine wpAnyW_takeD 7 42 (v := ?_) (by kernel_rfl) (by kernel_rfl) (by kernel_rfl) (by kernel_rfl) (fun _ _ _ h => h) ?_ (by assumption) ?_
      rotate_left
      · intro oi hoi w hSw; (try dsimp only at hSw); simp only [List.getElem?_toArray, List.getElem?_cons_zero, List.getElem?_cons_succ, Option.some.injEq] at hoi; subst hoi; go_simp; try with_reducible rfl
      simp only [Act.put, List.setIfInBounds_toArray, List.set_cons_zero, List.set_cons_succ]
      refine wpAnyW_takeD 8 43 (v := ?_) (by kernel_rfl) (by kernel_rfl) (by kernel_rfl) (by kernel_rfl) (fun _ _ _ h => h) ?_ (by assumption) ?_
      rotate_left
      · intro oi hoi w hSw; (try dsimp only at hSw); simp only [List.getElem?_toArray, List.getElem?_cons_zero, List.getElem?_cons_succ, Option.some.injEq] at hoi; subst hoi; go_simp; try with_reducible rfl
      simp only [Act.put, List.setIfInBounds_toArray, List.set_cons_zero, List.set_cons_succ]
      refine wpAnyW_takeD 9 44 (v := ?_) (by kernel_rfl) (by kernel_rfl) (by kernel_rfl) (by kernel_rfl) (fun _ _ _ h => h) ?_ (by assumption) ?_
      rotate_left
      · intro oi hoi w hSw; (try dsimp only at hSw); simp only [List.getElem?_toArray, List.getElem?_cons_zero, List.getElem?_cons_succ, Option.some.injEq] at hoi; subst hoi; go_simp; try with_reducible rfl
      simp only [Act.put, List.setIfInBounds_toArray, List.set_cons_zero, List.set_cons_succ]
      refine wpAnyW_takeD 12 47 (v := ?_) (by kernel_rfl) (by kernel_rfl) (by kernel_rfl) (by kernel_rfl) (fun _ _ _ h => h) ?_ (by assumption) ?_
      rotate_left
      · intro oi hoi w hSw; (try dsimp only at hSw); simp only [List.getElem?_toArray, List.getElem?_cons_zero, List.getElem?_cons_succ, Option.some.injEq] at hoi; subst hoi; go_simp; try with_reducible rfl
      simp only [Act.put, List.setIfInBounds_toArray, List.set_cons_zero, List.set_cons_succ]
      refine wpAnyW_one 10 (by kernel_rfl) (by kernel_rfl) ?_
      intro o ho K hK
      simp only [List.getElem?_toArray, List.getElem?_cons_zero, List.getElem?_cons_succ, Option.some.injEq] at ho
      subst ho
      go_simp
      have hst1 : Steps (fun _ => False) W (W.alloc (.cells #[.int .i64 (-1)] 3)).drew := (Steps.alloc (fun _ => False) W _).drew
      have hc1 : (W.alloc (.cells #[.int .i64 (-1)] 3)).drew.cell? ⟨W.heap.size, 0, none⟩ = some (.int .i64 (-1)) := cell_new _ _ _ _ _ rfl
      generalize (W.alloc (.cells #[.int .i64 (-1)] 3)).drew = W1 at hst1 hc1 hK ⊢
      have hk1 : KeepCells (OnB p B2 By Bo B5) W W1 := KeepCells.of_steps hst1 (fun _ _ h => h)
      refine hK _ _ hk1 (fun hHeld1 => ?_)
      clear hK K
      try simp only [Act.put, List.setIfInBounds_toArray, List.set_cons_zero, List.set_cons_succ]
      have hR1 : RowAt W1 bq ls := by obtain ⟨cs, h1, h2⟩ := hR; exact ⟨cs, hst1.obj (fun h => h) h1, h2⟩
      refine wpAnyW_one 11 (by kernel_rfl) (by kernel_rfl) ?_
      intro o ho K hK
      simp only [List.getElem?_toArray, List.getElem?_cons_zero, List.getElem?_cons_succ, Option.some.injEq] at ho
      subst ho
      refine append_one (ls := ls) (y := -1) _ _ rfl rfl rfl hc1 hR1 hn6 ?_
      intro W2 hst2 hR2
      have hk2 : KeepCells (OnB p B2 By Bo B5) W1 W2 := KeepCells.of_steps hst2 (fun k h e => C.apart (e ▸ h))
      refine hK _ _ (hk1.trans hk2) (fun hHeld2 => ?_)
      clear hK K
      try simp only [Act.put, List.setIfInBounds_toArray, List.set_cons_zero, List.set_cons_succ]
      have hJ1 := C.hJ _ (fun k => k = By ∨ k = Bo ∨ k = bq) _ _ _ hJ (hst1.mono (fun _ _ h => h.elim)) (fun k h => .inl h)
      have hJ2 := C.hJ _ (fun k => k = By ∨ k = Bo ∨ k = bq) _ _ _ hJ1 (hst2.mono (fun _ _ h => .inr (.inr h))) (fun k h => .inl h)
      have hih := ih (ls ++ [-1]) used pre W2 (by have := HLEN.out; simp; omega) (hS0.keep (hk1.trans hk2)) hR2 hU.none (by have := hst1.size; have := hst2.size; omega) hJ2 (by
        obtain ⟨post, hp⟩ := HP.out
        rw [HJS.out] at hp
        exact ⟨_, by rw [hp]; simp only [Bool.false_eq_true, if_false, List.append_assoc]; rfl⟩)
      simp only [List.length_append, List.length_singleton] at hih
      refine wpAnyW_one 13 (by kernel_rfl) (by kernel_rfl) ?_
      intro o ho K hK
      simp only [List.getElem?_toArray, List.getElem?_cons_zero, List.getElem?_cons_succ, Option.some.injEq] at ho
      subst ho
      go_simp
      refine ⟨trivial, CallsIn.mono (callsIn_wide.2 hih) ?_⟩
      rintro e W3 ⟨hk3, hz3, (⟨rfl, hR3, hJ3⟩ | ⟨rfl, qq, hpre, hJx3⟩)⟩
      all_goals
        refine hK _ _ ((hk1.trans hk2).trans hk3) (fun hHeld3 => ?_)
        clear hK K
        try simp only [Act.put, List.setIfInBounds_toArray, List.set_cons_zero, List.set_cons_succ]
        refine wpAnyW_takeD 14 49 (v := ?_) (by kernel_rfl) (by kernel_rfl) (by kernel_rfl) (by kernel_rfl) (fun _ _ _ h => h) ?_ (by assumption) ?_
        rotate_left
        · intro oi hoi w hSw; (try dsimp only at hSw); simp only [List.getElem?_toArray, List.getElem?_cons_zero, List.getElem?_cons_succ, Option.some.injEq] at hoi; subst hoi; go_simp; try with_reducible rfl
        simp only [Act.put, List.setIfInBounds_toArray, List.set_cons_zero, List.set_cons_succ]
        refine wpAnyW_takeD 15 50 (v := ?_) (by kernel_rfl) (by kernel_rfl) (by kernel_rfl) (by kernel_rfl) (fun _ _ _ h => h) ?_ (by assumption) ?_
        rotate_left
        · intro oi hoi w hSw; (try dsimp only at hSw); simp only [List.getElem?_toArray, List.getElem?_cons_zero, List.getElem?_cons_succ, Option.some.injEq] at hoi; subst hoi; go_simp; try with_reducible rfl
        simp only [Act.put, List.setIfInBounds_toArray, List.set_cons_zero, List.set_cons_succ]
        refine wpAnyW_done (by kernel_rfl) ?_ _
        go_wp2_with fail
        go_meet
        rw [HJS.out]
      · exact ⟨(hk1.trans hk2).trans hk3, Nat.le_trans hst1.size (Nat.le_trans hst2.size hz3), .inl ⟨rfl, hR3.pop, hJ3⟩⟩
      · exact ⟨(hk1.trans hk2).trans hk3, Nat.le_trans hst1.size (Nat.le_trans hst2.size hz3), .inr ⟨rfl, qq, hpre, hJx3⟩⟩
    ·
      refine wpAnyW_takeD 0 35 (v := ?_) (by kernel_rfl) (by kernel_rfl) (by kernel_rfl) (by kernel_rfl) (fun _ _ _ h => h) ?_ (by assumption) ?_
      rotate_left
      · intro oi hoi w hSw; (try dsimp only at hSw); simp only [List.getElem?_toArray, List.getElem?_cons_zero, List.getElem?_cons_succ, Option.some.injEq] at hoi; subst hoi; go_simp; try with_reducible rfl
      simp only [Act.put, List.setIfInBounds_toArray, List.set_cons_zero, List.set_cons_succ]
      refine wpAnyW_takeD 1 36 (v := ?_) (by kernel_rfl) (by kernel_rfl) (by kernel_rfl) (by kernel_rfl) (fun _ _ _ h => h) ?_ (by assumption) ?_
      rotate_left
      · intro oi hoi w hSw; (try dsimp only at hSw); simp only [List.getElem?_toArray, List.getElem?_cons_zero, List.getElem?_cons_succ, Option.some.injEq] at hoi; subst hoi; go_simp; try with_reducible rfl
      simp only [Act.put, List.setIfInBounds_toArray, List.set_cons_zero, List.set_cons_succ]
      refine wpAnyW_takeD 2 37 (v := ?_) (by kernel_rfl) (by kernel_rfl) (by kernel_rfl) (by kernel_rfl) (fun _ _ _ h => h) ?_ (by assumption) ?_
      rotate_left
      · intro oi hoi w hSw; (try dsimp only at hSw); simp only [List.getElem?_toArray, List.getElem?_cons_zero, List.getElem?_cons_succ, Option.some.injEq] at hoi; subst hoi; go_simp; try with_reducible rfl
      simp only [Act.put, List.setIfInBounds_toArray, List.set_cons_zero, List.set_cons_succ]
      refine wpAnyW_takeD 3 38 (v := ?_) (by kernel_rfl) (by kernel_rfl) (by kernel_rfl) (by kernel_rfl) (fun _ _ _ h => h) ?_ (by assumption) ?_
      rotate_left
      · intro oi hoi w hSw; (try dsimp only at hSw); simp only [List.getElem?_toArray, List.getElem?_cons_zero, List.getElem?_cons_succ, Option.some.injEq] at hoi; subst hoi; go_simp; try with_reducible rfl
      simp only [Act.put, List.setIfInBounds_toArray, List.set_cons_zero, List.set_cons_succ]
      refine wpAnyW_takeD 4 39 (v := ?_) (by kernel_rfl) (by kernel_rfl) (by kernel_rfl) (by kernel_rfl) (fun _ _ _ h => h) ?_ (by assumption) ?_
      rotate_left
      · intro oi hoi w hSw; (try dsimp only at hSw); simp only [List.getElem?_toArray, List.getElem?_cons_zero, List.getElem?_cons_succ, Option.some.injEq] at hoi; subst hoi; go_simp; try with_reducible rfl
      simp only [Act.put, List.setIfInBounds_toArray, List.set_cons_zero, List.set_cons_succ]
      refine wpAnyW_one 5 (by kernel_rfl) (by kernel_rfl) ?_
      intro o ho K hK
      simp only [List.getElem?_toArray, List.getElem?_cons_zero, List.getElem?_cons_succ, Option.some.injEq] at ho
      subst ho
      go_simp
      refine ⟨trivial, CallsIn.mono (callsIn_wide.2 hhas) ?_⟩
      rintro e W1 ⟨rfl, rfl⟩
      refine hK _ _ hHeld (fun _ => ?_)
      clear hK K
      try simp only [Act.put, List.setIfInBounds_toArray, List.set_cons_zero, List.set_cons_succ]
      refine wpAnyW_takeD 6 41 (v := ?_) (by kernel_rfl) (by kernel_rfl) (by kernel_rfl) (by kernel_rfl) (fun _ _ _ h => h) ?_ (by assumption) ?_
      rotate_left
      · intro oi hoi w hSw; (try dsimp only at hSw); simp only [List.getElem?_toArray, List.getElem?_cons_zero, List.getElem?_cons_succ, Option.some.injEq] at hoi; subst hoi; go_simp; try with_reducible rfl
      simp only [Act.put, List.setIfInBounds_toArray, List.set_cons_zero, List.set_cons_succ]
      refine wpAnyW_takeD 7 42 (v := ?_) (by kernel_rfl) (by kernel_rfl) (by kernel_rfl) (by kernel_rfl) (fun _ _ _ h => h) ?_ (by assumption) ?_
      rotate_left
      · intro oi hoi w hSw; (try dsimp only at hSw); simp only [List.getElem?_toArray, List.getElem?_cons_zero, List.getElem?_cons_succ, Option.some.injEq] at hoi; subst hoi; go_simp; try with_reducible rfl
      simp only [Act.put, List.setIfInBounds_toArray, List.set_cons_zero, List.set_cons_succ]
      refine wpAnyW_skipD 8 43 (by kernel_rfl) (by kernel_rfl) (by kernel_rfl) (by kernel_rfl) (fun _ _ _ h => h) (by assumption) ?_
      simp only [Act.put, List.setIfInBounds_toArray, List.set_cons_zero, List.set_cons_succ]
      refine wpAnyW_skipD 9 44 (by kernel_rfl) (by kernel_rfl) (by kernel_rfl) (by kernel_rfl) (fun _ _ _ h => h) (by assumption) ?_
      simp only [Act.put, List.setIfInBounds_toArray, List.set_cons_zero, List.set_cons_succ]
      refine wpAnyW_skipD 10 45 (by kernel_rfl) (by kernel_rfl) (by kernel_rfl) (by kernel_rfl) (fun _ _ _ h => h) (by assumption) ?_
      simp only [Act.put, List.setIfInBounds_toArray, List.set_cons_zero, List.set_cons_succ]
      refine wpAnyW_skipD 11 46 (by kernel_rfl) (by kernel_rfl) (by kernel_rfl) (by kernel_rfl) (fun _ _ _ h => h) (by assumption) ?_
      simp only [Act.put, List.setIfInBounds_toArray, List.set_cons_zero, List.set_cons_succ]
      refine wpAnyW_skipD 12 47 (by kernel_rfl) (by kernel_rfl) (by kernel_rfl) (by kernel_rfl) (fun _ _ _ h => h) (by assumption) ?_
      simp only [Act.put, List.setIfInBounds_toArray, List.set_cons_zero, List.set_cons_succ]
      refine wpAnyW_skipD 13 48 (by kernel_rfl) (by kernel_rfl) (by kernel_rfl) (by kernel_rfl) (fun _ _ _ h => h) (by assumption) ?_
      simp only [Act.put, List.setIfInBounds_toArray, List.set_cons_zero, List.set_cons_succ]
      refine wpAnyW_skipD 14 49 (by kernel_rfl) (by kernel_rfl) (by kernel_rfl) (by kernel_rfl) (fun _ _ _ h => h) (by assumption) ?_
      simp only [Act.put, List.setIfInBounds_toArray, List.set_cons_zero, List.set_cons_succ]
      refine wpAnyW_takeD 15 50 (v := ?_) (by kernel_rfl) (by kernel_rfl) (by kernel_rfl) (by kernel_rfl) (fun _ _ _ h => h) ?_ (by assumption) ?_
      rotate_left
      · intro oi hoi w hSw; (try dsimp only at hSw); simp only [List.getElem?_toArray, List.getElem?_cons_zero, List.getElem?_cons_succ, Option.some.injEq] at hoi; subst hoi; go_simp; try with_reducible rfl
      simp only [Act.put, List.setIfInBounds_toArray, List.set_cons_zero, List.set_cons_succ]
      refine wpAnyW_done (by kernel_rfl) ?_ _
      go_wp2_with fail
      go_meet
      rw [HJS.out]
      exact ⟨hHeld, Nat.le_refl _, .inl ⟨rfl, hR, by simpa using C.hJ _ _ _ _ W.drew hJ (Steps.refl _ W).drew (fun k h => .inl h)⟩⟩
  case rest =>
    obtain ⟨hkc, hzc, (⟨rfl, hRc, hJc⟩ | ⟨rfl, qq, hpre, hJxc⟩)⟩ := hcut
    · have hSc := hS0.keep hkc
      obtain ⟨d2, dy, d0, d5, e4, e5, e6, e7⟩ := hSc
      have dm := d5 ls.length hn6
      have hAN := andN_bits (row ls.length) used (Nat.lt_of_lt_of_le (C.row6 _) (Nat.pow_le_pow_right (by omega) (Nat.le_trans C.ns6 (by omega)))) (Nat.lt_of_lt_of_le hU.1 (Nat.pow_le_pow_right (by omega) (by omega)))
      clear d5
      go_wp2_with fail
      go_loopw [11, 62] (fun _ i wr => ∃ k : Nat, k ≤ ns ∧ i = .int .i64 k ∧ KeepCells (OnB p B2 By Bo B5) W wr ∧ W.heap.size ≤ wr.heap.size ∧ RowAt wr bq ls ∧ J (fun k => k = By ∨ k = Bo ∨ k = bq) (pre ++ jsNone row fset sset ns r ls ++ jsTo row fset sset ns r ls k) wr) (fun _ i _ => ns - (intOf i).toNat)
      case atStart => exact ⟨0, Nat.zero_le _, rfl, hkc, hzc, hRc, by simpa [jsTo] using hJc⟩
      case round =>
        obtain ⟨wo, rfl⟩ : ∃ x, x = wr := ⟨_, rfl⟩
        obtain ⟨k, hk, rfl, hkr, hzr, hRr, hJr⟩ := hrel
        by_cases hlt : k < ns
        · have hfl := andN_lt (row ls.length) used ns (C.row6 _)
          have hk6 : k < 6 := by have := C.ns6; omega
          have hki : (k : Int) < 64 := by omega
          have hcond : ∀ b, (andN (row ls.length) used).testBit k = b → ((row ls.length).testBit k && !ls.contains (k : Int)) = b := fun b h => by
            rw [← h, andN_testBit _ _ _ (Nat.lt_of_lt_of_le hU.1 (Nat.pow_le_pow_right (by omega) (by omega))) (by omega), hU.2]
          have hhas := has_any (andN (row ls.length) used) k wo.drew (Nat.lt_of_lt_of_le hfl (Nat.pow_le_pow_right (by omega) (by have := C.ns6; omega))) (by omega)
          have hor : bits .or .u64 (used : Int) (IntKind.u64.wrap (2 ^ k)) = ((used ||| 2 ^ k : Nat) : Int) := by
            rw [pow_u64 k (by omega), or_u64 _ _ (Nat.lt_of_lt_of_le hU.1 (Nat.pow_le_pow_right (by omega) (by omega))) (Nat.pow_lt_pow_right (by omega) (by omega))]
          obtain ⟨tb, htb⟩ : ∃ tb, (andN (row ls.length) used).testBit k = tb := ⟨_, rfl⟩
          have hnext := jsTo_succ row fset sset ns r ls k
          rw [hcond tb htb] at hnext
          have hsplit := jsTo_split row fset sset ns r ls k hlt
          rw [hnext] at hsplit
          have HSP := Lib.hid hsplit
          have HNX := Lib.hid hnext
          rw [htb] at hhas
          clear hsplit hnext hcond htb d2 dy d0 e4 e5 e6 e7 dm hAN c2 cy co c5 b4 b5 b6 b7
          go_upto_region 10 with fail
          go_cut [80] (fun v wx => OnMid W p B2 By Bo B5 bq J Jx (fun k => k = By ∨ k = Bo ∨ k = bq) (pre ++ jsNone row fset sset ns r ls ++ jsTo row fset sset ns r ls k) (if tb then jsFrom row fset sset ns r (ls ++ [(k : Int)]) else []) ls v wx)
          case first =>
            refine (wpIn_wide (n := 1)).1 ?_
            refine wpIn_region_W (S := fun W' => KeepCells (OnB p B2 By Bo B5) W W') 16 (by kernel_rfl) (by kernel_rfl) hkr (fun hHeld => ?_)
            cases tb
            ·
              refine wpAnyW_takeD 0 65 (v := ?_) (by kernel_rfl) (by kernel_rfl) (by kernel_rfl) (by kernel_rfl) (fun _ _ _ h => h) ?_ (by assumption) ?_
              rotate_left
              · intro oi hoi w hSw; (try dsimp only at hSw); simp only [List.getElem?_toArray, List.getElem?_cons_zero, List.getElem?_cons_succ, Option.some.injEq] at hoi; subst hoi; go_simp; try with_reducible rfl
              simp only [Act.put, List.setIfInBounds_toArray, List.set_cons_zero, List.set_cons_succ]
              refine wpAnyW_takeD 1 66 (v := ?_) (by kernel_rfl) (by kernel_rfl) (by kernel_rfl) (by kernel_rfl) (fun _ _ _ h => h) ?_ (by assumption) ?_
              rotate_left
              · intro oi hoi w hSw; (try dsimp only at hSw); simp only [List.getElem?_toArray, List.getElem?_cons_zero, List.getElem?_cons_succ, Option.some.injEq] at hoi; subst hoi; go_simp; try with_reducible rfl
              simp only [Act.put, List.setIfInBounds_toArray, List.set_cons_zero, List.set_cons_succ]
              refine wpAnyW_one 2 (by kernel_rfl) (by kernel_rfl) ?_
              intro o ho K hK
              simp only [List.getElem?_toArray, List.getElem?_cons_zero, List.getElem?_cons_succ, Option.some.injEq] at ho
              subst ho
              go_simp
              refine ⟨trivial, CallsIn.mono (callsIn_wide.2 hhas) ?_⟩
              rintro e W1 ⟨rfl, rfl⟩
              refine hK _ _ hHeld (fun _ => ?_)
              clear hK K
              try simp only [Act.put, List.setIfInBounds_toArray, List.set_cons_zero, List.set_cons_succ]
              refine wpAnyW_takeD 3 68 (v := ?_) (by kernel_rfl) (by kernel_rfl) (by kernel_rfl) (by kernel_rfl) (fun _ _ _ h => h) ?_ (by assumption) ?_
              rotate_left
              · intro oi hoi w hSw; (try dsimp only at hSw); simp only [List.getElem?_toArray, List.getElem?_cons_zero, List.getElem?_cons_succ, Option.some.injEq] at hoi; subst hoi; go_simp; try with_reducible rfl
              simp only [Act.put, List.setIfInBounds_toArray, List.set_cons_zero, List.set_cons_succ]
              refine wpAnyW_skipD 4 69 (by kernel_rfl) (by kernel_rfl) (by kernel_rfl) (by kernel_rfl) (fun _ _ _ h => h) (by assumption) ?_
              simp only [Act.put, List.setIfInBounds_toArray, List.set_cons_zero, List.set_cons_succ]
              refine wpAnyW_skipD 5 70 (by kernel_rfl) (by kernel_rfl) (by kernel_rfl) (by kernel_rfl) (fun _ _ _ h => h) (by assumption) ?_
              simp only [Act.put, List.setIfInBounds_toArray, List.set_cons_zero, List.set_cons_succ]
              refine wpAnyW_skipD 6 71 (by kernel_rfl) (by kernel_rfl) (by kernel_rfl) (by kernel_rfl) (fun _ _ _ h => h) (by assumption) ?_
              simp only [Act.put, List.setIfInBounds_toArray, List.set_cons_zero, List.set_cons_succ]
              refine wpAnyW_skipD 7 72 (by kernel_rfl) (by kernel_rfl) (by kernel_rfl) (by kernel_rfl) (fun _ _ _ h => h) (by assumption) ?_
              simp only [Act.put, List.setIfInBounds_toArray, List.set_cons_zero, List.set_cons_succ]
              refine wpAnyW_skipD 8 73 (by kernel_rfl) (by kernel_rfl) (by kernel_rfl) (by kernel_rfl) (fun _ _ _ h => h) (by assumption) ?_
              simp only [Act.put, List.setIfInBounds_toArray, List.set_cons_zero, List.set_cons_succ]
              refine wpAnyW_skipD 9 74 (by kernel_rfl) (by kernel_rfl) (by kernel_rfl) (by kernel_rfl) (fun _ _ _ h => h) (by assumption) ?_
              simp only [Act.put, List.setIfInBounds_toArray, List.set_cons_zero, List.set_cons_succ]
              refine wpAnyW_skipD 10 75 (by kernel_rfl) (by kernel_rfl) (by kernel_rfl) (by kernel_rfl) (fun _ _ _ h => h) (by assumption) ?_
              simp only [Act.put, List.setIfInBounds_toArray, List.set_cons_zero, List.set_cons_succ]
              refine wpAnyW_skipD 11 76 (by kernel_rfl) (by kernel_rfl) (by kernel_rfl) (by kernel_rfl) (fun _ _ _ h => h) (by assumption) ?_
              simp only [Act.put, List.setIfInBounds_toArray, List.set_cons_zero, List.set_cons_succ]
              refine wpAnyW_skipD 12 77 (by kernel_rfl) (by kernel_rfl) (by kernel_rfl) (by kernel_rfl) (fun _ _ _ h => h) (by assumption) ?_
              simp only [Act.put, List.setIfInBounds_toArray, List.set_cons_zero, List.set_cons_succ]
              refine wpAnyW_skipD 13 78 (by kernel_rfl) (by kernel_rfl) (by kernel_rfl) (by kernel_rfl) (fun _ _ _ h => h) (by assumption) ?_
              simp only [Act.put, List.setIfInBounds_toArray, List.set_cons_zero, List.set_cons_succ]
              refine wpAnyW_skipD 14 79 (by kernel_rfl) (by kernel_rfl) (by kernel_rfl) (by kernel_rfl) (fun _ _ _ h => h) (by assumption) ?_
              simp only [Act.put, List.setIfInBounds_toArray, List.set_cons_zero, List.set_cons_succ]
              refine wpAnyW_takeD 15 80 (v := ?_) (by kernel_rfl) (by kernel_rfl) (by kernel_rfl) (by kernel_rfl) (fun _ _ _ h => h) ?_ (by assumption) ?_
              rotate_left
              · intro oi hoi w hSw; (try dsimp only at hSw); simp only [List.getElem?_toArray, List.getElem?_cons_zero, List.getElem?_cons_succ, Option.some.injEq] at hoi; subst hoi; go_simp; try with_reducible rfl
              simp only [Act.put, List.setIfInBounds_toArray, List.set_cons_zero, List.set_cons_succ]
              refine wpAnyW_done (by kernel_rfl) ?_ _
              go_wp2_with fail
              go_meet
              exact ⟨hHeld, hzr, .inl ⟨rfl, hRr, by simpa using C.hJ _ _ _ _ wo.drew hJr (Steps.refl _ wo).drew (fun k h => .inl h)⟩⟩
            ·
              refine wpAnyW_takeD 0 65 (v := ?_) (by kernel_rfl) (by kernel_rfl) (by kernel_rfl) (by kernel_rfl) (fun _ _ _ h => h) ?_ (by assumption) ?_
              rotate_left
              · intro oi hoi w hSw; (try dsimp only at hSw); simp only [List.getElem?_toArray, List.getElem?_cons_zero, List.getElem?_cons_succ, Option.some.injEq] at hoi; subst hoi; go_simp; try with_reducible rfl
              simp only [Act.put, List.setIfInBounds_toArray, List.set_cons_zero, List.set_cons_succ]
              refine wpAnyW_takeD 1 66 (v := ?_) (by kernel_rfl) (by kernel_rfl) (by kernel_rfl) (by kernel_rfl) (fun _ _ _ h => h) ?_ (by assumption) ?_
              rotate_left
              · intro oi hoi w hSw; (try dsimp only at hSw); simp only [List.getElem?_toArray, List.getElem?_cons_zero, List.getElem?_cons_succ, Option.some.injEq] at hoi; subst hoi; go_simp; try with_reducible rfl
              simp only [Act.put, List.setIfInBounds_toArray, List.set_cons_zero, List.set_cons_succ]
              refine wpAnyW_one 2 (by kernel_rfl) (by kernel_rfl) ?_
              intro o ho K hK
              simp only [List.getElem?_toArray, List.getElem?_cons_zero, List.getElem?_cons_succ, Option.some.injEq] at ho
              subst ho
              go_simp
              refine ⟨trivial, CallsIn.mono (callsIn_wide.2 hhas) ?_⟩
              rintro e W1 ⟨rfl, rfl⟩
              refine hK _ _ hHeld (fun _ => ?_)
              clear hK K
              try simp only [Act.put, List.setIfInBounds_toArray, List.set_cons_zero, List.set_cons_succ]
              refine wpAnyW_takeD 3 68 (v := ?_) (by kernel_rfl) (by kernel_rfl) (by kernel_rfl) (by kernel_rfl) (fun _ _ _ h => h) ?_ (by assumption) ?_
              rotate_left
              · intro oi hoi w hSw; (try dsimp only at hSw); simp only [List.getElem?_toArray, List.getElem?_cons_zero, List.getElem?_cons_succ, Option.some.injEq] at hoi; subst hoi; go_simp; try with_reducible rfl
              simp only [Act.put, List.setIfInBounds_toArray, List.set_cons_zero, List.set_cons_succ]
              refine wpAnyW_takeD 4 69 (v := ?_) (by kernel_rfl) (by kernel_rfl) (by kernel_rfl) (by kernel_rfl) (fun _ _ _ h => h) ?_ (by assumption) ?_
              rotate_left
              · intro oi hoi w hSw; (try dsimp only at hSw); simp only [List.getElem?_toArray, List.getElem?_cons_zero, List.getElem?_cons_succ, Option.some.injEq] at hoi; subst hoi; go_simp; try with_reducible rfl
              simp only [Act.put, List.setIfInBounds_toArray, List.set_cons_zero, List.set_cons_succ]
              refine wpAnyW_takeD 5 70 (v := ?_) (by kernel_rfl) (by kernel_rfl) (by kernel_rfl) (by kernel_rfl) (fun _ _ _ h => h) ?_ (by assumption) ?_
              rotate_left
              · intro oi hoi w hSw; (try dsimp only at hSw); simp only [List.getElem?_toArray, List.getElem?_cons_zero, List.getElem?_cons_succ, Option.some.injEq] at hoi; subst hoi; go_simp; try with_reducible rfl
              simp only [Act.put, List.setIfInBounds_toArray, List.set_cons_zero, List.set_cons_succ]
              refine wpAnyW_takeD 6 71 (v := ?_) (by kernel_rfl) (by kernel_rfl) (by kernel_rfl) (by kernel_rfl) (fun _ _ _ h => h) ?_ (by assumption) ?_
              rotate_left
              · intro oi hoi w hSw; (try dsimp only at hSw); simp only [List.getElem?_toArray, List.getElem?_cons_zero, List.getElem?_cons_succ, Option.some.injEq] at hoi; subst hoi; go_simp; try with_reducible rfl
              simp only [Act.put, List.setIfInBounds_toArray, List.set_cons_zero, List.set_cons_succ]
              refine wpAnyW_takeD 9 74 (v := ?_) (by kernel_rfl) (by kernel_rfl) (by kernel_rfl) (by kernel_rfl) (fun _ _ _ h => h) ?_ (by assumption) ?_
              rotate_left
              · intro oi hoi w hSw; (try dsimp only at hSw); simp only [List.getElem?_toArray, List.getElem?_cons_zero, List.getElem?_cons_succ, Option.some.injEq] at hoi; subst hoi; go_simp; try with_reducible rfl
              simp only [Act.put, List.setIfInBounds_toArray, List.set_cons_zero, List.set_cons_succ]
              refine wpAnyW_takeD 10 75 (v := ?_) (by kernel_rfl) (by kernel_rfl) (by kernel_rfl) (by kernel_rfl) (fun _ _ _ h => h) ?_ (by assumption) ?_
              rotate_left
              · intro oi hoi w hSw; (try dsimp only at hSw); simp only [List.getElem?_toArray, List.getElem?_cons_zero, List.getElem?_cons_succ, Option.some.injEq] at hoi; subst hoi; go_simp; try with_reducible rfl
              simp only [Act.put, List.setIfInBounds_toArray, List.set_cons_zero, List.set_cons_succ]
              refine wpAnyW_takeD 11 76 (v := ?_) (by kernel_rfl) (by kernel_rfl) (by kernel_rfl) (by kernel_rfl) (fun _ _ _ h => h) ?_ (by assumption) ?_
              rotate_left
              · intro oi hoi w hSw; (try dsimp only at hSw); simp only [List.getElem?_toArray, List.getElem?_cons_zero, List.getElem?_cons_succ, Option.some.injEq] at hoi; subst hoi; go_simp; try with_reducible rfl
              simp only [Act.put, List.setIfInBounds_toArray, List.set_cons_zero, List.set_cons_succ]
              refine wpAnyW_takeD 12 77 (v := ?_) (by kernel_rfl) (by kernel_rfl) (by kernel_rfl) (by kernel_rfl) (fun _ _ _ h => h) ?_ (by assumption) ?_
              rotate_left
              · intro oi hoi w hSw; (try dsimp only at hSw); simp only [List.getElem?_toArray, List.getElem?_cons_zero, List.getElem?_cons_succ, Option.some.injEq] at hoi; subst hoi; go_simp; try with_reducible rfl
              simp only [Act.put, List.setIfInBounds_toArray, List.set_cons_zero, List.set_cons_succ]
              refine wpAnyW_one 7 (by kernel_rfl) (by kernel_rfl) ?_
              intro o ho K hK
              simp only [List.getElem?_toArray, List.getElem?_cons_zero, List.getElem?_cons_succ, Option.some.injEq] at ho
              subst ho
              go_simp
              have hst1 : Steps (fun _ => False) wo (wo.alloc (.cells #[.int .i64 k] 3)).drew := (Steps.alloc (fun _ => False) wo _).drew
              have hc1 : (wo.alloc (.cells #[.int .i64 k] 3)).drew.cell? ⟨wo.heap.size, 0, none⟩ = some (.int .i64 k) := cell_new _ _ _ _ _ rfl
              generalize (wo.alloc (.cells #[.int .i64 k] 3)).drew = W1 at hst1 hc1 hK ⊢
              have hk1 : KeepCells (OnB p B2 By Bo B5) W W1 := hkr.trans (KeepCells.of_steps hst1 (fun _ _ h => h))
              refine hK _ _ hk1 (fun hHeld1 => ?_)
              clear hK K
              try simp only [Act.put, List.setIfInBounds_toArray, List.set_cons_zero, List.set_cons_succ]
              have hR1 : RowAt W1 bq ls := by obtain ⟨cs, h1, h2⟩ := hRr; exact ⟨cs, hst1.obj (fun h => h) h1, h2⟩
              refine wpAnyW_one 8 (by kernel_rfl) (by kernel_rfl) ?_
              intro o ho K hK
              simp only [List.getElem?_toArray, List.getElem?_cons_zero, List.getElem?_cons_succ, Option.some.injEq] at ho
              subst ho
              refine append_one (ls := ls) (y := (k : Int)) _ _ rfl rfl rfl hc1 hR1 hn6 ?_
              intro W2 hst2 hR2
              have hk2 : KeepCells (OnB p B2 By Bo B5) W1 W2 := KeepCells.of_steps hst2 (fun k h e => C.apart (e ▸ h))
              refine hK _ _ (hk1.trans hk2) (fun hHeld2 => ?_)
              clear hK K
              try simp only [Act.put, List.setIfInBounds_toArray, List.set_cons_zero, List.set_cons_succ]
              have hJ1 := C.hJ _ (fun k => k = By ∨ k = Bo ∨ k = bq) _ _ _ hJr (hst1.mono (fun _ _ h => h.elim)) (fun k h => .inl h)
              have hJ2 := C.hJ _ (fun k => k = By ∨ k = Bo ∨ k = bq) _ _ _ hJ1 (hst2.mono (fun _ _ h => .inr (.inr h))) (fun k h => .inl h)
              have hih := ih (ls ++ [(k : Int)]) (used ||| 2 ^ k) (pre ++ jsNone row fset sset ns r ls ++ jsTo row fset sset ns r ls k) W2 (by have := HLEN.out; simp; omega) (hS0.keep (hk1.trans hk2)) hR2 (hU.some hk6) (by have := hst1.size; have := hst2.size; omega) hJ2 (by
                obtain ⟨post, hp⟩ := HP.out
                obtain ⟨post2, hp2⟩ := HSP.out
                rw [hp2] at hp
                exact ⟨post2 ++ post, by rw [hp]; simp⟩)
              simp only [List.length_append, List.length_singleton] at hih
              refine wpAnyW_one 13 (by kernel_rfl) (by kernel_rfl) ?_
              intro o ho K hK
              simp only [List.getElem?_toArray, List.getElem?_cons_zero, List.getElem?_cons_succ, Option.some.injEq] at ho
              subst ho
              go_simp
              refine ⟨trivial, CallsIn.mono (callsIn_wide.2 hih) ?_⟩
              rintro e W3 ⟨hk3, hz3, (⟨rfl, hR3, hJ3⟩ | ⟨rfl, qq, hpre, hJx3⟩)⟩
              all_goals
                refine hK _ _ ((hk1.trans hk2).trans hk3) (fun hHeld3 => ?_)
                clear hK K
                try simp only [Act.put, List.setIfInBounds_toArray, List.set_cons_zero, List.set_cons_succ]
                refine wpAnyW_takeD 14 79 (v := ?_) (by kernel_rfl) (by kernel_rfl) (by kernel_rfl) (by kernel_rfl) (fun _ _ _ h => h) ?_ (by assumption) ?_
                rotate_left
                · intro oi hoi w hSw; (try dsimp only at hSw); simp only [List.getElem?_toArray, List.getElem?_cons_zero, List.getElem?_cons_succ, Option.some.injEq] at hoi; subst hoi; go_simp; try with_reducible rfl
                simp only [Act.put, List.setIfInBounds_toArray, List.set_cons_zero, List.set_cons_succ]
                refine wpAnyW_takeD 15 80 (v := ?_) (by kernel_rfl) (by kernel_rfl) (by kernel_rfl) (by kernel_rfl) (fun _ _ _ h => h) ?_ (by assumption) ?_
                rotate_left
                · intro oi hoi w hSw; (try dsimp only at hSw); simp only [List.getElem?_toArray, List.getElem?_cons_zero, List.getElem?_cons_succ, Option.some.injEq] at hoi; subst hoi; go_simp; try with_reducible rfl
                simp only [Act.put, List.setIfInBounds_toArray, List.set_cons_zero, List.set_cons_succ]
                refine wpAnyW_done (by kernel_rfl) ?_ _
                go_wp2_with fail
                go_meet
              · exact ⟨(hk1.trans hk2).trans hk3, Nat.le_trans hzr (Nat.le_trans hst1.size (Nat.le_trans hst2.size hz3)), .inl ⟨rfl, hR3.pop, hJ3⟩⟩
              · exact ⟨(hk1.trans hk2).trans hk3, Nat.le_trans hzr (Nat.le_trans hst1.size (Nat.le_trans hst2.size hz3)), .inr ⟨rfl, qq, hpre, hJx3⟩⟩
          case rest =>
            obtain ⟨hkx, hzx, (⟨rfl, hRx, hJx⟩ | ⟨rfl, qq, hpre, hJxx⟩)⟩ := hcut
            · go_wp2_with fail
              go_roundw
              case rel => exact ⟨k + 1, by omega, by go_num, hkx, hzx, hRx, by rw [HNX.out, ← List.append_assoc]; exact hJx⟩
              case measure => simp [intOf]; omega
            · go_wp2_with fail
              go_ret
              obtain ⟨t, ht⟩ := hpre
              obtain ⟨post2, hp2⟩ := HSP.out
              rw [js_succ]
              exact ⟨hkx, hzx, .inr ⟨rfl, jsNone row fset sset ns r ls ++ jsTo row fset sset ns r ls k ++ qq, ⟨t ++ post2, by rw [hp2, ← ht]; simp⟩, by simpa using hJxx⟩⟩
        · obtain rfl : k = ns := by omega
          go_wp2_with fail
          go_ret
          rw [js_succ]
          exact ⟨hkr, hzr, .inl ⟨rfl, hRr, by simpa using hJr⟩⟩
    · go_wp2_with fail
      go_ret
      obtain ⟨t, ht⟩ := hpre
      rw [js_succ]
      exact ⟨hkc, hzc, .inr ⟨rfl, qq, ⟨t ++ jsTo row fset sset ns r ls ns, by rw [← List.append_assoc, ht]⟩, hJxc⟩⟩
end
end Go.Proofs.Ytjkegmjjhdmkiaa
