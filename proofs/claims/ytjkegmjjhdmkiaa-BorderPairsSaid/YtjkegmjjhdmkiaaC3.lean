/- Package border: the recursive function behind the iterator over all joinings. -/
import Derived.Test.YtjkegmjjhdmkiaaC2
import Derived.Test.YtjkegmjjhdmkiaaFence
namespace Go.Proofs.Ytjkegmjjhdmkiaa
open Go.RowKit Go.Shelf
attribute [local go_sem] Oper.semAt_some
set_option maxHeartbeats 1600000
set_option maxRecDepth 100000
set_option linter.unusedSimpArgs false

/-- Where no depth is asked the figures are all one. -/
theorem room_any (k : Nat) : Fence.wide.room k := fun d h => by simp [Fence.wide] at h
theorem RoundIn.any {m m' : Nat} {P : Program} {l : Nat} {f : FuncId} {tmps : Array Value} {assign body : Code} {w : World} {R : Ending → World → Prop}
    (h : RoundIn Fence.wide m P l f tmps assign body w R) : RoundIn Fence.wide m' P l f tmps assign body w R := ⟨h.1, fun c cs _ => h.2 c cs (room_any _)⟩

/-- The value 'on': the function that calls itself. -/
def onV (B2 By Bo B5 : Nat) : Value := .func (.func 74) #[] #[.pointer (some ⟨B2, 0, none⟩), .pointer (some ⟨By, 0, none⟩), .pointer (some ⟨Bo, 0, none⟩), .pointer (some ⟨B5, 0, none⟩)]

/-- What 'on' reads. -/
structure OnS (W : World) (p B2 By Bo B5 l : Nat) (nf ns : Nat) (fa sa : Option Addr) (fc sc fset sset : Nat) (row : Nat → Nat) : Prop where
  c2 : W.cell? ⟨B2, 0, none⟩ = some (.pointer (some ⟨p, 0, none⟩))
  cy : W.cell? ⟨By, 0, none⟩ = some (.func (.yield l) #[] #[])
  co : W.cell? ⟨Bo, 0, none⟩ = some (onV B2 By Bo B5)
  c5 : ∀ i, i < 6 → W.cell? ⟨B5, i, none⟩ = some (.int .u64 (row i))
  b4 : W.cell? ⟨p, 4, none⟩ = some (.slice fa nf fc)
  b5 : W.cell? ⟨p, 5, none⟩ = some (.slice sa ns sc)
  b6 : W.cell? ⟨p, 6, none⟩ = some (.int .u64 fset)
  b7 : W.cell? ⟨p, 7, none⟩ = some (.int .u64 sset)

def OnB (p B2 By Bo B5 : Nat) : Nat → Prop := fun k => k = p ∨ k = B2 ∨ k = By ∨ k = Bo ∨ k = B5

theorem OnS.keep {A C : World} {p B2 By Bo B5 l nf ns : Nat} {fa sa : Option Addr} {fc sc fset sset : Nat} {row : Nat → Nat} (h : OnS A p B2 By Bo B5 l nf ns fa sa fc sc fset sset row)
    (k : KeepCells (OnB p B2 By Bo B5) A C) : OnS C p B2 By Bo B5 l nf ns fa sa fc sc fset sset row :=
  ⟨k ⟨B2, 0, none⟩ _ (by simp [OnB]) h.c2, k ⟨By, 0, none⟩ _ (by simp [OnB]) h.cy, k ⟨Bo, 0, none⟩ _ (by simp [OnB]) h.co, fun i hi => k ⟨B5, i, none⟩ _ (by simp [OnB]) (h.c5 i hi),
    k ⟨p, 4, none⟩ _ (by simp [OnB]) h.b4, k ⟨p, 5, none⟩ _ (by simp [OnB]) h.b5, k ⟨p, 6, none⟩ _ (by simp [OnB]) h.b6, k ⟨p, 7, none⟩ _ (by simp [OnB]) h.b7⟩

theorem keep_join {A C : World} {p B2 By Bo B5 bq : Nat} (h : KeepCells (fun k => k = p ∨ k = B2 ∨ k = B5) A C) (k : ∀ k, (k = By ∨ k = Bo ∨ k = bq) → C.heap[k]? = A.heap[k]?) : KeepCells (OnB p B2 By Bo B5) A C := fun a v ha hv => by
  by_cases hq : a.block = By ∨ a.block = Bo ∨ a.block = bq
  · rw [World.cell?_of_block (w := A) (k _ hq)]; exact hv
  · exact h a v (by unfold OnB at ha; omega) hv

/-- The row that is written: block bq begins with ls. -/
def RowAt (W : World) (bq : Nat) (ls : List Int) : Prop := ∃ cs : Array Value, W.heap[bq]? = some (.cells cs 3 (0, 0)) ∧ cs.size = 6 ∧ ∀ i (h : i < ls.length), cs[i]? = some (.int .i64 ls[i])

def Used (used : Nat) (ls : List Int) : Prop := used < 2 ^ 6 ∧ ∀ k, used.testBit k = ls.contains (k : Int)

/-- What the iterator tells of each joining. -/
def JoinEnc (B0 : Nat) (own : Nat → Prop) (x : List Int) (vals : Array Value) (W : World) : Prop :=
  ∃ q cap, vals = #[.slice (some ⟨q, 0, none⟩) x.length cap] ∧ B0 ≤ q ∧ ¬ own q ∧ q < W.heap.size ∧ IntsAt W q x

/-- All joinings that go on from ls, by masks. -/
def jsFrom (row : Nat → Nat) (fset sset ns r : Nat) (ls : List Int) : List (List Int) := joins (fun i k => (row i).testBit k) (fun i => fset.testBit i) (fun k => sset.testBit k) ns r ls

/-- How a call of 'on' ends. -/
def OnPost (W : World) (p B2 By Bo B5 bq : Nat) (J Jx : (Nat → Prop) → List (List Int) → World → Prop) (own : Nat → Prop) (pre js : List (List Int)) (ls : List Int) (e : Ending) (W' : World) : Prop :=
  KeepCells (OnB p B2 By Bo B5) W W' ∧ W.heap.size ≤ W'.heap.size ∧
  ((e = .returned (.bool true) ∧ RowAt W' bq ls ∧ J own (pre ++ js) W') ∨ (e = .returned (.bool false) ∧ ∃ q, q <+: js ∧ Jx own (pre ++ q) W'))

section
variable {p B2 By Bo B5 bq l B0 nf ns : Nat} {fa sa : Option Addr} {fc sc fset sset : Nat} {row : Nat → Nat}

/-- What is asked of the round, and of all that is around. -/
structure OnCtx (p B2 By Bo B5 bq l B0 nf ns fset sset : Nat) (row : Nat → Nat) (J Jx : (Nat → Prop) → List (List Int) → World → Prop) (L : List (List Int)) : Prop where
  hJ : Bides J
  hJx : Bides Jx
  nf6 : nf ≤ 6
  ns6 : ns ≤ 6
  f6 : fset < 2 ^ 6
  s6 : sset < 2 ^ ns
  row6 : ∀ i, row i < 2 ^ ns
  apart : ¬ OnB p B2 By Bo B5 bq
  hq : B0 ≤ bq
  yield : ∀ pre x vals W1, (∃ post, L = pre ++ x :: post) → J (fun k => k = By ∨ k = Bo ∨ k = bq) pre W1 → JoinEnc B0 (fun k => k = By ∨ k = Bo ∨ k = bq) x vals W1 → YieldAt Fence.wide 0 Try.prog l vals W1 fun e W' =>
      KeepCells (fun k => k = p ∨ k = B2 ∨ k = B5) W1 W' ∧ W1.heap.size ≤ W'.heap.size ∧ (∀ k, (k = By ∨ k = Bo ∨ k = bq) → W'.heap[k]? = W1.heap[k]?) ∧
        ((e = .returned (.bool true) ∧ J (fun k => k = By ∨ k = Bo ∨ k = bq) (pre ++ [x]) W') ∨ (e = .returned (.bool false) ∧ Jx (fun k => k = By ∨ k = Bo ∨ k = bq) (pre ++ [x]) W'))

def andN (s u : Nat) : Nat := s &&& (18446744073709551615 - u)
theorem andN_bits (s u : Nat) (hs : s < 2 ^ 64) (hu : u < 2 ^ 64) : bits .andNot .u64 (s : Int) (u : Int) = ((andN s u : Nat) : Int) := u64_andNot_nat s u (by omega) (by omega)
theorem andN_testBit (s u k : Nat) (hu : u < 2 ^ 64) (hk : k < 64) : (andN s u).testBit k = (s.testBit k && !u.testBit k) := by
  unfold andN
  rw [Nat.testBit_and, show 18446744073709551615 - u = 2 ^ 64 - (u + 1) by omega, Nat.testBit_two_pow_sub_succ (by omega)]
  simp [hk]
theorem andN_lt (s u n : Nat) (hs : s < 2 ^ n) : andN s u < 2 ^ n := Nat.lt_of_le_of_lt Nat.and_le_left hs
theorem testBit_high {s n k : Nat} (hs : s < 2 ^ n) (hk : n ≤ k) : s.testBit k = false := Nat.testBit_lt_two_pow (Nat.lt_of_lt_of_le hs (Nat.pow_le_pow_right (by omega) hk))
theorem andN_zero (s u n : Nat) (hs : s < 2 ^ n) (hn : n ≤ 6) (hu : u < 2 ^ 6) : (andN s u = 0) ↔ ∀ k, k < n → s.testBit k = true → u.testBit k = true := by
  have hu64 : u < 2 ^ 64 := Nat.lt_of_lt_of_le hu (Nat.pow_le_pow_right (by omega) (by omega))
  constructor
  · intro h k hk h1
    have := andN_testBit s u k hu64 (by omega)
    rw [h, Nat.zero_testBit, h1] at this
    simpa using this.symm
  · intro h
    apply Nat.eq_of_testBit_eq
    intro k
    rw [Nat.zero_testBit]
    by_cases hk : k < n
    · rw [andN_testBit s u k hu64 (by omega)]
      cases hb : s.testBit k
      · rfl
      · simp [h k hk hb]
    · exact testBit_high (andN_lt s u n hs) (by omega)
theorem js_zero (row : Nat → Nat) (fset sset ns used : Nat) (ls : List Int) (hs : sset < 2 ^ ns) (hn : ns ≤ 6) (hU : Used used ls) : jsFrom row fset sset ns 0 ls = if andN sset used = 0 then [ls] else [] := by
  unfold jsFrom joins
  congr 1
  rw [List.all_eq_true, andN_zero sset used ns hs hn hU.1, eq_iff_iff]
  constructor
  · intro h k hk h1
    have := h k (List.mem_range.2 hk)
    rw [h1] at this
    rw [hU.2]
    simpa using this
  · intro h k hk
    cases hb : sset.testBit k
    · rfl
    · have := h k (List.mem_range.1 hk) hb
      rw [hU.2] at this
      simpa using this

theorem on_zero {J Jx : (Nat → Prop) → List (List Int) → World → Prop} {L : List (List Int)} (C : OnCtx p B2 By Bo B5 bq l B0 nf ns fset sset row J Jx L) :
    ∀ (ls : List Int) (used : Nat) (pre : List (List Int)) (W : World), ls.length + 0 = nf → OnS W p B2 By Bo B5 l nf ns fa sa fc sc fset sset row → RowAt W bq ls → Used used ls → B0 ≤ W.heap.size →
      J (fun k => k = By ∨ k = Bo ∨ k = bq) pre W → (∃ post, L = pre ++ jsFrom row fset sset ns 0 ls ++ post) →
      Calls Try.prog 74 #[.slice (some ⟨bq, 0, none⟩) ls.length 6, .int .u64 used, .pointer (some ⟨B2, 0, none⟩), .pointer (some ⟨By, 0, none⟩), .pointer (some ⟨Bo, 0, none⟩), .pointer (some ⟨B5, 0, none⟩)] W
        (OnPost W p B2 By Bo B5 bq J Jx (fun k => k = By ∨ k = Bo ∨ k = bq) pre (jsFrom row fset sset ns 0 ls) ls) := by
  intro ls used pre W hlen hS hR hU hB0 hJ hpost
  obtain ⟨c2, cy, co, c5, b4, b5, b6, b7⟩ := hS
  refine (callsIn_wide (n := 1)).1 ?_
  refine callsIn_of_wp Try.func74 rfl trivial ?_ rfl
  simp only [Try.ntmps74, List.size_toArray, List.length_cons, List.length_nil, Nat.reduceAdd, Nat.reduceSub, Array.replicate_succ, Array.replicate_zero, List.push_toArray, List.append_toArray, List.nil_append, List.cons_append]
  obtain rfl : nf = ls.length := by omega
  have hl6 : ls.length ≤ 6 := by have := C.nf6; omega
  have k2 : ∀ W', KeepCells (OnB p B2 By Bo B5) W W' → W'.cell? ⟨B2, 0, none⟩ = some (.pointer (some ⟨p, 0, none⟩)) := fun W' h => h ⟨B2, 0, none⟩ _ (by simp [OnB]) c2
  have ky : ∀ W', KeepCells (OnB p B2 By Bo B5) W W' → W'.cell? ⟨By, 0, none⟩ = some (.func (.yield l) #[] #[]) := fun W' h => h ⟨By, 0, none⟩ _ (by simp [OnB]) cy
  have k7 : ∀ W', KeepCells (OnB p B2 By Bo B5) W W' → W'.cell? ⟨p, 7, none⟩ = some (.int .u64 sset) := fun W' h => h ⟨p, 7, none⟩ _ (by simp [OnB]) b7
  have hjs := js_zero row fset sset ns used ls C.s6 C.ns6 hU
  have hAN := andN_bits sset used (Nat.lt_of_lt_of_le C.s6 (Nat.pow_le_pow_right (by omega) (Nat.le_trans C.ns6 (by omega)))) (Nat.lt_of_lt_of_le hU.1 (Nat.pow_le_pow_right (by omega) (by omega)))
  obtain ⟨rr, hrr⟩ : ∃ rr, jsFrom row fset sset ns 0 ls = rr := ⟨_, rfl⟩
  rw [hrr] at hpost hjs ⊢
  clear hrr
  have HJS := Lib.hid hjs
  have HLEN := Lib.hid hlen
  clear hjs hlen
  by_cases hz : andN sset used = 0
  · rw [hz] at hAN
    gi_wp2
    refine wpIn_region_W (S := fun W' => KeepCells (OnB p B2 By Bo B5) W W') 14 (by kernel_rfl) (by kernel_rfl) (KeepCells.refl _ _) (fun hHeld => ?_)
    refine wpAnyW_takeD 0 22 (v := ?_) (by kernel_rfl) (by kernel_rfl) (by kernel_rfl) (by kernel_rfl) (fun _ _ _ h => h) ?_ (by assumption) ?_
    rotate_left
    · intro oi hoi w hSw; (try dsimp only at hSw); simp only [List.getElem?_toArray, List.getElem?_cons_zero, List.getElem?_cons_succ, Option.some.injEq] at hoi; subst hoi; go_simp; try with_reducible rfl
    simp only [Act.put, List.setIfInBounds_toArray, List.set_cons_zero, List.set_cons_succ]
    refine wpAnyW_takeD 1 23 (v := ?_) (by kernel_rfl) (by kernel_rfl) (by kernel_rfl) (by kernel_rfl) (fun _ _ _ h => h) ?_ (by assumption) ?_
    rotate_left
    · intro oi hoi w hSw; (try dsimp only at hSw); simp only [List.getElem?_toArray, List.getElem?_cons_zero, List.getElem?_cons_succ, Option.some.injEq] at hoi; subst hoi; go_simp; try with_reducible rfl
    simp only [Act.put, List.setIfInBounds_toArray, List.set_cons_zero, List.set_cons_succ]
    refine wpAnyW_takeD 2 24 (v := ?_) (by kernel_rfl) (by kernel_rfl) (by kernel_rfl) (by kernel_rfl) (fun _ _ _ h => h) ?_ (by assumption) ?_
    rotate_left
    · intro oi hoi w hSw; (try dsimp only at hSw); simp only [List.getElem?_toArray, List.getElem?_cons_zero, List.getElem?_cons_succ, Option.some.injEq] at hoi; subst hoi; go_simp; try with_reducible rfl
    simp only [Act.put, List.setIfInBounds_toArray, List.set_cons_zero, List.set_cons_succ]
    refine wpAnyW_takeD 3 25 (v := ?_) (by kernel_rfl) (by kernel_rfl) (by kernel_rfl) (by kernel_rfl) (fun _ _ _ h => h) ?_ (by assumption) ?_
    rotate_left
    · intro oi hoi w hSw; (try dsimp only at hSw); simp only [List.getElem?_toArray, List.getElem?_cons_zero, List.getElem?_cons_succ, Option.some.injEq] at hoi; subst hoi; go_simp; try with_reducible rfl
    simp only [Act.put, List.setIfInBounds_toArray, List.set_cons_zero, List.set_cons_succ]
    refine wpAnyW_takeD 4 26 (v := ?_) (by kernel_rfl) (by kernel_rfl) (by kernel_rfl) (by kernel_rfl) (fun _ _ _ h => h) ?_ (by assumption) ?_
    rotate_left
    · intro oi hoi w hSw; (try dsimp only at hSw); simp only [List.getElem?_toArray, List.getElem?_cons_zero, List.getElem?_cons_succ, Option.some.injEq] at hoi; subst hoi; go_simp; try with_reducible rfl
    simp only [Act.put, List.setIfInBounds_toArray, List.set_cons_zero, List.set_cons_succ]
    refine wpAnyW_takeD 5 27 (v := ?_) (by kernel_rfl) (by kernel_rfl) (by kernel_rfl) (by kernel_rfl) (fun _ _ _ h => h) ?_ (by assumption) ?_
    rotate_left
    · intro oi hoi w hSw; (try dsimp only at hSw); simp only [List.getElem?_toArray, List.getElem?_cons_zero, List.getElem?_cons_succ, Option.some.injEq] at hoi; subst hoi; go_simp; try with_reducible rfl
    simp only [Act.put, List.setIfInBounds_toArray, List.set_cons_zero, List.set_cons_succ]
    refine wpAnyW_takeD 6 28 (v := ?_) (by kernel_rfl) (by kernel_rfl) (by kernel_rfl) (by kernel_rfl) (fun _ _ _ h => h) ?_ (by assumption) ?_
    rotate_left
    · intro oi hoi w hSw; (try dsimp only at hSw); simp only [List.getElem?_toArray, List.getElem?_cons_zero, List.getElem?_cons_succ, Option.some.injEq] at hoi; subst hoi; go_simp; try with_reducible rfl
    simp only [Act.put, List.setIfInBounds_toArray, List.set_cons_zero, List.set_cons_succ]
    refine wpAnyW_takeD 7 29 (v := ?_) (by kernel_rfl) (by kernel_rfl) (by kernel_rfl) (by kernel_rfl) (fun _ _ _ h => h) ?_ (by assumption) ?_
    rotate_left
    · intro oi hoi w hSw; (try dsimp only at hSw); simp only [List.getElem?_toArray, List.getElem?_cons_zero, List.getElem?_cons_succ, Option.some.injEq] at hoi; subst hoi; go_simp; try with_reducible rfl
    simp only [Act.put, List.setIfInBounds_toArray, List.set_cons_zero, List.set_cons_succ]
    refine wpAnyW_takeD 8 30 (v := ?_) (by kernel_rfl) (by kernel_rfl) (by kernel_rfl) (by kernel_rfl) (fun _ _ _ h => h) ?_ (by assumption) ?_
    rotate_left
    · intro oi hoi w hSw; (try dsimp only at hSw); simp only [List.getElem?_toArray, List.getElem?_cons_zero, List.getElem?_cons_succ, Option.some.injEq] at hoi; subst hoi; go_simp; try with_reducible rfl
    simp only [Act.put, List.setIfInBounds_toArray, List.set_cons_zero, List.set_cons_succ]
    refine wpAnyW_takeD 9 31 (v := ?_) (by kernel_rfl) (by kernel_rfl) (by kernel_rfl) (by kernel_rfl) (fun _ _ _ h => h) ?_ (by assumption) ?_
    rotate_left
    · intro oi hoi w hSw; (try dsimp only at hSw); simp only [List.getElem?_toArray, List.getElem?_cons_zero, List.getElem?_cons_succ, Option.some.injEq] at hoi; subst hoi; go_simp; try with_reducible rfl
    simp only [Act.put, List.setIfInBounds_toArray, List.set_cons_zero, List.set_cons_succ]
    have hI : IntsAt W.drew bq ls := by obtain ⟨cs, h1, _, h2⟩ := hR; exact ⟨cs, _, h1, h2⟩
    refine wpAnyW_one 10 (by kernel_rfl) (by kernel_rfl) ?_
    intro o ho K hK
    simp only [List.getElem?_toArray, List.getElem?_cons_zero, List.getElem?_cons_succ, Option.some.injEq] at ho
    subst ho
    go_simp
    refine ⟨trivial, CallsIn.mono (callsIn_wide.2 (clone_any bq 6 ls _ hI hl6)) ?_⟩
    rintro e W1 ⟨q, cap', rfl, hq, hIq, hbl⟩
    have hst1 : Steps (fun _ => False) W W1 := ⟨hbl.os, hbl.tape, hbl.output, hbl.size, fun k hk _ => hbl.block k hk⟩
    have hk1 : KeepCells (OnB p B2 By Bo B5) W W1 := KeepCells.of_steps hst1 (fun _ _ h => h)
    refine hK _ _ hk1 (fun hHeld1 => ?_)
    clear hK K
    try simp only [Act.put, List.setIfInBounds_toArray, List.set_cons_zero, List.set_cons_succ]
    have hJ1 := C.hJ _ (fun k => k = By ∨ k = Bo ∨ k = bq) _ _ _ hJ (hst1.mono (fun _ _ h => h.elim)) (fun k h => .inl h)
    have hqW : W.heap.size ≤ q := hq
    have hnq : ¬ (q = By ∨ q = Bo ∨ q = bq) := by
      have h1 := World.block_lt_of_cell? W _ cy
      have h2 := World.block_lt_of_cell? W _ co
      have h3 : bq < W.heap.size := by obtain ⟨cs, h3, _⟩ := hR; exact (Array.getElem?_eq_some_iff.1 h3).1
      dsimp only at h1 h2
      omega
    obtain ⟨fn, tmps, assign, body, hy, hRd⟩ := C.yield pre ls _ W1 (by
      obtain ⟨post, hp⟩ := hpost
      rw [HJS.out, if_pos hz] at hp
      exact ⟨post, by rw [hp]; simp⟩) hJ1 ⟨q, cap', rfl, by omega, hnq, hIq.lt, hIq⟩
    refine wpAnyW_one 11 (by kernel_rfl) (by kernel_rfl) ?_
    intro o ho K hK
    simp only [List.getElem?_toArray, List.getElem?_cons_zero, List.getElem?_cons_succ, Option.some.injEq] at ho
    subst ho
    go_simp
    refine hRd.mono ?_
    rintro e W2 ⟨hk2, hs2, ho2, h2⟩
    have hk12 : KeepCells (OnB p B2 By Bo B5) W1 W2 := keep_join hk2 ho2
    have hR2 : RowAt W2 bq ls := by
      obtain ⟨cs, h3, h4⟩ := hR
      exact ⟨cs, (ho2 bq (.inr (.inr rfl))).trans ((hbl.block bq (Array.getElem?_eq_some_iff.1 h3).1).trans h3), h4⟩
    rcases h2 with ⟨rfl, hJ2⟩ | ⟨rfl, hJx2⟩
    all_goals
      refine hK _ _ (hk1.trans hk12) (fun hHeld2 => ?_)
      clear hK K
      try simp only [Act.put, List.setIfInBounds_toArray, List.set_cons_zero, List.set_cons_succ]
      refine wpAnyW_takeD 12 34 (v := ?_) (by kernel_rfl) (by kernel_rfl) (by kernel_rfl) (by kernel_rfl) (fun _ _ _ h => h) ?_ (by assumption) ?_
      rotate_left
      · intro oi hoi w hSw; (try dsimp only at hSw); simp only [List.getElem?_toArray, List.getElem?_cons_zero, List.getElem?_cons_succ, Option.some.injEq] at hoi; subst hoi; go_simp; try with_reducible rfl
      simp only [Act.put, List.setIfInBounds_toArray, List.set_cons_zero, List.set_cons_succ]
      refine wpAnyW_takeD 13 8 (v := ?_) (by kernel_rfl) (by kernel_rfl) (by kernel_rfl) (by kernel_rfl) (fun _ _ _ h => h) ?_ (by assumption) ?_
      rotate_left
      · intro oi hoi w hSw; (try dsimp only at hSw); simp only [List.getElem?_toArray, List.getElem?_cons_zero, List.getElem?_cons_succ, Option.some.injEq] at hoi; subst hoi; go_simp; try with_reducible rfl
      simp only [Act.put, List.setIfInBounds_toArray, List.set_cons_zero, List.set_cons_succ]
      refine wpAnyW_done (by kernel_rfl) ?_ _
      gi_wp2
      go_ret
      rw [HJS.out, if_pos hz]
    · exact ⟨hk1.trans hk12, Nat.le_trans hbl.size hs2, .inl ⟨rfl, hR2, hJ2⟩⟩
    · exact ⟨hk1.trans hk12, Nat.le_trans hbl.size hs2, .inr ⟨rfl, _, List.prefix_refl _, hJx2⟩⟩
  · obtain ⟨v, hv⟩ : ∃ v : Int, bits .andNot .u64 (sset : Int) (used : Int) = v := ⟨_, rfl⟩
    have hv0 : ¬ v = 0 := by rw [← hv, hAN]; omega
    have hv1 : (v != 0) = true := bne_iff_ne.2 hv0
    clear hAN
    gi_wp2
    refine wpIn_region_W (S := fun W' => KeepCells (OnB p B2 By Bo B5) W W') 14 (by kernel_rfl) (by kernel_rfl) (KeepCells.refl _ _) (fun hHeld => ?_)
    refine wpAnyW_takeD 0 22 (v := ?_) (by kernel_rfl) (by kernel_rfl) (by kernel_rfl) (by kernel_rfl) (fun _ _ _ h => h) ?_ (by assumption) ?_
    rotate_left
    · intro oi hoi w hSw; (try dsimp only at hSw); simp only [List.getElem?_toArray, List.getElem?_cons_zero, List.getElem?_cons_succ, Option.some.injEq] at hoi; subst hoi; go_simp; try with_reducible rfl
    simp only [Act.put, List.setIfInBounds_toArray, List.set_cons_zero, List.set_cons_succ]
    refine wpAnyW_takeD 1 23 (v := ?_) (by kernel_rfl) (by kernel_rfl) (by kernel_rfl) (by kernel_rfl) (fun _ _ _ h => h) ?_ (by assumption) ?_
    rotate_left
    · intro oi hoi w hSw; (try dsimp only at hSw); simp only [List.getElem?_toArray, List.getElem?_cons_zero, List.getElem?_cons_succ, Option.some.injEq] at hoi; subst hoi; go_simp; try with_reducible rfl
    simp only [Act.put, List.setIfInBounds_toArray, List.set_cons_zero, List.set_cons_succ]
    refine wpAnyW_takeD 2 24 (v := ?_) (by kernel_rfl) (by kernel_rfl) (by kernel_rfl) (by kernel_rfl) (fun _ _ _ h => h) ?_ (by assumption) ?_
    rotate_left
    · intro oi hoi w hSw; (try dsimp only at hSw); simp only [List.getElem?_toArray, List.getElem?_cons_zero, List.getElem?_cons_succ, Option.some.injEq] at hoi; subst hoi; go_simp; try with_reducible rfl
    simp only [Act.put, List.setIfInBounds_toArray, List.set_cons_zero, List.set_cons_succ]
    refine wpAnyW_takeD 3 25 (v := ?_) (by kernel_rfl) (by kernel_rfl) (by kernel_rfl) (by kernel_rfl) (fun _ _ _ h => h) ?_ (by assumption) ?_
    rotate_left
    · intro oi hoi w hSw; (try dsimp only at hSw); simp only [List.getElem?_toArray, List.getElem?_cons_zero, List.getElem?_cons_succ, Option.some.injEq] at hoi; subst hoi; go_simp; try with_reducible rfl
    simp only [Act.put, List.setIfInBounds_toArray, List.set_cons_zero, List.set_cons_succ]
    refine wpAnyW_takeD 4 26 (v := ?_) (by kernel_rfl) (by kernel_rfl) (by kernel_rfl) (by kernel_rfl) (fun _ _ _ h => h) ?_ (by assumption) ?_
    rotate_left
    · intro oi hoi w hSw; (try dsimp only at hSw); simp only [List.getElem?_toArray, List.getElem?_cons_zero, List.getElem?_cons_succ, Option.some.injEq] at hoi; subst hoi; go_simp; try with_reducible rfl
    simp only [Act.put, List.setIfInBounds_toArray, List.set_cons_zero, List.set_cons_succ]
    refine wpAnyW_takeD 5 27 (v := ?_) (by kernel_rfl) (by kernel_rfl) (by kernel_rfl) (by kernel_rfl) (fun _ _ _ h => h) ?_ (by assumption) ?_
    rotate_left
    · intro oi hoi w hSw; (try dsimp only at hSw); simp only [List.getElem?_toArray, List.getElem?_cons_zero, List.getElem?_cons_succ, Option.some.injEq] at hoi; subst hoi; go_simp; try with_reducible rfl
    simp only [Act.put, List.setIfInBounds_toArray, List.set_cons_zero, List.set_cons_succ]
    refine wpAnyW_takeD 6 28 (v := ?_) (by kernel_rfl) (by kernel_rfl) (by kernel_rfl) (by kernel_rfl) (fun _ _ _ h => h) ?_ (by assumption) ?_
    rotate_left
    · intro oi hoi w hSw; (try dsimp only at hSw); simp only [List.getElem?_toArray, List.getElem?_cons_zero, List.getElem?_cons_succ, Option.some.injEq] at hoi; subst hoi; go_simp; try with_reducible rfl
    simp only [Act.put, List.setIfInBounds_toArray, List.set_cons_zero, List.set_cons_succ]
    refine wpAnyW_takeD 7 29 (v := ?_) (by kernel_rfl) (by kernel_rfl) (by kernel_rfl) (by kernel_rfl) (fun _ _ _ h => h) ?_ (by assumption) ?_
    rotate_left
    · intro oi hoi w hSw; (try dsimp only at hSw); simp only [List.getElem?_toArray, List.getElem?_cons_zero, List.getElem?_cons_succ, Option.some.injEq] at hoi; subst hoi; go_simp; try with_reducible rfl
    simp only [Act.put, List.setIfInBounds_toArray, List.set_cons_zero, List.set_cons_succ]
    refine wpAnyW_skipD 8 30 (by kernel_rfl) (by kernel_rfl) (by kernel_rfl) (by kernel_rfl) (fun _ _ _ h => h) (by assumption) ?_
    simp only [Act.put, List.setIfInBounds_toArray, List.set_cons_zero, List.set_cons_succ]
    refine wpAnyW_skipD 9 31 (by kernel_rfl) (by kernel_rfl) (by kernel_rfl) (by kernel_rfl) (fun _ _ _ h => h) (by assumption) ?_
    simp only [Act.put, List.setIfInBounds_toArray, List.set_cons_zero, List.set_cons_succ]
    refine wpAnyW_skipD 10 32 (by kernel_rfl) (by kernel_rfl) (by kernel_rfl) (by kernel_rfl) (fun _ _ _ h => h) (by assumption) ?_
    simp only [Act.put, List.setIfInBounds_toArray, List.set_cons_zero, List.set_cons_succ]
    refine wpAnyW_skipD 11 33 (by kernel_rfl) (by kernel_rfl) (by kernel_rfl) (by kernel_rfl) (fun _ _ _ h => h) (by assumption) ?_
    simp only [Act.put, List.setIfInBounds_toArray, List.set_cons_zero, List.set_cons_succ]
    refine wpAnyW_takeD 12 34 (v := ?_) (by kernel_rfl) (by kernel_rfl) (by kernel_rfl) (by kernel_rfl) (fun _ _ _ h => h) ?_ (by assumption) ?_
    rotate_left
    · intro oi hoi w hSw; (try dsimp only at hSw); simp only [List.getElem?_toArray, List.getElem?_cons_zero, List.getElem?_cons_succ, Option.some.injEq] at hoi; subst hoi; go_simp; try with_reducible rfl
    simp only [Act.put, List.setIfInBounds_toArray, List.set_cons_zero, List.set_cons_succ]
    refine wpAnyW_takeD 13 8 (v := ?_) (by kernel_rfl) (by kernel_rfl) (by kernel_rfl) (by kernel_rfl) (fun _ _ _ h => h) ?_ (by assumption) ?_
    rotate_left
    · intro oi hoi w hSw; (try dsimp only at hSw); simp only [List.getElem?_toArray, List.getElem?_cons_zero, List.getElem?_cons_succ, Option.some.injEq] at hoi; subst hoi; go_simp; try with_reducible rfl
    simp only [Act.put, List.setIfInBounds_toArray, List.set_cons_zero, List.set_cons_succ]
    refine wpAnyW_done (by kernel_rfl) ?_ _
    gi_wp2
    go_ret
    rw [HJS.out, if_neg hz]
    exact ⟨KeepCells.refl _ _, Nat.le_refl _, .inl ⟨rfl, hR, by simpa using C.hJ _ _ _ _ W.drew hJ (Steps.refl _ W).drew (fun k h => .inl h)⟩⟩
end
end Go.Proofs.Ytjkegmjjhdmkiaa
