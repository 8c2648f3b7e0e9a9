/- The document's answer: which stars a star surely is, and can be; which stars have no counterpart. The truth of layer 6, drawn: numbers by remainders, one after the other. The document's answer: which shifts there can be, walked. -/
import Derived.Test.YtjkegmjjhdmkiaaBU27
import Derived.IntWalk
import Derived.BigRegion
namespace Go.Proofs.Ytjkegmjjhdmkiaa
open Go.RowKit Go.Shelf
set_option maxHeartbeats 12800000
set_option maxRecDepth 100000
set_option linter.unusedSimpArgs false

/-- What is opened: the error, or all joinings. -/
theorem rOpen_cases (b : Bo) (valid : Bool) : (∃ x : Int, rOpen b valid = ([], x) ∧ x ≠ 0 ∧ (b.ok = false → x = 1) ∧ (b.ok = true → valid = false → x = 2) ∧ (b.ok = true → valid = true → x = 4 ∧ allOf b (sures b.fs) (sures b.ss) = [])) ∨
    (b.ok = true ∧ valid = true ∧ rOpen b valid = (allOf b (sures b.fs) (sures b.ss), 0) ∧ allOf b (sures b.fs) (sures b.ss) ≠ []) := by
  unfold rOpen
  cases hok : b.ok
  · exact .inl ⟨1, by simp, by decide, by simp, by simp, by simp⟩
  · cases valid
    · exact .inl ⟨2, by simp, by decide, by simp, by simp, by simp⟩
    · by_cases h : allOf b (sures b.fs) (sures b.ss) = []
      · exact .inl ⟨4, by simp [h], by decide, by simp, by simp, by simp [h]⟩
      · exact .inr ⟨rfl, rfl, by simp [h], h⟩

theorem allOf_len {b : Bo} (hok : b.ok = true) (f s : Nat) : (allOf b f s).length ≤ 202591578 := by
  have h := (ok_iff b).1 hok
  have hE : eastN b ≤ 41 := by unfold eastN; omega
  have hN : northN b ≤ 41 := by unfold northN; omega
  have := joinedTo_len hok f s (eastN b) 0 hE (by omega) hN
  have e : shiftRow b (eastN b) 0 = [] := rfl
  rw [e, List.append_nil] at this
  exact this

theorem maskOf_put (p : Nat → Bool) (n : Nat) : maskOf p n + (if p n then 2 ^ n else 0) = maskOf p (n + 1) := by
  show _ = maskOf p n ||| (if p n then 2 ^ n else 0)
  split
  · have h := Nat.two_pow_add_eq_or_of_lt (maskOf_lt p n) 1
    rw [Nat.mul_one] at h
    rw [Nat.or_comm, ← h, Nat.add_comm]
  · simp

/-- How many of the first m joinings have a property. -/
def cntTo (p : Joined → Bool) (L : List Joined) (m : Nat) : Nat := ((L.take m).filter p).length
theorem cntTo_zero (p : Joined → Bool) (L : List Joined) : cntTo p L 0 = 0 := by simp [cntTo]
theorem cntTo_succ (p : Joined → Bool) (L : List Joined) (m : Nat) (h : m < L.length) : cntTo p L (m + 1) = cntTo p L m + if p L[m] then 1 else 0 := by
  unfold cntTo
  rw [List.take_succ_eq_append_getElem h, List.filter_append, List.length_append]
  cases hp : p L[m] <;> simp [hp]
theorem cntTo_le (p : Joined → Bool) (L : List Joined) (m : Nat) : cntTo p L m ≤ m := Nat.le_trans (List.length_filter_le _ _) (by simp; omega)
theorem cntTo_all (p : Joined → Bool) (L : List Joined) : cntTo p L L.length = L.length ↔ ∀ z ∈ L, p z = true := by
  unfold cntTo
  rw [List.take_length, List.length_filter_eq_length_iff]
theorem cntTo_none (p : Joined → Bool) (L : List Joined) : cntTo p L L.length = 0 ↔ ∀ z ∈ L, p z = false := by
  unfold cntTo
  rw [List.take_length, List.length_eq_zero_iff, List.filter_eq_nil_iff]
  refine forall_congr' fun z => imp_congr_right fun _ => by simp

def isAt (f : Nat) (k : Nat) (z : Joined) : Bool := z.2.getD f (-1) == (k : Int)
def inPair (f : Nat) (z : Joined) : Bool := z.2.getD f (-1) != -1
def hasIt (k : Nat) (z : Joined) : Bool := z.2.contains (k : Int)
def everyP (L : List Joined) (f k : Nat) : Bool := decide (cntTo (isAt f k) L L.length = L.length)
def someP (L : List Joined) (f k : Nat) : Bool := decide (0 < cntTo (isAt f k) L L.length)
def noneF (L : List Joined) (f : Nat) : Bool := decide (cntTo (inPair f) L L.length = 0)
def noneS (L : List Joined) (k : Nat) : Bool := decide (cntTo (hasIt k) L L.length = 0)

theorem maskOf_eq {p : Nat → Bool} {n x : Nat} (hx : x < 2 ^ n) (h : ∀ k, k < n → x.testBit k = p k) : maskOf p n = x := by
  refine Nat.eq_of_testBit_eq (fun k => ?_)
  rw [maskOf_testBit]
  by_cases hk : k < n
  · simp [hk, h k hk]
  · rw [Nat.testBit_lt_two_pow (Nat.lt_of_lt_of_le hx (Nat.pow_le_pow_right (by omega) (by omega)))]
    simp [hk]
theorem every_eq {b : Bo} {L : List Joined} (J : JList b L) {f : Nat} (hf : f < b.fs.length) : maskOf (everyP L f) b.ss.length = (prsAt L f).every :=
  maskOf_eq (prsAt_lt J hf).1 fun k _ => by
    unfold everyP
    rw [Bool.eq_iff_iff, prsAt_every J hf, decide_eq_true_eq, cntTo_all]
    exact forall_congr' fun z => imp_congr_right fun _ => by simp [isAt]
theorem some_eq {b : Bo} {L : List Joined} (J : JList b L) {f : Nat} (hf : f < b.fs.length) : maskOf (someP L f) b.ss.length = (prsAt L f).some :=
  maskOf_eq (prsAt_lt J hf).2 fun k _ => by
    unfold someP
    rw [Bool.eq_iff_iff, prsAt_some J hf, decide_eq_true_eq, Nat.pos_iff_ne_zero, Ne, cntTo_none]
    constructor
    · rintro ⟨z, hz, h⟩ hall
      have := hall z hz
      simp [isAt] at this
      exact this h
    · intro h
      apply Classical.byContradiction
      intro hn
      apply h
      intro z hz
      cases hi : isAt f k z
      · rfl
      · exact absurd ⟨z, hz, by simpa [isAt] using hi⟩ hn
theorem noneF_eq {b : Bo} {L : List Joined} (J : JList b L) : maskOf (noneF L) b.fs.length = andN (2 ^ b.fs.length - 1) (allFirst (L.map (·.2))) := by
  have hp : 2 ^ b.fs.length ≤ 2 ^ 6 := Nat.pow_le_pow_right (by omega) J.l6.1
  have hp1 := Nat.two_pow_pos b.fs.length
  have hlt : allFirst (L.map (·.2)) < 2 ^ b.fs.length := allFirst_lt _ (fun x hx => by
    obtain ⟨z, hz, rfl⟩ := List.mem_map.1 hx
    exact Nat.le_of_eq (J.len z hz))
  refine maskOf_eq ?_ fun k hk => ?_
  · exact Nat.lt_of_le_of_lt Nat.and_le_left (by omega)
  · unfold noneF
    rw [andN_testBit _ _ k (by omega) (by have := J.l6.1; omega), Bool.eq_iff_iff, decide_eq_true_eq, cntTo_none, Nat.testBit_two_pow_sub_one]
    cases ha : (allFirst (L.map (·.2))).testBit k
    · simp only [hk, decide_true, Bool.not_false, Bool.and_self, true_iff]
      intro z hz
      have h0 : (prsAt L k).some = 0 := Classical.byContradiction fun h => by
        have := (allFirst_at J k hk).2 h
        rw [ha] at this; cases this
      have := (prsAt_zero J hk).1 h0 z hz
      unfold inPair
      rw [this]
      rfl
    · simp only [Bool.not_true, Bool.and_false, Bool.false_eq_true, false_iff]
      intro hall
      refine (allFirst_at J k hk).1 ha ((prsAt_zero J hk).2 fun z hz => ?_)
      have := hall z hz
      simpa [inPair] using this
theorem noneS_eq {b : Bo} {L : List Joined} (J : JList b L) : maskOf (noneS L) b.ss.length = andN (2 ^ b.ss.length - 1) (allSecond (L.map (·.2))) := by
  have hp : 2 ^ b.ss.length ≤ 2 ^ 6 := Nat.pow_le_pow_right (by omega) J.l6.2
  have hp1 := Nat.two_pow_pos b.ss.length
  have hlt : allSecond (L.map (·.2)) < 2 ^ b.ss.length := allSecond_lt _ (fun x hx => by
    obtain ⟨z, hz, rfl⟩ := List.mem_map.1 hx
    exact jent J hz)
  refine maskOf_eq ?_ fun k hk => ?_
  · exact Nat.lt_of_le_of_lt Nat.and_le_left (by omega)
  · unfold noneS
    have hb : (allSecond (L.map (·.2))).testBit k = true ↔ ∃ z ∈ L, (k : Int) ∈ z.2 := by
      rw [allSecond_bit, List.any_map, List.any_eq_true]
      refine exists_congr fun z => and_congr_right fun hz => ?_
      simp only [Function.comp]
      exact jSecond_bit z.2 (fun y hy => (jent J hz y hy).imp id (fun h => h.1)) k
    rw [andN_testBit _ _ k (by omega) (by have := J.l6.2; omega), Bool.eq_iff_iff, decide_eq_true_eq, cntTo_none, Nat.testBit_two_pow_sub_one]
    cases ha : (allSecond (L.map (·.2))).testBit k
    · simp only [hk, decide_true, Bool.not_false, Bool.and_self, true_iff]
      intro z hz
      cases h : hasIt k z
      · rfl
      · have := hb.2 ⟨z, hz, by simpa [hasIt] using h⟩
        rw [ha] at this; cases this
    · simp only [Bool.not_true, Bool.and_false, Bool.false_eq_true, false_iff]
      intro hall
      obtain ⟨z, hz, h⟩ := hb.1 ha
      have := hall z hz
      simp [hasIt, h] at this

end Go.Proofs.Ytjkegmjjhdmkiaa
namespace Go.Proofs.Ytjkegmjjhdmkiaa
open Go.RowKit Go.Shelf
set_option maxHeartbeats 12800000
set_option maxRecDepth 100000
set_option linter.unusedSimpArgs false
set_option linter.unusedVariables false

/-- A slice at a reads as these numbers, in a block before B. -/
def U16B (w : World) (B : Nat) (a : Option Addr) (xs : List Nat) : Prop := ∀ k (h : k < xs.length), ∃ q o, a = some ⟨q, o, none⟩ ∧ q < B ∧ w.cell? ⟨q, o + k, none⟩ = some (.int .u16 xs[k])

/-- What the drawing holds: how many were drawn, k at most, and the numbers. -/
structure DrawSt (w : World) (pc pb : Nat) (a : Option Addr) (c : Nat) (xs : List Nat) (k : Nat) : Prop where
  cnt : ∃ m : Nat, m ≤ k ∧ w.heap[pc]? = some (.cells #[.int .i64 m] 3)
  by' : w.heap[pb]? = some (.cells #[.slice a xs.length c] 45)
  nums : U16B w pc a xs
  lt : pb < pc
theorem DrawSt.size {w : World} {pc pb : Nat} {a : Option Addr} {c : Nat} {xs : List Nat} {k : Nat} (h : DrawSt w pc pb a c xs k) : pc < w.heap.size := by
  obtain ⟨m, _, h1⟩ := h.cnt
  exact (Array.getElem?_eq_some_iff.1 h1).1
theorem DrawSt.other {w w' : World} {pc pb : Nat} {a : Option Addr} {c : Nat} {xs : List Nat} {k : Nat} (h : DrawSt w pc pb a c xs k) (hb : ∀ i, i ≤ pc → w'.heap[i]? = w.heap[i]?) : DrawSt w' pc pb a c xs k := by
  obtain ⟨⟨m, hm, h1⟩, h2, h3, h4⟩ := h
  refine ⟨⟨m, hm, (hb pc (Nat.le_refl _)).trans h1⟩, (hb pb (Nat.le_of_lt h4)).trans h2, fun i hi => ?_, h4⟩
  obtain ⟨q, o, h5, h6, h7⟩ := h3 i hi
  exact ⟨q, o, h5, h6, (World.cell?_of_block (hb q (Nat.le_of_lt h6))).trans h7⟩
theorem DrawSt.below {w w' : World} {pc pb : Nat} {a : Option Addr} {c : Nat} {xs : List Nat} {k : Nat} (h : DrawSt w pc pb a c xs k) (hb : Below w.heap.size w w') : DrawSt w' pc pb a c xs k :=
  h.other (fun i hi => hb.block i (Nat.lt_of_le_of_lt hi h.size))
theorem DrawSt.more {w : World} {pc pb : Nat} {a : Option Addr} {c : Nat} {xs : List Nat} {k k' : Nat} (h : DrawSt w pc pb a c xs k) (hk : k ≤ k') : DrawSt w pc pb a c xs k' := by
  obtain ⟨⟨m, hm, h1⟩, h2, h3, h4⟩ := h
  exact ⟨⟨m, Nat.le_trans hm hk, h1⟩, h2, h3, h4⟩

/-- What is known of the numbers. -/
structure NumsOk (xs : List Nat) : Prop where
  pos : 0 < xs.length
  len : xs.length ≤ 9223372036854775807
  lt : ∀ x ∈ xs, x < 65536

def DrawPost (n : Int) (pc pb : Nat) (a : Option Addr) (c : Nat) (xs : List Nat) (k : Nat) (w : World) (e : Ending) (w' : World) : Prop :=
  ∃ r : Nat, (r : Int) < n ∧ e = .returned (.int .i64 r) ∧ DrawSt w' pc pb a c xs (k + 1) ∧ w.grownBy w' (some pc)

theorem draw_any (n : Int) (pc pb : Nat) (a : Option Addr) (c : Nat) (xs : List Nat) (k : Nat) (hx : NumsOk xs) (hn : 1 ≤ n ∧ n ≤ 100) (hk : k ≤ 1000) (w : World) (h : DrawSt w pc pb a c xs k) :
    Calls Try.prog 62 #[.int .i64 n, .pointer (some ⟨pc, 0, none⟩), .pointer (some ⟨pb, 0, none⟩)] w (DrawPost n pc pb a c xs k w) := by
  obtain ⟨⟨m, hm, g1⟩, g2, g3, g4⟩ := h
  obtain ⟨hn1, hn2⟩ := hn
  obtain ⟨x1, x2, x3⟩ := hx
  have hmi : (m : Int) ≤ 1000 := by omega
  have c1 := cell_block g1 0
  have f1 := frozen_block g1 0
  simp only [List.getElem?_toArray, List.getElem?_cons_zero, List.getElem?_cons_succ] at c1
  obtain ⟨W1, hW1⟩ : ∃ W1, w.setCell ⟨pc, 0, none⟩ (.int .i64 ((m + 1 : Nat) : Int)) = W1 := ⟨_, rfl⟩
  have hlt : (m + 1) % xs.length < xs.length := Nat.mod_lt _ x1
  obtain ⟨q, o, rfl, hq, hc⟩ := g3 _ hlt
  have hxm := x3 _ (List.getElem_mem hlt)
  have e1 : W1.heap[pc]? = some (.cells #[.int .i64 ((m + 1 : Nat) : Int)] 3) := by
    rw [← hW1]; exact heap_setCell_same _ _ 0 _ _ _ g1
  have ho : ∀ i, i ≠ pc → W1.heap[i]? = w.heap[i]? := fun i hi => by rw [← hW1]; exact Below.heap_setCell _ _ _ _ (by exact hi)
  have hgr : w.grownBy W1 (some pc) := by
    rw [← hW1]
    exact ⟨rfl, rfl, rfl, by simp, fun i _ hne => Below.heap_setCell _ _ _ _ (fun e => hne (by rw [e]))⟩
  have HG := Lib.hid hgr
  have hst : DrawSt W1 pc pb (some ⟨q, o, none⟩) c xs (k + 1) := by
    refine ⟨⟨m + 1, by omega, e1⟩, (ho pb (by omega)).trans g2, fun i hi => ?_, g4⟩
    obtain ⟨q', o', h5, h6, h7⟩ := g3 i hi
    exact ⟨q', o', h5, h6, (World.cell?_of_block (ho q' (by omega))).trans h7⟩
  have HST := Lib.hid hst
  have S1 : ∀ W', Below W1.heap.size W1 W' → W'.cell? ⟨pc, 0, none⟩ = some (.int .i64 ((m + 1 : Nat) : Int)) := fun W' h => cell_later h (cell_block e1 0)
  have S2 : ∀ W', Below W1.heap.size W1 W' → W'.cell? ⟨pb, 0, none⟩ = some (.slice (some ⟨q, o, none⟩) xs.length c) := fun W' h => cell_later h (cell_block ((ho pb (by omega)).trans g2) 0)
  have hcW : W1.cell? ⟨q, o + (m + 1) % xs.length, none⟩ = some (.int .u16 xs[(m + 1) % xs.length]) := (World.cell?_of_block (ho q (by omega))).trans hc
  generalize xs[(m + 1) % xs.length] = x at hc hxm hcW
  have S3 : ∀ W', Below W1.heap.size W1 W' → W'.cell? ⟨q, o + (m + 1) % xs.length, none⟩ = some (.int .u16 x) := fun W' h => cell_later h hcW
  have hxi : (x : Int) < 65536 := by omega
  clear hgr hst ho e1 g1 g2 g3 g4 hc hcW x3 hq
  generalize xs.length = L at x1 x2 hlt S2 S3
  have hL : (0 : Int) < (L : Int) := by omega
  have T1 : ((m + 1 : Nat) : Int).tmod (L : Int) = (((m + 1) % L : Nat) : Int) := by
    rw [Int.tmod_eq_emod_of_nonneg (by omega)]; rfl
  have T2 : 0 ≤ ((m + 1 : Nat) : Int) := by omega
  have hlti : (((m + 1) % L : Nat) : Int) < (L : Int) := by omega
  generalize (m + 1) % L = j at T1 hlt S3 hlti
  clear x2
  go_enter Try.func62, Try.ntmps62
  go_upto_region 2 with fail
  have hW2 : w.setCell ⟨pc, 0, none⟩ (.int .i64 ((m : Int) + 1)) = W1 := by rw [← hW1]; rfl
  rw [hW2]
  have hmm : ((m + 1 : Nat) : Int) ≤ 1001 := by omega
  have HT1 := T1
  generalize ((m + 1 : Nat) : Int) = M at S1 T1 T2 hmm
  have T0 : IntKind.i64.wrap (x : Int) = (x : Int) := by rw [IntKind.wrap_i64]; omega
  have T3 : IntKind.i64.wrap (41 * M) = 41 * M := by rw [IntKind.wrap_i64]; omega
  have T4 : IntKind.i64.wrap ((x : Int) + 41 * M) = (x : Int) + 41 * M := by rw [IntKind.wrap_i64]; omega
  obtain ⟨r, T5, T6, hrn⟩ : ∃ r : Nat, ((x : Int) + 41 * M).tmod n = (r : Int) ∧ ((x : Int) + 41 * M) % n = (r : Int) ∧ (r : Int) < n := by
    refine ⟨(((x : Int) + 41 * M) % n).toNat, ?_, ?_, ?_⟩
    · rw [Int.tmod_eq_emod_of_nonneg (by omega), Int.toNat_of_nonneg (Int.emod_nonneg _ (by omega))]
    · rw [Int.toNat_of_nonneg (Int.emod_nonneg _ (by omega))]
    · rw [Int.toNat_of_nonneg (Int.emod_nonneg _ (by omega))]; exact Int.emod_lt_of_pos _ (by omega)
  have HRN := Lib.hid hrn
  have hn0 : ¬ n = 0 := by omega
  have hL0 : ¬ L = 0 := by omega
  have hMx : 0 ≤ (x : Int) + 41 * M := by omega
  clear hW1 hW2 HT1 c1 f1 hrn
  refine (wpIn_wide (n := 1)).1 ?_
  refine wpIn_region_Wn (S := Below W1.heap.size W1) 14 (by kernel_rfl) (by kernel_rfl) (below_drew W1) (fun hHeld => ?_)
  refine wpAnyW_takeD 0 7 (v := ?_) (by kernel_rfl) (by kernel_rfl) (by kernel_rfl) (by kernel_rfl) (fun _ _ _ h => h) ?_ (by assumption) ?_
  rotate_left
  · intro oi hoi w hSw; (try dsimp only at hSw); simp only [List.getElem?_toArray, List.getElem?_cons_zero, List.getElem?_cons_succ, Option.some.injEq] at hoi; subst hoi; go_simp; try with_reducible rfl
  simp only [Act.put, List.setIfInBounds_toArray, List.set_cons_zero, List.set_cons_succ]
  refine wpAnyW_takeD 1 8 (v := ?_) (by kernel_rfl) (by kernel_rfl) (by kernel_rfl) (by kernel_rfl) (fun _ _ _ h => h) ?_ (by assumption) ?_
  rotate_left
  · intro oi hoi w hSw; (try dsimp only at hSw); simp only [List.getElem?_toArray, List.getElem?_cons_zero, List.getElem?_cons_succ, Option.some.injEq] at hoi; subst hoi; go_simp; try with_reducible rfl
  simp only [Act.put, List.setIfInBounds_toArray, List.set_cons_zero, List.set_cons_succ]
  refine wpAnyW_takeD 2 9 (v := ?_) (by kernel_rfl) (by kernel_rfl) (by kernel_rfl) (by kernel_rfl) (fun _ _ _ h => h) ?_ (by assumption) ?_
  rotate_left
  · intro oi hoi w hSw; (try dsimp only at hSw); simp only [List.getElem?_toArray, List.getElem?_cons_zero, List.getElem?_cons_succ, Option.some.injEq] at hoi; subst hoi; go_simp; try with_reducible rfl
  simp only [Act.put, List.setIfInBounds_toArray, List.set_cons_zero, List.set_cons_succ]
  refine wpAnyW_takeD 3 10 (v := ?_) (by kernel_rfl) (by kernel_rfl) (by kernel_rfl) (by kernel_rfl) (fun _ _ _ h => h) ?_ (by assumption) ?_
  rotate_left
  · intro oi hoi w hSw; (try dsimp only at hSw); simp only [List.getElem?_toArray, List.getElem?_cons_zero, List.getElem?_cons_succ, Option.some.injEq] at hoi; subst hoi; go_simp; try with_reducible rfl
  simp only [Act.put, List.setIfInBounds_toArray, List.set_cons_zero, List.set_cons_succ]
  refine wpAnyW_takeD 4 11 (v := ?_) (by kernel_rfl) (by kernel_rfl) (by kernel_rfl) (by kernel_rfl) (fun _ _ _ h => h) ?_ (by assumption) ?_
  rotate_left
  · intro oi hoi w hSw; (try dsimp only at hSw); simp only [List.getElem?_toArray, List.getElem?_cons_zero, List.getElem?_cons_succ, Option.some.injEq] at hoi; subst hoi; go_simp; try with_reducible rfl
  simp only [Act.put, List.setIfInBounds_toArray, List.set_cons_zero, List.set_cons_succ]
  refine wpAnyW_takeD 5 12 (v := ?_) (by kernel_rfl) (by kernel_rfl) (by kernel_rfl) (by kernel_rfl) (fun _ _ _ h => h) ?_ (by assumption) ?_
  rotate_left
  · intro oi hoi w hSw; (try dsimp only at hSw); simp only [List.getElem?_toArray, List.getElem?_cons_zero, List.getElem?_cons_succ, Option.some.injEq] at hoi; subst hoi; go_simp; try with_reducible rfl
  simp only [Act.put, List.setIfInBounds_toArray, List.set_cons_zero, List.set_cons_succ]
  refine wpAnyW_takeD 6 13 (v := ?_) (by kernel_rfl) (by kernel_rfl) (by kernel_rfl) (by kernel_rfl) (fun _ _ _ h => h) ?_ (by assumption) ?_
  rotate_left
  · intro oi hoi w hSw; (try dsimp only at hSw); simp only [List.getElem?_toArray, List.getElem?_cons_zero, List.getElem?_cons_succ, Option.some.injEq] at hoi; subst hoi; go_simp; try with_reducible rfl
  simp only [Act.put, List.setIfInBounds_toArray, List.set_cons_zero, List.set_cons_succ]
  refine wpAnyW_takeD 7 14 (v := ?_) (by kernel_rfl) (by kernel_rfl) (by kernel_rfl) (by kernel_rfl) (fun _ _ _ h => h) ?_ (by assumption) ?_
  rotate_left
  · intro oi hoi w hSw; (try dsimp only at hSw); simp only [List.getElem?_toArray, List.getElem?_cons_zero, List.getElem?_cons_succ, Option.some.injEq] at hoi; subst hoi; go_simp; try with_reducible rfl
  simp only [Act.put, List.setIfInBounds_toArray, List.set_cons_zero, List.set_cons_succ]
  refine wpAnyW_takeD 8 15 (v := ?_) (by kernel_rfl) (by kernel_rfl) (by kernel_rfl) (by kernel_rfl) (fun _ _ _ h => h) ?_ (by assumption) ?_
  rotate_left
  · intro oi hoi w hSw; (try dsimp only at hSw); simp only [List.getElem?_toArray, List.getElem?_cons_zero, List.getElem?_cons_succ, Option.some.injEq] at hoi; subst hoi; go_simp; try with_reducible rfl
  simp only [Act.put, List.setIfInBounds_toArray, List.set_cons_zero, List.set_cons_succ]
  refine wpAnyW_takeD 9 16 (v := ?_) (by kernel_rfl) (by kernel_rfl) (by kernel_rfl) (by kernel_rfl) (fun _ _ _ h => h) ?_ (by assumption) ?_
  rotate_left
  · intro oi hoi w hSw; (try dsimp only at hSw); simp only [List.getElem?_toArray, List.getElem?_cons_zero, List.getElem?_cons_succ, Option.some.injEq] at hoi; subst hoi; go_simp; try with_reducible rfl
  simp only [Act.put, List.setIfInBounds_toArray, List.set_cons_zero, List.set_cons_succ]
  refine wpAnyW_takeD 10 17 (v := ?_) (by kernel_rfl) (by kernel_rfl) (by kernel_rfl) (by kernel_rfl) (fun _ _ _ h => h) ?_ (by assumption) ?_
  rotate_left
  · intro oi hoi w hSw; (try dsimp only at hSw); simp only [List.getElem?_toArray, List.getElem?_cons_zero, List.getElem?_cons_succ, Option.some.injEq] at hoi; subst hoi; go_simp; try with_reducible rfl
  simp only [Act.put, List.setIfInBounds_toArray, List.set_cons_zero, List.set_cons_succ]
  refine wpAnyW_takeD 11 18 (v := ?_) (by kernel_rfl) (by kernel_rfl) (by kernel_rfl) (by kernel_rfl) (fun _ _ _ h => h) ?_ (by assumption) ?_
  rotate_left
  · intro oi hoi w hSw; (try dsimp only at hSw); simp only [List.getElem?_toArray, List.getElem?_cons_zero, List.getElem?_cons_succ, Option.some.injEq] at hoi; subst hoi; go_simp; try with_reducible rfl
  simp only [Act.put, List.setIfInBounds_toArray, List.set_cons_zero, List.set_cons_succ]
  refine wpAnyW_takeD 12 19 (v := ?_) (by kernel_rfl) (by kernel_rfl) (by kernel_rfl) (by kernel_rfl) (fun _ _ _ h => h) ?_ (by assumption) ?_
  rotate_left
  · intro oi hoi w hSw; (try dsimp only at hSw); simp only [List.getElem?_toArray, List.getElem?_cons_zero, List.getElem?_cons_succ, Option.some.injEq] at hoi; subst hoi; go_simp; try with_reducible rfl
  simp only [Act.put, List.setIfInBounds_toArray, List.set_cons_zero, List.set_cons_succ]
  refine wpAnyW_takeD 13 4 (v := ?_) (by kernel_rfl) (by kernel_rfl) (by kernel_rfl) (by kernel_rfl) (fun _ _ _ h => h) ?_ (by assumption) ?_
  rotate_left
  · intro oi hoi w hSw; (try dsimp only at hSw); simp only [List.getElem?_toArray, List.getElem?_cons_zero, List.getElem?_cons_succ, Option.some.injEq] at hoi; subst hoi; go_simp; try with_reducible rfl
  simp only [Act.put, List.setIfInBounds_toArray, List.set_cons_zero, List.set_cons_succ]
  refine wpAnyW_done (by kernel_rfl) ?_ _
  dsimp only [onNormal]
  clear S1 S2 S3
  go_wp2
  go_ret
  exact ⟨r, HRN.out, rfl, HST.out.below (below_drew W1), HG.out.below3 (below_drew W1)⟩
end Go.Proofs.Ytjkegmjjhdmkiaa
namespace Go.Proofs.Ytjkegmjjhdmkiaa
open Go.RowKit Go.Shelf
set_option maxHeartbeats 12800000
set_option maxRecDepth 100000
set_option linter.unusedSimpArgs false
set_option linter.unusedVariables false

/-- The least and the greatest of a first number and others. -/
def spanTo (f : Joined → Int) (x : Int) (L : List Joined) : Sp := L.foldl (fun s z => ⟨min s.lo (f z), max s.hi (f z)⟩) ⟨x, x⟩
theorem spanTo_snoc (f : Joined → Int) (x : Int) (L : List Joined) (z : Joined) : spanTo f x (L ++ [z]) = ⟨min (spanTo f x L).lo (f z), max (spanTo f x L).hi (f z)⟩ := by simp [spanTo]
theorem spanTo_succ (f : Joined → Int) (x : Int) (L : List Joined) (k : Nat) (h : k < L.length) : spanTo f x (L.take (k + 1)) = ⟨min (spanTo f x (L.take k)).lo (f L[k]), max (spanTo f x (L.take k)).hi (f L[k])⟩ := by
  rw [List.take_succ_eq_append_getElem h, spanTo_snoc]
theorem spanTo_fold (f : Joined → Int) : ∀ (L : List Joined) (s : Sp), (L.foldl (fun s z => ⟨min s.lo (f z), max s.hi (f z)⟩) s : Sp) = ⟨((L.map f).foldl Ends.put ⟨s.lo, s.hi, true⟩).lo, ((L.map f).foldl Ends.put ⟨s.lo, s.hi, true⟩).hi⟩
  | [], s => rfl
  | z :: L, s => by
    rw [List.foldl_cons, List.map_cons, List.foldl_cons, spanTo_fold f L]
    rfl
theorem spanTo_ends (f : Joined → Int) (L : List Joined) (h : 0 < L.length) : spanTo f (f L[0]) L = ⟨(endsOf (L.map f)).lo, (endsOf (L.map f)).hi⟩ := by
  cases L with
  | nil => cases h
  | cons z L =>
    unfold spanTo endsOf
    rw [spanTo_fold, List.map_cons]
    simp only [List.getElem_cons_zero, List.foldl_cons]
    have e1 : (⟨f z, f z, true⟩ : Ends).put (f z) = ⟨f z, f z, true⟩ := by simp [Ends.put]
    have e2 : (⟨0, 0, false⟩ : Ends).put (f z) = ⟨f z, f z, true⟩ := by simp [Ends.put]
    rw [e1, e2]

theorem two_same {w : World} {p : Nat} {x0 x1 : Value} (v0 v1 : Value) {T : TypeId} (h : w.heap[p]? = some (.cells #[x0, x1] T)) : ((w.setCell ⟨p, 0, none⟩ v0).setCell ⟨p, 1, none⟩ v1).heap[p]? = some (.cells #[v0, v1] T) :=
  heap_setCell_same _ _ 1 _ _ v1 (heap_setCell_same _ _ 0 _ _ v0 h)
theorem two_other {w : World} {o : Option Obj} (p k : Nat) (v0 v1 : Value) (h : k ≠ p) (ho : w.heap[k]? = o) : ((w.setCell ⟨p, 0, none⟩ v0).setCell ⟨p, 1, none⟩ v1).heap[k]? = o := by
  rw [Below.heap_setCell _ _ _ _ (by exact h), Below.heap_setCell _ _ _ _ (by exact h)]
  exact ho
theorem two_below {w w' : World} {p B : Nat} (v0 v1 : Value) (h : Below B w w') (hB : B ≤ p) : Below B w ((w'.setCell ⟨p, 0, none⟩ v0).setCell ⟨p, 1, none⟩ v1) :=
  (h.setCell (by exact hB) _).setCell (by exact hB) _

theorem shift_reg8 (g n c k q : Nat) (lo hi x : Int) (wA : World) {z0 z1 z2 z3 z4 z6 z8 z10 z11 z12 z13 z14 z15 z16 z17 z18 z19 z20 z21 z22 z23 z24 z25 z26 z27 z28 z29 z30 z31 z32 z33 z34 z35 z36 z37 z38 z39 z40 z41 z42 z43 z44 z45 z46 z47 z48 z49 z50 z51 z52 z53 z54 z55 z56 z57 z58 z59 z60 z61 z62 z63 z64 z65 z66 z67 z68 z69 z70 z71 z72 z73 z74 z75 z76 z77 z78 z79 : Value}
    (hq : wA.heap[q]? = some (.cells #[.int .i64 lo, .int .i64 hi] 23)) (hx : wA.cell? ⟨g, k * 3, none⟩ = some (.int .i64 x)) (hk : (k : Int) < n) (K : Act → World → Prop) (Q : Exit → Act → World → Prop)
    (hfin : ∀ (s44 s45 s46 s47 s48 s49 s50 s51 s52 s53 s54 s55 s56 s57 s58 s59 s60 : Value), K ⟨(z0 :: z1 :: z2 :: z3 :: z4 :: (.slice (some ⟨g, 0, none⟩) n c) :: z6 :: (.pointer (some ⟨q, 0, none⟩)) :: z8 :: (.int .i64 k) :: z10 :: z11 :: z12 :: z13 :: z14 :: z15 :: z16 :: z17 :: z18 :: z19 :: z20 :: z21 :: z22 :: z23 :: z24 :: z25 :: z26 :: z27 :: z28 :: z29 :: z30 :: z31 :: z32 :: z33 :: z34 :: z35 :: z36 :: z37 :: z38 :: z39 :: z40 :: z41 :: z42 :: z43 :: s44 :: s45 :: s46 :: s47 :: s48 :: s49 :: s50 :: s51 :: s52 :: s53 :: s54 :: s55 :: s56 :: s57 :: s58 :: s59 :: s60 :: z61 :: z62 :: z63 :: z64 :: z65 :: z66 :: z67 :: z68 :: z69 :: z70 :: z71 :: z72 :: z73 :: z74 :: z75 :: z76 :: z77 :: z78 :: z79 :: []).toArray, []⟩ ((wA.setCell ⟨q, 0, none⟩ (.int .i64 (if x < lo then x else lo))).setCell ⟨q, 1, none⟩ (.int .i64 (if hi < x then x else hi))).drew) :
    Code.wp Try.prog (((Try.f18.body.bind (findReg 8)).getD .skip)) (Exit.then K Q) ⟨(z0 :: z1 :: z2 :: z3 :: z4 :: (.slice (some ⟨g, 0, none⟩) n c) :: z6 :: (.pointer (some ⟨q, 0, none⟩)) :: z8 :: (.int .i64 k) :: z10 :: z11 :: z12 :: z13 :: z14 :: z15 :: z16 :: z17 :: z18 :: z19 :: z20 :: z21 :: z22 :: z23 :: z24 :: z25 :: z26 :: z27 :: z28 :: z29 :: z30 :: z31 :: z32 :: z33 :: z34 :: z35 :: z36 :: z37 :: z38 :: z39 :: z40 :: z41 :: z42 :: z43 :: z44 :: z45 :: z46 :: z47 :: z48 :: z49 :: z50 :: z51 :: z52 :: z53 :: z54 :: z55 :: z56 :: z57 :: z58 :: z59 :: z60 :: z61 :: z62 :: z63 :: z64 :: z65 :: z66 :: z67 :: z68 :: z69 :: z70 :: z71 :: z72 :: z73 :: z74 :: z75 :: z76 :: z77 :: z78 :: z79 :: []).toArray, []⟩ wA := by
  have HFIN := Lib.hid hfin
  have S0 : ∀ W', W' = wA.drew → W'.cell? ⟨q, 0, none⟩ = some (.int .i64 lo) := fun W' h => by subst h; exact cell_block hq 0
  have S1 : ∀ W', W' = wA.drew → W'.cell? ⟨q, 1, none⟩ = some (.int .i64 hi) := fun W' h => by subst h; exact cell_block hq 1
  have S2 : ∀ W', W' = wA.drew → W'.cell? ⟨g, k * 3, none⟩ = some (.int .i64 x) := fun W' h => by subst h; exact hx
  have Z0 := frozen_block hq 0
  have Z1 := frozen_block hq 1
  have C0 := cell_block hq 0
  have C1 := cell_block hq 1
  simp only [List.getElem?_toArray, List.getElem?_cons_zero, List.getElem?_cons_succ] at C0 C1
  clear hfin hx hq
  conv => arg 2; whnf
  refine (wpIn_wide (n := 1)).1 ?_
  refine wpIn_region_Vn (B := [17]) (S := fun W' => W' = wA.drew) 18 (by kernel_rfl) (by kernel_rfl) rfl (fun hHeld => ?_)
  refine wpAnyV_takeP 0 44 (v := ?_) (by kernel_rfl) (by kernel_rfl) (by kernel_rfl) (by kernel_rfl) (fun _ _ _ h => h) ?_ (by kernel_rfl) (by first | exact .inr hHeld | exact .inl (by kernel_rfl)) ?_
  rotate_left
  · intro oi hoi w; simp only [List.getElem?_toArray, List.getElem?_cons_zero, List.getElem?_cons_succ, Option.some.injEq] at hoi; subst hoi; go_simp; try with_reducible rfl
  simp only [Act.put, List.setIfInBounds_toArray, List.set_cons_zero, List.set_cons_succ]
  refine wpAnyV_takeD 1 45 (v := ?_) (by kernel_rfl) (by kernel_rfl) (by kernel_rfl) (by kernel_rfl) (fun _ _ _ h => h) (by kernel_rfl) ?_ (by assumption) ?_
  rotate_left
  · intro oi hoi w hSw; (try dsimp only at hSw); simp only [List.getElem?_toArray, List.getElem?_cons_zero, List.getElem?_cons_succ, Option.some.injEq] at hoi; subst hoi; go_simp; try with_reducible rfl
  simp only [Act.put, List.setIfInBounds_toArray, List.set_cons_zero, List.set_cons_succ]
  refine wpAnyV_takeP 2 46 (v := ?_) (by kernel_rfl) (by kernel_rfl) (by kernel_rfl) (by kernel_rfl) (fun _ _ _ h => h) ?_ (by kernel_rfl) (by first | exact .inr hHeld | exact .inl (by kernel_rfl)) ?_
  rotate_left
  · intro oi hoi w; simp only [List.getElem?_toArray, List.getElem?_cons_zero, List.getElem?_cons_succ, Option.some.injEq] at hoi; subst hoi; go_simp; try with_reducible rfl
  simp only [Act.put, List.setIfInBounds_toArray, List.set_cons_zero, List.set_cons_succ]
  refine wpAnyV_takeP 3 47 (v := ?_) (by kernel_rfl) (by kernel_rfl) (by kernel_rfl) (by kernel_rfl) (fun _ _ _ h => h) ?_ (by kernel_rfl) (by first | exact .inr hHeld | exact .inl (by kernel_rfl)) ?_
  rotate_left
  · intro oi hoi w; simp only [List.getElem?_toArray, List.getElem?_cons_zero, List.getElem?_cons_succ, Option.some.injEq] at hoi; subst hoi; go_simp; try with_reducible rfl
  simp only [Act.put, List.setIfInBounds_toArray, List.set_cons_zero, List.set_cons_succ]
  refine wpAnyV_takeP 4 48 (v := ?_) (by kernel_rfl) (by kernel_rfl) (by kernel_rfl) (by kernel_rfl) (fun _ _ _ h => h) ?_ (by kernel_rfl) (by first | exact .inr hHeld | exact .inl (by kernel_rfl)) ?_
  rotate_left
  · intro oi hoi w; simp only [List.getElem?_toArray, List.getElem?_cons_zero, List.getElem?_cons_succ, Option.some.injEq] at hoi; subst hoi; go_simp; try with_reducible rfl
  simp only [Act.put, List.setIfInBounds_toArray, List.set_cons_zero, List.set_cons_succ]
  refine wpAnyV_takeP 5 49 (v := ?_) (by kernel_rfl) (by kernel_rfl) (by kernel_rfl) (by kernel_rfl) (fun _ _ _ h => h) ?_ (by kernel_rfl) (by first | exact .inr hHeld | exact .inl (by kernel_rfl)) ?_
  rotate_left
  · intro oi hoi w; simp only [List.getElem?_toArray, List.getElem?_cons_zero, List.getElem?_cons_succ, Option.some.injEq] at hoi; subst hoi; go_simp; try with_reducible rfl
  simp only [Act.put, List.setIfInBounds_toArray, List.set_cons_zero, List.set_cons_succ]
  refine wpAnyV_takeD 6 50 (v := ?_) (by kernel_rfl) (by kernel_rfl) (by kernel_rfl) (by kernel_rfl) (fun _ _ _ h => h) (by kernel_rfl) ?_ (by assumption) ?_
  rotate_left
  · intro oi hoi w hSw; (try dsimp only at hSw); simp only [List.getElem?_toArray, List.getElem?_cons_zero, List.getElem?_cons_succ, Option.some.injEq] at hoi; subst hoi; go_simp; try with_reducible rfl
  simp only [Act.put, List.setIfInBounds_toArray, List.set_cons_zero, List.set_cons_succ]
  refine wpAnyV_takeP 7 51 (v := ?_) (by kernel_rfl) (by kernel_rfl) (by kernel_rfl) (by kernel_rfl) (fun _ _ _ h => h) ?_ (by kernel_rfl) (by first | exact .inr hHeld | exact .inl (by kernel_rfl)) ?_
  rotate_left
  · intro oi hoi w; simp only [List.getElem?_toArray, List.getElem?_cons_zero, List.getElem?_cons_succ, Option.some.injEq] at hoi; subst hoi; go_simp; try with_reducible rfl
  simp only [Act.put, List.setIfInBounds_toArray, List.set_cons_zero, List.set_cons_succ]
  refine wpAnyV_takeP 8 52 (v := ?_) (by kernel_rfl) (by kernel_rfl) (by kernel_rfl) (by kernel_rfl) (fun _ _ _ h => h) ?_ (by kernel_rfl) (by first | exact .inr hHeld | exact .inl (by kernel_rfl)) ?_
  rotate_left
  · intro oi hoi w; simp only [List.getElem?_toArray, List.getElem?_cons_zero, List.getElem?_cons_succ, Option.some.injEq] at hoi; subst hoi; go_simp; try with_reducible rfl
  simp only [Act.put, List.setIfInBounds_toArray, List.set_cons_zero, List.set_cons_succ]
  refine wpAnyV_takeD 9 53 (v := ?_) (by kernel_rfl) (by kernel_rfl) (by kernel_rfl) (by kernel_rfl) (fun _ _ _ h => h) (by kernel_rfl) ?_ (by assumption) ?_
  rotate_left
  · intro oi hoi w hSw; (try dsimp only at hSw); simp only [List.getElem?_toArray, List.getElem?_cons_zero, List.getElem?_cons_succ, Option.some.injEq] at hoi; subst hoi; go_simp; try with_reducible rfl
  simp only [Act.put, List.setIfInBounds_toArray, List.set_cons_zero, List.set_cons_succ]
  refine wpAnyV_takeP 10 54 (v := ?_) (by kernel_rfl) (by kernel_rfl) (by kernel_rfl) (by kernel_rfl) (fun _ _ _ h => h) ?_ (by kernel_rfl) (by first | exact .inr hHeld | exact .inl (by kernel_rfl)) ?_
  rotate_left
  · intro oi hoi w; simp only [List.getElem?_toArray, List.getElem?_cons_zero, List.getElem?_cons_succ, Option.some.injEq] at hoi; subst hoi; go_simp; try with_reducible rfl
  simp only [Act.put, List.setIfInBounds_toArray, List.set_cons_zero, List.set_cons_succ]
  refine wpAnyV_takeP 11 55 (v := ?_) (by kernel_rfl) (by kernel_rfl) (by kernel_rfl) (by kernel_rfl) (fun _ _ _ h => h) ?_ (by kernel_rfl) (by first | exact .inr hHeld | exact .inl (by kernel_rfl)) ?_
  rotate_left
  · intro oi hoi w; simp only [List.getElem?_toArray, List.getElem?_cons_zero, List.getElem?_cons_succ, Option.some.injEq] at hoi; subst hoi; go_simp; try with_reducible rfl
  simp only [Act.put, List.setIfInBounds_toArray, List.set_cons_zero, List.set_cons_succ]
  refine wpAnyV_takeP 12 56 (v := ?_) (by kernel_rfl) (by kernel_rfl) (by kernel_rfl) (by kernel_rfl) (fun _ _ _ h => h) ?_ (by kernel_rfl) (by first | exact .inr hHeld | exact .inl (by kernel_rfl)) ?_
  rotate_left
  · intro oi hoi w; simp only [List.getElem?_toArray, List.getElem?_cons_zero, List.getElem?_cons_succ, Option.some.injEq] at hoi; subst hoi; go_simp; try with_reducible rfl
  simp only [Act.put, List.setIfInBounds_toArray, List.set_cons_zero, List.set_cons_succ]
  refine wpAnyV_takeP 13 57 (v := ?_) (by kernel_rfl) (by kernel_rfl) (by kernel_rfl) (by kernel_rfl) (fun _ _ _ h => h) ?_ (by kernel_rfl) (by first | exact .inr hHeld | exact .inl (by kernel_rfl)) ?_
  rotate_left
  · intro oi hoi w; simp only [List.getElem?_toArray, List.getElem?_cons_zero, List.getElem?_cons_succ, Option.some.injEq] at hoi; subst hoi; go_simp; try with_reducible rfl
  simp only [Act.put, List.setIfInBounds_toArray, List.set_cons_zero, List.set_cons_succ]
  refine wpAnyV_takeD 14 58 (v := ?_) (by kernel_rfl) (by kernel_rfl) (by kernel_rfl) (by kernel_rfl) (fun _ _ _ h => h) (by kernel_rfl) ?_ (by assumption) ?_
  rotate_left
  · intro oi hoi w hSw; (try dsimp only at hSw); simp only [List.getElem?_toArray, List.getElem?_cons_zero, List.getElem?_cons_succ, Option.some.injEq] at hoi; subst hoi; go_simp; try with_reducible rfl
  simp only [Act.put, List.setIfInBounds_toArray, List.set_cons_zero, List.set_cons_succ]
  refine wpAnyV_takeP 15 59 (v := ?_) (by kernel_rfl) (by kernel_rfl) (by kernel_rfl) (by kernel_rfl) (fun _ _ _ h => h) ?_ (by kernel_rfl) (by first | exact .inr hHeld | exact .inl (by kernel_rfl)) ?_
  rotate_left
  · intro oi hoi w; simp only [List.getElem?_toArray, List.getElem?_cons_zero, List.getElem?_cons_succ, Option.some.injEq] at hoi; subst hoi; go_simp; try with_reducible rfl
  simp only [Act.put, List.setIfInBounds_toArray, List.set_cons_zero, List.set_cons_succ]
  refine wpAnyV_takeP 16 60 (v := ?_) (by kernel_rfl) (by kernel_rfl) (by kernel_rfl) (by kernel_rfl) (fun _ _ _ h => h) ?_ (by kernel_rfl) (by first | exact .inr hHeld | exact .inl (by kernel_rfl)) ?_
  rotate_left
  · intro oi hoi w; simp only [List.getElem?_toArray, List.getElem?_cons_zero, List.getElem?_cons_succ, Option.some.injEq] at hoi; subst hoi; go_simp; try with_reducible rfl
  simp only [Act.put, List.setIfInBounds_toArray, List.set_cons_zero, List.set_cons_succ]
  clear S0 S1 S2
  refine wpAnyV_one 17 (by kernel_rfl) (by kernel_rfl) ?_
  intro o ho K hK
  simp only [List.getElem?_toArray, List.getElem?_cons_zero, List.getElem?_cons_succ, Option.some.injEq] at ho
  subst ho
  go_simp
  refine hK _ _ (.inl (by kernel_rfl)) (fun _ => ?_)
  clear hK K
  try simp only [Act.put, List.setIfInBounds_toArray, List.set_cons_zero, List.set_cons_succ]
  refine wpAnyV_done (by kernel_rfl) ?_ _
  dsimp only [onNormal]
  exact HFIN.out _ _ _ _ _ _ _ _ _ _ _ _ _ _ _ _ _

theorem shift_reg9 (g n c k q : Nat) (lo hi x : Int) (wA : World) {z0 z1 z2 z3 z4 z6 z7 z10 z11 z12 z13 z14 z15 z16 z17 z18 z19 z20 z21 z22 z23 z24 z25 z26 z27 z28 z29 z30 z31 z32 z33 z34 z35 z36 z37 z38 z39 z40 z41 z42 z43 z44 z45 z46 z47 z48 z49 z50 z51 z52 z53 z54 z55 z56 z57 z58 z59 z60 z61 z62 z63 z64 z65 z66 z67 z68 z69 z70 z71 z72 z73 z74 z75 z76 z77 z78 z79 : Value}
    (hq : wA.heap[q]? = some (.cells #[.int .i64 lo, .int .i64 hi] 23)) (hx : wA.cell? ⟨g, k * 3 + 1, none⟩ = some (.int .i64 x)) (hk : (k : Int) < n) (K : Act → World → Prop) (Q : Exit → Act → World → Prop)
    (hfin : ∀ (s61 s62 s63 s64 s65 s66 s67 s68 s69 s70 s71 s72 s73 s74 s75 s76 s77 : Value), K ⟨(z0 :: z1 :: z2 :: z3 :: z4 :: (.slice (some ⟨g, 0, none⟩) n c) :: z6 :: z7 :: (.pointer (some ⟨q, 0, none⟩)) :: (.int .i64 k) :: z10 :: z11 :: z12 :: z13 :: z14 :: z15 :: z16 :: z17 :: z18 :: z19 :: z20 :: z21 :: z22 :: z23 :: z24 :: z25 :: z26 :: z27 :: z28 :: z29 :: z30 :: z31 :: z32 :: z33 :: z34 :: z35 :: z36 :: z37 :: z38 :: z39 :: z40 :: z41 :: z42 :: z43 :: z44 :: z45 :: z46 :: z47 :: z48 :: z49 :: z50 :: z51 :: z52 :: z53 :: z54 :: z55 :: z56 :: z57 :: z58 :: z59 :: z60 :: s61 :: s62 :: s63 :: s64 :: s65 :: s66 :: s67 :: s68 :: s69 :: s70 :: s71 :: s72 :: s73 :: s74 :: s75 :: s76 :: s77 :: z78 :: z79 :: []).toArray, []⟩ ((wA.setCell ⟨q, 0, none⟩ (.int .i64 (if x < lo then x else lo))).setCell ⟨q, 1, none⟩ (.int .i64 (if hi < x then x else hi))).drew) :
    Code.wp Try.prog (((Try.f18.body.bind (findReg 9)).getD .skip)) (Exit.then K Q) ⟨(z0 :: z1 :: z2 :: z3 :: z4 :: (.slice (some ⟨g, 0, none⟩) n c) :: z6 :: z7 :: (.pointer (some ⟨q, 0, none⟩)) :: (.int .i64 k) :: z10 :: z11 :: z12 :: z13 :: z14 :: z15 :: z16 :: z17 :: z18 :: z19 :: z20 :: z21 :: z22 :: z23 :: z24 :: z25 :: z26 :: z27 :: z28 :: z29 :: z30 :: z31 :: z32 :: z33 :: z34 :: z35 :: z36 :: z37 :: z38 :: z39 :: z40 :: z41 :: z42 :: z43 :: z44 :: z45 :: z46 :: z47 :: z48 :: z49 :: z50 :: z51 :: z52 :: z53 :: z54 :: z55 :: z56 :: z57 :: z58 :: z59 :: z60 :: z61 :: z62 :: z63 :: z64 :: z65 :: z66 :: z67 :: z68 :: z69 :: z70 :: z71 :: z72 :: z73 :: z74 :: z75 :: z76 :: z77 :: z78 :: z79 :: []).toArray, []⟩ wA := by
  have HFIN := Lib.hid hfin
  have S0 : ∀ W', W' = wA.drew → W'.cell? ⟨q, 0, none⟩ = some (.int .i64 lo) := fun W' h => by subst h; exact cell_block hq 0
  have S1 : ∀ W', W' = wA.drew → W'.cell? ⟨q, 1, none⟩ = some (.int .i64 hi) := fun W' h => by subst h; exact cell_block hq 1
  have S2 : ∀ W', W' = wA.drew → W'.cell? ⟨g, k * 3 + 1, none⟩ = some (.int .i64 x) := fun W' h => by subst h; exact hx
  have Z0 := frozen_block hq 0
  have Z1 := frozen_block hq 1
  have C0 := cell_block hq 0
  have C1 := cell_block hq 1
  simp only [List.getElem?_toArray, List.getElem?_cons_zero, List.getElem?_cons_succ] at C0 C1
  clear hfin hx hq
  conv => arg 2; whnf
  refine (wpIn_wide (n := 1)).1 ?_
  refine wpIn_region_Vn (B := [17]) (S := fun W' => W' = wA.drew) 18 (by kernel_rfl) (by kernel_rfl) rfl (fun hHeld => ?_)
  refine wpAnyV_takeP 0 61 (v := ?_) (by kernel_rfl) (by kernel_rfl) (by kernel_rfl) (by kernel_rfl) (fun _ _ _ h => h) ?_ (by kernel_rfl) (by first | exact .inr hHeld | exact .inl (by kernel_rfl)) ?_
  rotate_left
  · intro oi hoi w; simp only [List.getElem?_toArray, List.getElem?_cons_zero, List.getElem?_cons_succ, Option.some.injEq] at hoi; subst hoi; go_simp; try with_reducible rfl
  simp only [Act.put, List.setIfInBounds_toArray, List.set_cons_zero, List.set_cons_succ]
  refine wpAnyV_takeD 1 62 (v := ?_) (by kernel_rfl) (by kernel_rfl) (by kernel_rfl) (by kernel_rfl) (fun _ _ _ h => h) (by kernel_rfl) ?_ (by assumption) ?_
  rotate_left
  · intro oi hoi w hSw; (try dsimp only at hSw); simp only [List.getElem?_toArray, List.getElem?_cons_zero, List.getElem?_cons_succ, Option.some.injEq] at hoi; subst hoi; go_simp; try with_reducible rfl
  simp only [Act.put, List.setIfInBounds_toArray, List.set_cons_zero, List.set_cons_succ]
  refine wpAnyV_takeP 2 63 (v := ?_) (by kernel_rfl) (by kernel_rfl) (by kernel_rfl) (by kernel_rfl) (fun _ _ _ h => h) ?_ (by kernel_rfl) (by first | exact .inr hHeld | exact .inl (by kernel_rfl)) ?_
  rotate_left
  · intro oi hoi w; simp only [List.getElem?_toArray, List.getElem?_cons_zero, List.getElem?_cons_succ, Option.some.injEq] at hoi; subst hoi; go_simp; try with_reducible rfl
  simp only [Act.put, List.setIfInBounds_toArray, List.set_cons_zero, List.set_cons_succ]
  refine wpAnyV_takeP 3 64 (v := ?_) (by kernel_rfl) (by kernel_rfl) (by kernel_rfl) (by kernel_rfl) (fun _ _ _ h => h) ?_ (by kernel_rfl) (by first | exact .inr hHeld | exact .inl (by kernel_rfl)) ?_
  rotate_left
  · intro oi hoi w; simp only [List.getElem?_toArray, List.getElem?_cons_zero, List.getElem?_cons_succ, Option.some.injEq] at hoi; subst hoi; go_simp; try with_reducible rfl
  simp only [Act.put, List.setIfInBounds_toArray, List.set_cons_zero, List.set_cons_succ]
  refine wpAnyV_takeP 4 65 (v := ?_) (by kernel_rfl) (by kernel_rfl) (by kernel_rfl) (by kernel_rfl) (fun _ _ _ h => h) ?_ (by kernel_rfl) (by first | exact .inr hHeld | exact .inl (by kernel_rfl)) ?_
  rotate_left
  · intro oi hoi w; simp only [List.getElem?_toArray, List.getElem?_cons_zero, List.getElem?_cons_succ, Option.some.injEq] at hoi; subst hoi; go_simp; try with_reducible rfl
  simp only [Act.put, List.setIfInBounds_toArray, List.set_cons_zero, List.set_cons_succ]
  refine wpAnyV_takeP 5 66 (v := ?_) (by kernel_rfl) (by kernel_rfl) (by kernel_rfl) (by kernel_rfl) (fun _ _ _ h => h) ?_ (by kernel_rfl) (by first | exact .inr hHeld | exact .inl (by kernel_rfl)) ?_
  rotate_left
  · intro oi hoi w; simp only [List.getElem?_toArray, List.getElem?_cons_zero, List.getElem?_cons_succ, Option.some.injEq] at hoi; subst hoi; go_simp; try with_reducible rfl
  simp only [Act.put, List.setIfInBounds_toArray, List.set_cons_zero, List.set_cons_succ]
  refine wpAnyV_takeD 6 67 (v := ?_) (by kernel_rfl) (by kernel_rfl) (by kernel_rfl) (by kernel_rfl) (fun _ _ _ h => h) (by kernel_rfl) ?_ (by assumption) ?_
  rotate_left
  · intro oi hoi w hSw; (try dsimp only at hSw); simp only [List.getElem?_toArray, List.getElem?_cons_zero, List.getElem?_cons_succ, Option.some.injEq] at hoi; subst hoi; go_simp; try with_reducible rfl
  simp only [Act.put, List.setIfInBounds_toArray, List.set_cons_zero, List.set_cons_succ]
  refine wpAnyV_takeP 7 68 (v := ?_) (by kernel_rfl) (by kernel_rfl) (by kernel_rfl) (by kernel_rfl) (fun _ _ _ h => h) ?_ (by kernel_rfl) (by first | exact .inr hHeld | exact .inl (by kernel_rfl)) ?_
  rotate_left
  · intro oi hoi w; simp only [List.getElem?_toArray, List.getElem?_cons_zero, List.getElem?_cons_succ, Option.some.injEq] at hoi; subst hoi; go_simp; try with_reducible rfl
  simp only [Act.put, List.setIfInBounds_toArray, List.set_cons_zero, List.set_cons_succ]
  refine wpAnyV_takeP 8 69 (v := ?_) (by kernel_rfl) (by kernel_rfl) (by kernel_rfl) (by kernel_rfl) (fun _ _ _ h => h) ?_ (by kernel_rfl) (by first | exact .inr hHeld | exact .inl (by kernel_rfl)) ?_
  rotate_left
  · intro oi hoi w; simp only [List.getElem?_toArray, List.getElem?_cons_zero, List.getElem?_cons_succ, Option.some.injEq] at hoi; subst hoi; go_simp; try with_reducible rfl
  simp only [Act.put, List.setIfInBounds_toArray, List.set_cons_zero, List.set_cons_succ]
  refine wpAnyV_takeD 9 70 (v := ?_) (by kernel_rfl) (by kernel_rfl) (by kernel_rfl) (by kernel_rfl) (fun _ _ _ h => h) (by kernel_rfl) ?_ (by assumption) ?_
  rotate_left
  · intro oi hoi w hSw; (try dsimp only at hSw); simp only [List.getElem?_toArray, List.getElem?_cons_zero, List.getElem?_cons_succ, Option.some.injEq] at hoi; subst hoi; go_simp; try with_reducible rfl
  simp only [Act.put, List.setIfInBounds_toArray, List.set_cons_zero, List.set_cons_succ]
  refine wpAnyV_takeP 10 71 (v := ?_) (by kernel_rfl) (by kernel_rfl) (by kernel_rfl) (by kernel_rfl) (fun _ _ _ h => h) ?_ (by kernel_rfl) (by first | exact .inr hHeld | exact .inl (by kernel_rfl)) ?_
  rotate_left
  · intro oi hoi w; simp only [List.getElem?_toArray, List.getElem?_cons_zero, List.getElem?_cons_succ, Option.some.injEq] at hoi; subst hoi; go_simp; try with_reducible rfl
  simp only [Act.put, List.setIfInBounds_toArray, List.set_cons_zero, List.set_cons_succ]
  refine wpAnyV_takeP 11 72 (v := ?_) (by kernel_rfl) (by kernel_rfl) (by kernel_rfl) (by kernel_rfl) (fun _ _ _ h => h) ?_ (by kernel_rfl) (by first | exact .inr hHeld | exact .inl (by kernel_rfl)) ?_
  rotate_left
  · intro oi hoi w; simp only [List.getElem?_toArray, List.getElem?_cons_zero, List.getElem?_cons_succ, Option.some.injEq] at hoi; subst hoi; go_simp; try with_reducible rfl
  simp only [Act.put, List.setIfInBounds_toArray, List.set_cons_zero, List.set_cons_succ]
  refine wpAnyV_takeP 12 73 (v := ?_) (by kernel_rfl) (by kernel_rfl) (by kernel_rfl) (by kernel_rfl) (fun _ _ _ h => h) ?_ (by kernel_rfl) (by first | exact .inr hHeld | exact .inl (by kernel_rfl)) ?_
  rotate_left
  · intro oi hoi w; simp only [List.getElem?_toArray, List.getElem?_cons_zero, List.getElem?_cons_succ, Option.some.injEq] at hoi; subst hoi; go_simp; try with_reducible rfl
  simp only [Act.put, List.setIfInBounds_toArray, List.set_cons_zero, List.set_cons_succ]
  refine wpAnyV_takeP 13 74 (v := ?_) (by kernel_rfl) (by kernel_rfl) (by kernel_rfl) (by kernel_rfl) (fun _ _ _ h => h) ?_ (by kernel_rfl) (by first | exact .inr hHeld | exact .inl (by kernel_rfl)) ?_
  rotate_left
  · intro oi hoi w; simp only [List.getElem?_toArray, List.getElem?_cons_zero, List.getElem?_cons_succ, Option.some.injEq] at hoi; subst hoi; go_simp; try with_reducible rfl
  simp only [Act.put, List.setIfInBounds_toArray, List.set_cons_zero, List.set_cons_succ]
  refine wpAnyV_takeD 14 75 (v := ?_) (by kernel_rfl) (by kernel_rfl) (by kernel_rfl) (by kernel_rfl) (fun _ _ _ h => h) (by kernel_rfl) ?_ (by assumption) ?_
  rotate_left
  · intro oi hoi w hSw; (try dsimp only at hSw); simp only [List.getElem?_toArray, List.getElem?_cons_zero, List.getElem?_cons_succ, Option.some.injEq] at hoi; subst hoi; go_simp; try with_reducible rfl
  simp only [Act.put, List.setIfInBounds_toArray, List.set_cons_zero, List.set_cons_succ]
  refine wpAnyV_takeP 15 76 (v := ?_) (by kernel_rfl) (by kernel_rfl) (by kernel_rfl) (by kernel_rfl) (fun _ _ _ h => h) ?_ (by kernel_rfl) (by first | exact .inr hHeld | exact .inl (by kernel_rfl)) ?_
  rotate_left
  · intro oi hoi w; simp only [List.getElem?_toArray, List.getElem?_cons_zero, List.getElem?_cons_succ, Option.some.injEq] at hoi; subst hoi; go_simp; try with_reducible rfl
  simp only [Act.put, List.setIfInBounds_toArray, List.set_cons_zero, List.set_cons_succ]
  refine wpAnyV_takeP 16 77 (v := ?_) (by kernel_rfl) (by kernel_rfl) (by kernel_rfl) (by kernel_rfl) (fun _ _ _ h => h) ?_ (by kernel_rfl) (by first | exact .inr hHeld | exact .inl (by kernel_rfl)) ?_
  rotate_left
  · intro oi hoi w; simp only [List.getElem?_toArray, List.getElem?_cons_zero, List.getElem?_cons_succ, Option.some.injEq] at hoi; subst hoi; go_simp; try with_reducible rfl
  simp only [Act.put, List.setIfInBounds_toArray, List.set_cons_zero, List.set_cons_succ]
  clear S0 S1 S2
  refine wpAnyV_one 17 (by kernel_rfl) (by kernel_rfl) ?_
  intro o ho K hK
  simp only [List.getElem?_toArray, List.getElem?_cons_zero, List.getElem?_cons_succ, Option.some.injEq] at ho
  subst ho
  go_simp
  refine hK _ _ (.inl (by kernel_rfl)) (fun _ => ?_)
  clear hK K
  try simp only [Act.put, List.setIfInBounds_toArray, List.set_cons_zero, List.set_cons_succ]
  refine wpAnyV_done (by kernel_rfl) ?_ _
  dsimp only [onNormal]
  exact HFIN.out _ _ _ _ _ _ _ _ _ _ _ _ _ _ _ _ _

theorem shift_reg10 (p2 p3 q7 q8 : Nat) (sx sy : Sp) (wA : World) {z0 z1 z4 z5 z6 z9 z10 z11 z12 z13 z14 z15 z16 z17 z18 z19 z20 z21 z22 z23 z24 z25 z26 z27 z28 z29 z30 z31 z32 z33 z34 z35 z36 z37 z38 z39 z40 z41 z42 z43 z44 z45 z46 z47 z48 z49 z50 z51 z52 z53 z54 z55 z56 z57 z58 z59 z60 z61 z62 z63 z64 z65 z66 z67 z68 z69 z70 z71 z72 z73 z74 z75 z76 z77 z78 z79 : Value}
    (h2 : wA.heap[p2]? = some (.cells #[.int .i64 0, .int .i64 0] 23)) (h3 : wA.heap[p3]? = some (.cells #[.int .i64 0, .int .i64 0] 23)) (h7 : wA.heap[q7]? = some (.cells #[.int .i64 sx.lo, .int .i64 sx.hi] 23)) (h8 : wA.heap[q8]? = some (.cells #[.int .i64 sy.lo, .int .i64 sy.hi] 23))
    (n1 : ¬ p2 = q7) (n2 : ¬ p2 = q8) (n3 : ¬ p3 = q7) (n4 : ¬ p3 = q8) (n5 : ¬ p3 = p2) (n6 : ¬ p2 = p3) (K : Act → World → Prop) (Q : Exit → Act → World → Prop)
    (hfin : ∀ (s78 s79 : Value), K ⟨(z0 :: z1 :: (.pointer (some ⟨p2, 0, none⟩)) :: (.pointer (some ⟨p3, 0, none⟩)) :: (.int .i64 0) :: z5 :: z6 :: (.pointer (some ⟨q7, 0, none⟩)) :: (.pointer (some ⟨q8, 0, none⟩)) :: z9 :: z10 :: z11 :: z12 :: z13 :: z14 :: z15 :: z16 :: z17 :: z18 :: z19 :: z20 :: z21 :: z22 :: z23 :: z24 :: z25 :: z26 :: z27 :: z28 :: z29 :: z30 :: z31 :: z32 :: z33 :: z34 :: z35 :: z36 :: z37 :: z38 :: z39 :: z40 :: z41 :: z42 :: z43 :: z44 :: z45 :: z46 :: z47 :: z48 :: z49 :: z50 :: z51 :: z52 :: z53 :: z54 :: z55 :: z56 :: z57 :: z58 :: z59 :: z60 :: z61 :: z62 :: z63 :: z64 :: z65 :: z66 :: z67 :: z68 :: z69 :: z70 :: z71 :: z72 :: z73 :: z74 :: z75 :: z76 :: z77 :: s78 :: s79 :: []).toArray, []⟩ ((((wA.setCell ⟨p2, 0, none⟩ (.int .i64 sx.lo)).setCell ⟨p2, 1, none⟩ (.int .i64 sx.hi)).setCell ⟨p3, 0, none⟩ (.int .i64 sy.lo)).setCell ⟨p3, 1, none⟩ (.int .i64 sy.hi)).drew) :
    Code.wp Try.prog (((Try.f18.body.bind (findReg 10)).getD .skip)) (Exit.then K Q) ⟨(z0 :: z1 :: (.pointer (some ⟨p2, 0, none⟩)) :: (.pointer (some ⟨p3, 0, none⟩)) :: z4 :: z5 :: z6 :: (.pointer (some ⟨q7, 0, none⟩)) :: (.pointer (some ⟨q8, 0, none⟩)) :: z9 :: z10 :: z11 :: z12 :: z13 :: z14 :: z15 :: z16 :: z17 :: z18 :: z19 :: z20 :: z21 :: z22 :: z23 :: z24 :: z25 :: z26 :: z27 :: z28 :: z29 :: z30 :: z31 :: z32 :: z33 :: z34 :: z35 :: z36 :: z37 :: z38 :: z39 :: z40 :: z41 :: z42 :: z43 :: z44 :: z45 :: z46 :: z47 :: z48 :: z49 :: z50 :: z51 :: z52 :: z53 :: z54 :: z55 :: z56 :: z57 :: z58 :: z59 :: z60 :: z61 :: z62 :: z63 :: z64 :: z65 :: z66 :: z67 :: z68 :: z69 :: z70 :: z71 :: z72 :: z73 :: z74 :: z75 :: z76 :: z77 :: z78 :: z79 :: []).toArray, []⟩ wA := by
  have HFIN := Lib.hid hfin
  have r70 := cell_block h7 0
  have r71 := cell_block h7 1
  have r80 := cell_block h8 0
  have r81 := cell_block h8 1
  have r10 := cell_block h2 0
  have r11 := cell_block h2 1
  have r20 := cell_block h3 0
  have r21 := cell_block h3 1
  have z1 := frozen_block h2 0
  have z2 := frozen_block h3 0
  have z3 := frozen_block h2 1
  have z4 := frozen_block h3 1
  simp only [List.getElem?_toArray, List.getElem?_cons_zero, List.getElem?_cons_succ] at r70 r71 r80 r81 r10 r11 r20 r21
  clear h2 h3 h7 h8 hfin
  conv => arg 2; whnf
  go_region
  exact HFIN.out _ _

theorem two_new (w : World) (o1 o2 : Obj) : ((w.alloc o1).alloc o2).drew.heap[w.heap.size]? = some o1 ∧ ((w.alloc o1).alloc o2).drew.heap[w.heap.size + 1]? = some o2 := by
  have h1 : ((w.alloc o1).alloc o2).heap[w.heap.size]? = some o1 := by simp only [alloc_get, World.size_alloc]; rw [if_neg (by omega), if_pos (by trivial)]
  have h2 : ((w.alloc o1).alloc o2).heap[w.heap.size + 1]? = some o2 := by simp only [alloc_get, World.size_alloc]; rw [if_pos (by trivial)]
  exact ⟨h1, h2⟩
theorem shift_reg4 (g n c : Nat) (x y : Int) (w2 : World) {z0 z1 z2 z3 z4 z6 z7 z8 z9 z10 z11 z12 z13 z14 z15 z16 z17 z18 z19 z20 z21 z22 z23 z24 z25 z26 z27 z28 z29 z30 z31 z32 z33 z34 z35 z36 z37 z38 z39 z40 z41 z42 z43 z44 z45 z46 z47 z48 z49 z50 z51 z52 z53 z54 z55 z56 z57 z58 z59 z60 z61 z62 z63 z64 z65 z66 z67 z68 z69 z70 z71 z72 z73 z74 z75 z76 z77 z78 z79 : Value}
    (h0 : w2.cell? ⟨g, 0, none⟩ = some (.int .i64 x)) (h1 : w2.cell? ⟨g, 1, none⟩ = some (.int .i64 y)) (hn : 0 < n) (K : Act → World → Prop) (Q : Exit → Act → World → Prop)
    (hfin : ∀ (s20 s21 s22 s23 s24 s25 s26 s27 s28 s29 s30 s31 s32 s33 s34 s35 s36 s37 : Value) (q7 q8 : Nat) (W5 : World), q7 ≠ q8 → w2.heap.size ≤ q7 → w2.heap.size ≤ q8 → W5.heap[q7]? = some (.cells #[.int .i64 x, .int .i64 x] 23) → W5.heap[q8]? = some (.cells #[.int .i64 y, .int .i64 y] 23) → Below w2.heap.size w2 W5 → K ⟨(z0 :: z1 :: z2 :: z3 :: z4 :: (.slice (some ⟨g, 0, none⟩) n c) :: z6 :: (.pointer (some ⟨q7, 0, none⟩)) :: (.pointer (some ⟨q8, 0, none⟩)) :: z9 :: z10 :: z11 :: z12 :: z13 :: z14 :: z15 :: z16 :: z17 :: z18 :: z19 :: s20 :: s21 :: s22 :: s23 :: s24 :: s25 :: s26 :: s27 :: s28 :: s29 :: s30 :: s31 :: s32 :: s33 :: s34 :: s35 :: s36 :: s37 :: z38 :: z39 :: z40 :: z41 :: z42 :: z43 :: z44 :: z45 :: z46 :: z47 :: z48 :: z49 :: z50 :: z51 :: z52 :: z53 :: z54 :: z55 :: z56 :: z57 :: z58 :: z59 :: z60 :: z61 :: z62 :: z63 :: z64 :: z65 :: z66 :: z67 :: z68 :: z69 :: z70 :: z71 :: z72 :: z73 :: z74 :: z75 :: z76 :: z77 :: z78 :: z79 :: []).toArray, []⟩ W5) :
    Code.wp Try.prog (((Try.f18.body.bind (findReg 4)).getD .skip)) (Exit.then K Q) ⟨(z0 :: z1 :: z2 :: z3 :: z4 :: (.slice (some ⟨g, 0, none⟩) n c) :: z6 :: z7 :: z8 :: z9 :: z10 :: z11 :: z12 :: z13 :: z14 :: z15 :: z16 :: z17 :: z18 :: z19 :: z20 :: z21 :: z22 :: z23 :: z24 :: z25 :: z26 :: z27 :: z28 :: z29 :: z30 :: z31 :: z32 :: z33 :: z34 :: z35 :: z36 :: z37 :: z38 :: z39 :: z40 :: z41 :: z42 :: z43 :: z44 :: z45 :: z46 :: z47 :: z48 :: z49 :: z50 :: z51 :: z52 :: z53 :: z54 :: z55 :: z56 :: z57 :: z58 :: z59 :: z60 :: z61 :: z62 :: z63 :: z64 :: z65 :: z66 :: z67 :: z68 :: z69 :: z70 :: z71 :: z72 :: z73 :: z74 :: z75 :: z76 :: z77 :: z78 :: z79 :: []).toArray, []⟩ w2 := by
  have HFIN := Lib.hid hfin
  have S0 : ∀ W', Below w2.heap.size w2 W' → W'.cell? ⟨g, 0, none⟩ = some (.int .i64 x) := fun W' h => cell_later h h0
  have S1 : ∀ W', Below w2.heap.size w2 W' → W'.cell? ⟨g, 1, none⟩ = some (.int .i64 y) := fun W' h => cell_later h h1
  have HB1 : Hid (∀ (W : World) (o : Obj), Below w2.heap.size w2 W → Below w2.heap.size w2 (W.alloc o)) := Lib.hid (fun W o h => h.trans ((below_alloc W o).mono h.size))
  have HB2 : Hid (∀ (o1 o2 : Obj), Below w2.heap.size w2 ((w2.alloc o1).alloc o2).drew) := Lib.hid (fun o1 o2 => (HB1.out _ _ (HB1.out _ _ (Below.refl _ _))).trans ((below_drew _).mono (by simp; omega)))
  clear hfin h0 h1
  conv => arg 2; whnf
  refine (wpIn_wide (n := 1)).1 ?_
  refine wpIn_region_Wn (S := Below w2.heap.size w2) 22 (by kernel_rfl) (by kernel_rfl) (below_drew w2) (fun hHeld => ?_)
  refine wpAnyW_takeD 0 20 (v := ?_) (by kernel_rfl) (by kernel_rfl) (by kernel_rfl) (by kernel_rfl) (fun _ _ _ h => h) ?_ (by assumption) ?_
  rotate_left
  · intro oi hoi w hSw; (try dsimp only at hSw); simp only [List.getElem?_toArray, List.getElem?_cons_zero, List.getElem?_cons_succ, Option.some.injEq] at hoi; subst hoi; go_simp; try with_reducible rfl
  simp only [Act.put, List.setIfInBounds_toArray, List.set_cons_zero, List.set_cons_succ]
  refine wpAnyW_takeD 1 21 (v := ?_) (by kernel_rfl) (by kernel_rfl) (by kernel_rfl) (by kernel_rfl) (fun _ _ _ h => h) ?_ (by assumption) ?_
  rotate_left
  · intro oi hoi w hSw; (try dsimp only at hSw); simp only [List.getElem?_toArray, List.getElem?_cons_zero, List.getElem?_cons_succ, Option.some.injEq] at hoi; subst hoi; go_simp; try with_reducible rfl
  simp only [Act.put, List.setIfInBounds_toArray, List.set_cons_zero, List.set_cons_succ]
  refine wpAnyW_takeD 2 22 (v := ?_) (by kernel_rfl) (by kernel_rfl) (by kernel_rfl) (by kernel_rfl) (fun _ _ _ h => h) ?_ (by assumption) ?_
  rotate_left
  · intro oi hoi w hSw; (try dsimp only at hSw); simp only [List.getElem?_toArray, List.getElem?_cons_zero, List.getElem?_cons_succ, Option.some.injEq] at hoi; subst hoi; go_simp; try with_reducible rfl
  simp only [Act.put, List.setIfInBounds_toArray, List.set_cons_zero, List.set_cons_succ]
  refine wpAnyW_takeD 3 23 (v := ?_) (by kernel_rfl) (by kernel_rfl) (by kernel_rfl) (by kernel_rfl) (fun _ _ _ h => h) ?_ (by assumption) ?_
  rotate_left
  · intro oi hoi w hSw; (try dsimp only at hSw); simp only [List.getElem?_toArray, List.getElem?_cons_zero, List.getElem?_cons_succ, Option.some.injEq] at hoi; subst hoi; go_simp; try with_reducible rfl
  simp only [Act.put, List.setIfInBounds_toArray, List.set_cons_zero, List.set_cons_succ]
  refine wpAnyW_takeD 4 24 (v := ?_) (by kernel_rfl) (by kernel_rfl) (by kernel_rfl) (by kernel_rfl) (fun _ _ _ h => h) ?_ (by assumption) ?_
  rotate_left
  · intro oi hoi w hSw; (try dsimp only at hSw); simp only [List.getElem?_toArray, List.getElem?_cons_zero, List.getElem?_cons_succ, Option.some.injEq] at hoi; subst hoi; go_simp; try with_reducible rfl
  simp only [Act.put, List.setIfInBounds_toArray, List.set_cons_zero, List.set_cons_succ]
  refine wpAnyW_takeD 5 25 (v := ?_) (by kernel_rfl) (by kernel_rfl) (by kernel_rfl) (by kernel_rfl) (fun _ _ _ h => h) ?_ (by assumption) ?_
  rotate_left
  · intro oi hoi w hSw; (try dsimp only at hSw); simp only [List.getElem?_toArray, List.getElem?_cons_zero, List.getElem?_cons_succ, Option.some.injEq] at hoi; subst hoi; go_simp; try with_reducible rfl
  simp only [Act.put, List.setIfInBounds_toArray, List.set_cons_zero, List.set_cons_succ]
  refine wpAnyW_takeD 6 26 (v := ?_) (by kernel_rfl) (by kernel_rfl) (by kernel_rfl) (by kernel_rfl) (fun _ _ _ h => h) ?_ (by assumption) ?_
  rotate_left
  · intro oi hoi w hSw; (try dsimp only at hSw); simp only [List.getElem?_toArray, List.getElem?_cons_zero, List.getElem?_cons_succ, Option.some.injEq] at hoi; subst hoi; go_simp; try with_reducible rfl
  simp only [Act.put, List.setIfInBounds_toArray, List.set_cons_zero, List.set_cons_succ]
  refine wpAnyW_takeD 7 27 (v := ?_) (by kernel_rfl) (by kernel_rfl) (by kernel_rfl) (by kernel_rfl) (fun _ _ _ h => h) ?_ (by assumption) ?_
  rotate_left
  · intro oi hoi w hSw; (try dsimp only at hSw); simp only [List.getElem?_toArray, List.getElem?_cons_zero, List.getElem?_cons_succ, Option.some.injEq] at hoi; subst hoi; go_simp; try with_reducible rfl
  simp only [Act.put, List.setIfInBounds_toArray, List.set_cons_zero, List.set_cons_succ]
  refine wpAnyW_takeD 8 28 (v := ?_) (by kernel_rfl) (by kernel_rfl) (by kernel_rfl) (by kernel_rfl) (fun _ _ _ h => h) ?_ (by assumption) ?_
  rotate_left
  · intro oi hoi w hSw; (try dsimp only at hSw); simp only [List.getElem?_toArray, List.getElem?_cons_zero, List.getElem?_cons_succ, Option.some.injEq] at hoi; subst hoi; go_simp; try with_reducible rfl
  simp only [Act.put, List.setIfInBounds_toArray, List.set_cons_zero, List.set_cons_succ]
  refine wpAnyW_takeD 9 29 (v := ?_) (by kernel_rfl) (by kernel_rfl) (by kernel_rfl) (by kernel_rfl) (fun _ _ _ h => h) ?_ (by assumption) ?_
  rotate_left
  · intro oi hoi w hSw; (try dsimp only at hSw); simp only [List.getElem?_toArray, List.getElem?_cons_zero, List.getElem?_cons_succ, Option.some.injEq] at hoi; subst hoi; go_simp; try with_reducible rfl
  simp only [Act.put, List.setIfInBounds_toArray, List.set_cons_zero, List.set_cons_succ]
  refine wpAnyW_takeD 10 30 (v := ?_) (by kernel_rfl) (by kernel_rfl) (by kernel_rfl) (by kernel_rfl) (fun _ _ _ h => h) ?_ (by assumption) ?_
  rotate_left
  · intro oi hoi w hSw; (try dsimp only at hSw); simp only [List.getElem?_toArray, List.getElem?_cons_zero, List.getElem?_cons_succ, Option.some.injEq] at hoi; subst hoi; go_simp; try with_reducible rfl
  simp only [Act.put, List.setIfInBounds_toArray, List.set_cons_zero, List.set_cons_succ]
  refine wpAnyW_takeD 11 31 (v := ?_) (by kernel_rfl) (by kernel_rfl) (by kernel_rfl) (by kernel_rfl) (fun _ _ _ h => h) ?_ (by assumption) ?_
  rotate_left
  · intro oi hoi w hSw; (try dsimp only at hSw); simp only [List.getElem?_toArray, List.getElem?_cons_zero, List.getElem?_cons_succ, Option.some.injEq] at hoi; subst hoi; go_simp; try with_reducible rfl
  simp only [Act.put, List.setIfInBounds_toArray, List.set_cons_zero, List.set_cons_succ]
  refine wpAnyW_takeD 12 32 (v := ?_) (by kernel_rfl) (by kernel_rfl) (by kernel_rfl) (by kernel_rfl) (fun _ _ _ h => h) ?_ (by assumption) ?_
  rotate_left
  · intro oi hoi w hSw; (try dsimp only at hSw); simp only [List.getElem?_toArray, List.getElem?_cons_zero, List.getElem?_cons_succ, Option.some.injEq] at hoi; subst hoi; go_simp; try with_reducible rfl
  simp only [Act.put, List.setIfInBounds_toArray, List.set_cons_zero, List.set_cons_succ]
  refine wpAnyW_takeD 13 33 (v := ?_) (by kernel_rfl) (by kernel_rfl) (by kernel_rfl) (by kernel_rfl) (fun _ _ _ h => h) ?_ (by assumption) ?_
  rotate_left
  · intro oi hoi w hSw; (try dsimp only at hSw); simp only [List.getElem?_toArray, List.getElem?_cons_zero, List.getElem?_cons_succ, Option.some.injEq] at hoi; subst hoi; go_simp; try with_reducible rfl
  simp only [Act.put, List.setIfInBounds_toArray, List.set_cons_zero, List.set_cons_succ]
  refine wpAnyW_takeD 14 34 (v := ?_) (by kernel_rfl) (by kernel_rfl) (by kernel_rfl) (by kernel_rfl) (fun _ _ _ h => h) ?_ (by assumption) ?_
  rotate_left
  · intro oi hoi w hSw; (try dsimp only at hSw); simp only [List.getElem?_toArray, List.getElem?_cons_zero, List.getElem?_cons_succ, Option.some.injEq] at hoi; subst hoi; go_simp; try with_reducible rfl
  simp only [Act.put, List.setIfInBounds_toArray, List.set_cons_zero, List.set_cons_succ]
  refine wpAnyW_takeD 15 35 (v := ?_) (by kernel_rfl) (by kernel_rfl) (by kernel_rfl) (by kernel_rfl) (fun _ _ _ h => h) ?_ (by assumption) ?_
  rotate_left
  · intro oi hoi w hSw; (try dsimp only at hSw); simp only [List.getElem?_toArray, List.getElem?_cons_zero, List.getElem?_cons_succ, Option.some.injEq] at hoi; subst hoi; go_simp; try with_reducible rfl
  simp only [Act.put, List.setIfInBounds_toArray, List.set_cons_zero, List.set_cons_succ]
  refine wpAnyW_takeD 16 36 (v := ?_) (by kernel_rfl) (by kernel_rfl) (by kernel_rfl) (by kernel_rfl) (fun _ _ _ h => h) ?_ (by assumption) ?_
  rotate_left
  · intro oi hoi w hSw; (try dsimp only at hSw); simp only [List.getElem?_toArray, List.getElem?_cons_zero, List.getElem?_cons_succ, Option.some.injEq] at hoi; subst hoi; go_simp; try with_reducible rfl
  simp only [Act.put, List.setIfInBounds_toArray, List.set_cons_zero, List.set_cons_succ]
  refine wpAnyW_takeD 17 37 (v := ?_) (by kernel_rfl) (by kernel_rfl) (by kernel_rfl) (by kernel_rfl) (fun _ _ _ h => h) ?_ (by assumption) ?_
  rotate_left
  · intro oi hoi w hSw; (try dsimp only at hSw); simp only [List.getElem?_toArray, List.getElem?_cons_zero, List.getElem?_cons_succ, Option.some.injEq] at hoi; subst hoi; go_simp; try with_reducible rfl
  simp only [Act.put, List.setIfInBounds_toArray, List.set_cons_zero, List.set_cons_succ]
  clear S0 S1
  refine wpAnyW_two 18 19 (by kernel_rfl) ⟨by kernel_rfl, by kernel_rfl⟩ ?_ ?_
  · intro o ho K hK
    simp only [List.getElem?_toArray, List.getElem?_cons_zero, List.getElem?_cons_succ, Option.some.injEq] at ho
    subst ho
    go_simp
    refine hK _ _ (HB1.out _ _ hHeld) (fun _ => ?_)
    clear hK K
    try simp only [Act.put, List.setIfInBounds_toArray, List.set_cons_zero, List.set_cons_succ]
    refine wpAnyW_one 19 (by kernel_rfl) (by kernel_rfl) ?_
    intro o ho K hK
    simp only [List.getElem?_toArray, List.getElem?_cons_zero, List.getElem?_cons_succ, Option.some.injEq] at ho
    subst ho
    go_simp
    refine hK _ _ (HB1.out _ _ (HB1.out _ _ hHeld)) (fun _ => ?_)
    clear hK K
    try simp only [Act.put, List.setIfInBounds_toArray, List.set_cons_zero, List.set_cons_succ]
    refine wpAnyW_one 20 (by kernel_rfl) (by kernel_rfl) ?_
    intro o ho K hK
    simp only [List.getElem?_toArray, List.getElem?_cons_zero, List.getElem?_cons_succ, Option.some.injEq] at ho
    subst ho
    go_simp
    refine hK _ _ ?_ (fun _ => ?_)
    · exact HB2.out _ _
    clear hK K
    try simp only [Act.put, List.setIfInBounds_toArray, List.set_cons_zero, List.set_cons_succ]
    refine wpAnyW_one 21 (by kernel_rfl) (by kernel_rfl) ?_
    intro o ho K hK
    simp only [List.getElem?_toArray, List.getElem?_cons_zero, List.getElem?_cons_succ, Option.some.injEq] at ho
    subst ho
    go_simp
    refine hK _ _ ?_ (fun _ => ?_)
    · exact HB2.out _ _
    clear hK K
    try simp only [Act.put, List.setIfInBounds_toArray, List.set_cons_zero, List.set_cons_succ]
    refine wpAnyW_done (by kernel_rfl) ?_ _
    dsimp only [onNormal]
    exact HFIN.out _ _ _ _ _ _ _ _ _ _ _ _ _ _ _ _ _ _ w2.heap.size (w2.heap.size + 1) _ (by omega) (Nat.le_refl _) (by omega) (two_new _ _ _).1 (two_new _ _ _).2 (HB2.out _ _)
  · intro o ho K hK
    simp only [List.getElem?_toArray, List.getElem?_cons_zero, List.getElem?_cons_succ, Option.some.injEq] at ho
    subst ho
    go_simp
    refine hK _ _ (HB1.out _ _ hHeld) (fun _ => ?_)
    clear hK K
    try simp only [Act.put, List.setIfInBounds_toArray, List.set_cons_zero, List.set_cons_succ]
    refine wpAnyW_one 18 (by kernel_rfl) (by kernel_rfl) ?_
    intro o ho K hK
    simp only [List.getElem?_toArray, List.getElem?_cons_zero, List.getElem?_cons_succ, Option.some.injEq] at ho
    subst ho
    go_simp
    refine hK _ _ (HB1.out _ _ (HB1.out _ _ hHeld)) (fun _ => ?_)
    clear hK K
    try simp only [Act.put, List.setIfInBounds_toArray, List.set_cons_zero, List.set_cons_succ]
    refine wpAnyW_one 20 (by kernel_rfl) (by kernel_rfl) ?_
    intro o ho K hK
    simp only [List.getElem?_toArray, List.getElem?_cons_zero, List.getElem?_cons_succ, Option.some.injEq] at ho
    subst ho
    go_simp
    refine hK _ _ ?_ (fun _ => ?_)
    · exact HB2.out _ _
    clear hK K
    try simp only [Act.put, List.setIfInBounds_toArray, List.set_cons_zero, List.set_cons_succ]
    refine wpAnyW_one 21 (by kernel_rfl) (by kernel_rfl) ?_
    intro o ho K hK
    simp only [List.getElem?_toArray, List.getElem?_cons_zero, List.getElem?_cons_succ, Option.some.injEq] at ho
    subst ho
    go_simp
    refine hK _ _ ?_ (fun _ => ?_)
    · exact HB2.out _ _
    clear hK K
    try simp only [Act.put, List.setIfInBounds_toArray, List.set_cons_zero, List.set_cons_succ]
    refine wpAnyW_done (by kernel_rfl) ?_ _
    dsimp only [onNormal]
    exact HFIN.out _ _ _ _ _ _ _ _ _ _ _ _ _ _ _ _ _ _ (w2.heap.size + 1) w2.heap.size _ (by omega) (by omega) (Nat.le_refl _) (two_new _ _ _).2 (two_new _ _ _).1 (HB2.out _ _)

end Go.Proofs.Ytjkegmjjhdmkiaa
