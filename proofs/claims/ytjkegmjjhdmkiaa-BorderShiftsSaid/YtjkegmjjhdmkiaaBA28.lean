/- The document's answer: which stars a star surely is, and can be; which stars have no counterpart. The document's answer: which stars a star surely is, and can be, walked. -/
import Derived.Test.YtjkegmjjhdmkiaaBA27
namespace Go.Proofs.Ytjkegmjjhdmkiaa
open Go.RowKit Go.Shelf
set_option maxHeartbeats 12800000
set_option maxRecDepth 100000
set_option linter.unusedSimpArgs false

/-- What is opened: the error, or all joinings. -/
theorem rOpen_cases (b : Bo) (valid : Bool) : (∃ x : Int, rOpen b valid = ([], x) ∧ x ≠ 0 ∧ (b.ok = false → x = 1) ∧ (b.ok = true → valid = false → x = 2) ∧ (b.ok = true → valid = true → x = 4 ∧ allOf b (sures b.fs) (sures b.ss) = [])) ∨
    (b.ok = true ∧ valid = true ∧ rOpen b valid = (allOf b (sures b.fs) (sures b.ss), 0) ∧ allOf b (sures b.fs) (sures b.ss) ≠ []) := by
  unfold rOpen
  cases hok : b.ok
  · exact .inl ⟨1, by simp, by decide, by simp, by simp, by simp⟩
  · cases valid
    · exact .inl ⟨2, by simp, by decide, by simp, by simp, by simp⟩
    · by_cases h : allOf b (sures b.fs) (sures b.ss) = []
      · exact .inl ⟨4, by simp [h], by decide, by simp, by simp, by simp [h]⟩
      · exact .inr ⟨rfl, rfl, by simp [h], h⟩

theorem allOf_len {b : Bo} (hok : b.ok = true) (f s : Nat) : (allOf b f s).length ≤ 202591578 := by
  have h := (ok_iff b).1 hok
  have hE : eastN b ≤ 41 := by unfold eastN; omega
  have hN : northN b ≤ 41 := by unfold northN; omega
  have := joinedTo_len hok f s (eastN b) 0 hE (by omega) hN
  have e : shiftRow b (eastN b) 0 = [] := rfl
  rw [e, List.append_nil] at this
  exact this

theorem maskOf_put (p : Nat → Bool) (n : Nat) : maskOf p n + (if p n then 2 ^ n else 0) = maskOf p (n + 1) := by
  show _ = maskOf p n ||| (if p n then 2 ^ n else 0)
  split
  · have h := Nat.two_pow_add_eq_or_of_lt (maskOf_lt p n) 1
    rw [Nat.mul_one] at h
    rw [Nat.or_comm, ← h, Nat.add_comm]
  · simp

/-- How many of the first m joinings have a property. -/
def cntTo (p : Joined → Bool) (L : List Joined) (m : Nat) : Nat := ((L.take m).filter p).length
theorem cntTo_zero (p : Joined → Bool) (L : List Joined) : cntTo p L 0 = 0 := by simp [cntTo]
theorem cntTo_succ (p : Joined → Bool) (L : List Joined) (m : Nat) (h : m < L.length) : cntTo p L (m + 1) = cntTo p L m + if p L[m] then 1 else 0 := by
  unfold cntTo
  rw [List.take_succ_eq_append_getElem h, List.filter_append, List.length_append]
  cases hp : p L[m] <;> simp [hp]
theorem cntTo_le (p : Joined → Bool) (L : List Joined) (m : Nat) : cntTo p L m ≤ m := Nat.le_trans (List.length_filter_le _ _) (by simp; omega)
theorem cntTo_all (p : Joined → Bool) (L : List Joined) : cntTo p L L.length = L.length ↔ ∀ z ∈ L, p z = true := by
  unfold cntTo
  rw [List.take_length, List.length_filter_eq_length_iff]
theorem cntTo_none (p : Joined → Bool) (L : List Joined) : cntTo p L L.length = 0 ↔ ∀ z ∈ L, p z = false := by
  unfold cntTo
  rw [List.take_length, List.length_eq_zero_iff, List.filter_eq_nil_iff]
  refine forall_congr' fun z => imp_congr_right fun _ => by simp

def isAt (f : Nat) (k : Nat) (z : Joined) : Bool := z.2.getD f (-1) == (k : Int)
def inPair (f : Nat) (z : Joined) : Bool := z.2.getD f (-1) != -1
def hasIt (k : Nat) (z : Joined) : Bool := z.2.contains (k : Int)
def everyP (L : List Joined) (f k : Nat) : Bool := decide (cntTo (isAt f k) L L.length = L.length)
def someP (L : List Joined) (f k : Nat) : Bool := decide (0 < cntTo (isAt f k) L L.length)
def noneF (L : List Joined) (f : Nat) : Bool := decide (cntTo (inPair f) L L.length = 0)
def noneS (L : List Joined) (k : Nat) : Bool := decide (cntTo (hasIt k) L L.length = 0)

theorem maskOf_eq {p : Nat → Bool} {n x : Nat} (hx : x < 2 ^ n) (h : ∀ k, k < n → x.testBit k = p k) : maskOf p n = x := by
  refine Nat.eq_of_testBit_eq (fun k => ?_)
  rw [maskOf_testBit]
  by_cases hk : k < n
  · simp [hk, h k hk]
  · rw [Nat.testBit_lt_two_pow (Nat.lt_of_lt_of_le hx (Nat.pow_le_pow_right (by omega) (by omega)))]
    simp [hk]
theorem every_eq {b : Bo} {L : List Joined} (J : JList b L) {f : Nat} (hf : f < b.fs.length) : maskOf (everyP L f) b.ss.length = (prsAt L f).every :=
  maskOf_eq (prsAt_lt J hf).1 fun k _ => by
    unfold everyP
    rw [Bool.eq_iff_iff, prsAt_every J hf, decide_eq_true_eq, cntTo_all]
    exact forall_congr' fun z => imp_congr_right fun _ => by simp [isAt]
theorem some_eq {b : Bo} {L : List Joined} (J : JList b L) {f : Nat} (hf : f < b.fs.length) : maskOf (someP L f) b.ss.length = (prsAt L f).some :=
  maskOf_eq (prsAt_lt J hf).2 fun k _ => by
    unfold someP
    rw [Bool.eq_iff_iff, prsAt_some J hf, decide_eq_true_eq, Nat.pos_iff_ne_zero, Ne, cntTo_none]
    constructor
    · rintro ⟨z, hz, h⟩ hall
      have := hall z hz
      simp [isAt] at this
      exact this h
    · intro h
      apply Classical.byContradiction
      intro hn
      apply h
      intro z hz
      cases hi : isAt f k z
      · rfl
      · exact absurd ⟨z, hz, by simpa [isAt] using hi⟩ hn
theorem noneF_eq {b : Bo} {L : List Joined} (J : JList b L) : maskOf (noneF L) b.fs.length = andN (2 ^ b.fs.length - 1) (allFirst (L.map (·.2))) := by
  have hp : 2 ^ b.fs.length ≤ 2 ^ 6 := Nat.pow_le_pow_right (by omega) J.l6.1
  have hp1 := Nat.two_pow_pos b.fs.length
  have hlt : allFirst (L.map (·.2)) < 2 ^ b.fs.length := allFirst_lt _ (fun x hx => by
    obtain ⟨z, hz, rfl⟩ := List.mem_map.1 hx
    exact Nat.le_of_eq (J.len z hz))
  refine maskOf_eq ?_ fun k hk => ?_
  · exact Nat.lt_of_le_of_lt Nat.and_le_left (by omega)
  · unfold noneF
    rw [andN_testBit _ _ k (by omega) (by have := J.l6.1; omega), Bool.eq_iff_iff, decide_eq_true_eq, cntTo_none, Nat.testBit_two_pow_sub_one]
    cases ha : (allFirst (L.map (·.2))).testBit k
    · simp only [hk, decide_true, Bool.not_false, Bool.and_self, true_iff]
      intro z hz
      have h0 : (prsAt L k).some = 0 := Classical.byContradiction fun h => by
        have := (allFirst_at J k hk).2 h
        rw [ha] at this; cases this
      have := (prsAt_zero J hk).1 h0 z hz
      unfold inPair
      rw [this]
      rfl
    · simp only [Bool.not_true, Bool.and_false, Bool.false_eq_true, false_iff]
      intro hall
      refine (allFirst_at J k hk).1 ha ((prsAt_zero J hk).2 fun z hz => ?_)
      have := hall z hz
      simpa [inPair] using this
theorem noneS_eq {b : Bo} {L : List Joined} (J : JList b L) : maskOf (noneS L) b.ss.length = andN (2 ^ b.ss.length - 1) (allSecond (L.map (·.2))) := by
  have hp : 2 ^ b.ss.length ≤ 2 ^ 6 := Nat.pow_le_pow_right (by omega) J.l6.2
  have hp1 := Nat.two_pow_pos b.ss.length
  have hlt : allSecond (L.map (·.2)) < 2 ^ b.ss.length := allSecond_lt _ (fun x hx => by
    obtain ⟨z, hz, rfl⟩ := List.mem_map.1 hx
    exact jent J hz)
  refine maskOf_eq ?_ fun k hk => ?_
  · exact Nat.lt_of_le_of_lt Nat.and_le_left (by omega)
  · unfold noneS
    have hb : (allSecond (L.map (·.2))).testBit k = true ↔ ∃ z ∈ L, (k : Int) ∈ z.2 := by
      rw [allSecond_bit, List.any_map, List.any_eq_true]
      refine exists_congr fun z => and_congr_right fun hz => ?_
      simp only [Function.comp]
      exact jSecond_bit z.2 (fun y hy => (jent J hz y hy).imp id (fun h => h.1)) k
    rw [andN_testBit _ _ k (by omega) (by have := J.l6.2; omega), Bool.eq_iff_iff, decide_eq_true_eq, cntTo_none, Nat.testBit_two_pow_sub_one]
    cases ha : (allSecond (L.map (·.2))).testBit k
    · simp only [hk, decide_true, Bool.not_false, Bool.and_self, true_iff]
      intro z hz
      cases h : hasIt k z
      · rfl
      · have := hb.2 ⟨z, hz, by simpa [hasIt] using h⟩
        rw [ha] at this; cases this
    · simp only [Bool.not_true, Bool.and_false, Bool.false_eq_true, false_iff]
      intro hall
      obtain ⟨z, hz, h⟩ := hb.1 ha
      have := hall z hz
      simp [hasIt, h] at this

end Go.Proofs.Ytjkegmjjhdmkiaa
namespace Go.Proofs.Ytjkegmjjhdmkiaa
open Go.RowKit Go.Shelf
set_option maxHeartbeats 12800000
set_option maxRecDepth 100000
set_option linter.unusedSimpArgs false

theorem rpairs_any (b : Bo) (first : Int) (fa sa : Option Addr) (fc sc : Nat) (w : World) (hb : BoArg w b fa sa) (h30 : b.fs.length ≤ 30) :
    Calls Try.prog 20 #[.agg #[.int .i64 b.e.lo, .int .i64 b.e.hi, .int .i64 b.n.lo, .int .i64 b.n.hi, .slice fa b.fs.length fc, .slice sa b.ss.length sc], .int .i64 first] w (PairsPost b first w) := by
  have hdef : bPairs b first = if b.ok then if decide (0 ≤ first) && decide (first ≤ b.fs.length - 1) then if allOf b (sures b.fs) (sures b.ss) = [] then (0, 0, 4) else ((prsAt (allOf b (sures b.fs) (sures b.ss)) first.toNat).every, (prsAt (allOf b (sures b.fs) (sures b.ss)) first.toNat).some, 0) else (0, 0, 2) else (0, 0, 1) := rfl
  have HD := Lib.hid hdef
  have HB := Lib.hid hb
  have h30i : (b.fs.length : Int) ≤ 30 := by omega
  have HWR : Hid (IntKind.i64.wrap ((b.fs.length : Int) - 1) = (b.fs.length : Int) - 1) := Lib.hid (by rw [IntKind.wrap_i64]; omega)
  obtain ⟨vd, hvd⟩ : ∃ vd, inR first 0 ((b.fs.length : Int) - 1) = vd := ⟨_, rfl⟩
  have hin : (decide (0 ≤ first) && decide (first ≤ (b.fs.length : Int) - 1)) = vd := hvd
  have HV := Lib.hid hvd
  have HIN := Lib.hid hin
  clear hb hdef hvd hin
  go_enter Try.func20, Try.ntmps20
  go_upto_region 1 with fail
  obtain ⟨W0, hW0⟩ : ∃ W, (w.alloc (.cells #[.int .i64 b.e.lo, .int .i64 b.e.hi, .int .i64 b.n.lo, .int .i64 b.n.hi, .slice fa b.fs.length fc, .slice sa b.ss.length sc] 26)) = W := ⟨_, rfl⟩
  rw [hW0]
  try simp only [Nat.add_assoc, Nat.reduceAdd]
  have hst_W0 : Steps (fun _ => False) w W0 := by rw [← hW0]; exact Steps.alloc _ w _
  have hz_W0 : W0.heap.size = w.heap.size + 1 := by rw [← hW0]; simp
  have g0_W0 : W0.heap[w.heap.size]? = some (.cells #[.int .i64 b.e.lo, .int .i64 b.e.hi, .int .i64 b.n.lo, .int .i64 b.n.hi, .slice fa b.fs.length fc, .slice sa b.ss.length sc] 26) := by rw [← hW0]; simp only [alloc_get, World.size_alloc]; repeat (first | exact if_pos trivial | exact if_pos (by omega) | rw [if_neg (by omega)])
  clear hW0
  have hb0 : Below w.heap.size w W0 := hst_W0.below (Nat.le_refl _) (fun _ _ h => h)
  have ltp := (Array.getElem?_eq_some_iff.1 g0_W0).1
  clear hst_W0 hz_W0
  have S0 : ∀ W', Below W0.heap.size W0 W' → W'.cell? ⟨w.heap.size, 0, none⟩ = some (.int .i64 b.e.lo) := fun W' h => cell_block ((h.block _ ltp).trans g0_W0) 0
  have S1 : ∀ W', Below W0.heap.size W0 W' → W'.cell? ⟨w.heap.size, 1, none⟩ = some (.int .i64 b.e.hi) := fun W' h => cell_block ((h.block _ ltp).trans g0_W0) 1
  have S2 : ∀ W', Below W0.heap.size W0 W' → W'.cell? ⟨w.heap.size, 2, none⟩ = some (.int .i64 b.n.lo) := fun W' h => cell_block ((h.block _ ltp).trans g0_W0) 2
  have S3 : ∀ W', Below W0.heap.size W0 W' → W'.cell? ⟨w.heap.size, 3, none⟩ = some (.int .i64 b.n.hi) := fun W' h => cell_block ((h.block _ ltp).trans g0_W0) 3
  have S4 : ∀ W', Below W0.heap.size W0 W' → W'.cell? ⟨w.heap.size, 4, none⟩ = some (.slice fa b.fs.length fc) := fun W' h => cell_block ((h.block _ ltp).trans g0_W0) 4
  have S5 : ∀ W', Below W0.heap.size W0 W' → W'.cell? ⟨w.heap.size, 5, none⟩ = some (.slice sa b.ss.length sc) := fun W' h => cell_block ((h.block _ ltp).trans g0_W0) 5
  refine (wpIn_wide (n := 1)).1 ?_
  refine wpIn_region_Wn (S := Below W0.heap.size W0) 13 (by kernel_rfl) (by kernel_rfl) (below_drew W0) (fun hHeld => ?_)
  refine wpAnyW_takeD 0 15 (v := ?_) (by kernel_rfl) (by kernel_rfl) (by kernel_rfl) (by kernel_rfl) (fun _ _ _ h => h) ?_ (by assumption) ?_
  rotate_left
  · intro oi hoi w hSw; (try dsimp only at hSw); simp only [List.getElem?_toArray, List.getElem?_cons_zero, List.getElem?_cons_succ, Option.some.injEq] at hoi; subst hoi; go_simp; try with_reducible rfl
  simp only [Act.put, List.setIfInBounds_toArray, List.set_cons_zero, List.set_cons_succ]
  refine wpAnyW_takeD 1 16 (v := ?_) (by kernel_rfl) (by kernel_rfl) (by kernel_rfl) (by kernel_rfl) (fun _ _ _ h => h) ?_ (by assumption) ?_
  rotate_left
  · intro oi hoi w hSw; (try dsimp only at hSw); simp only [List.getElem?_toArray, List.getElem?_cons_zero, List.getElem?_cons_succ, Option.some.injEq] at hoi; subst hoi; go_simp; try with_reducible rfl
  simp only [Act.put, List.setIfInBounds_toArray, List.set_cons_zero, List.set_cons_succ]
  refine wpAnyW_takeD 2 17 (v := ?_) (by kernel_rfl) (by kernel_rfl) (by kernel_rfl) (by kernel_rfl) (fun _ _ _ h => h) ?_ (by assumption) ?_
  rotate_left
  · intro oi hoi w hSw; (try dsimp only at hSw); simp only [List.getElem?_toArray, List.getElem?_cons_zero, List.getElem?_cons_succ, Option.some.injEq] at hoi; subst hoi; go_simp; try with_reducible rfl
  simp only [Act.put, List.setIfInBounds_toArray, List.set_cons_zero, List.set_cons_succ]
  refine wpAnyW_takeD 3 18 (v := ?_) (by kernel_rfl) (by kernel_rfl) (by kernel_rfl) (by kernel_rfl) (fun _ _ _ h => h) ?_ (by assumption) ?_
  rotate_left
  · intro oi hoi w hSw; (try dsimp only at hSw); simp only [List.getElem?_toArray, List.getElem?_cons_zero, List.getElem?_cons_succ, Option.some.injEq] at hoi; subst hoi; go_simp; try with_reducible rfl
  simp only [Act.put, List.setIfInBounds_toArray, List.set_cons_zero, List.set_cons_succ]
  refine wpAnyW_takeD 4 19 (v := ?_) (by kernel_rfl) (by kernel_rfl) (by kernel_rfl) (by kernel_rfl) (fun _ _ _ h => h) ?_ (by assumption) ?_
  rotate_left
  · intro oi hoi w hSw; (try dsimp only at hSw); simp only [List.getElem?_toArray, List.getElem?_cons_zero, List.getElem?_cons_succ, Option.some.injEq] at hoi; subst hoi; go_simp; try with_reducible rfl
  simp only [Act.put, List.setIfInBounds_toArray, List.set_cons_zero, List.set_cons_succ]
  refine wpAnyW_takeD 5 20 (v := ?_) (by kernel_rfl) (by kernel_rfl) (by kernel_rfl) (by kernel_rfl) (fun _ _ _ h => h) ?_ (by assumption) ?_
  rotate_left
  · intro oi hoi w hSw; (try dsimp only at hSw); simp only [List.getElem?_toArray, List.getElem?_cons_zero, List.getElem?_cons_succ, Option.some.injEq] at hoi; subst hoi; go_simp; try with_reducible rfl
  simp only [Act.put, List.setIfInBounds_toArray, List.set_cons_zero, List.set_cons_succ]
  refine wpAnyW_one 6 (by kernel_rfl) (by kernel_rfl) ?_
  intro o ho K hK
  simp only [List.getElem?_toArray, List.getElem?_cons_zero, List.getElem?_cons_succ, Option.some.injEq] at ho
  subst ho
  go_simp
  rw [HWR.out]
  refine ⟨trivial, CallsIn.mono (callsIn_wide.2 (rin_any first 0 ((b.fs.length : Int) - 1) _)) ?_⟩
  rintro e w1 ⟨rfl, rfl⟩
  rw [HV.out]
  refine hK _ _ hHeld (fun _ => ?_)
  clear hK K
  try simp only [Act.put, List.setIfInBounds_toArray, List.set_cons_zero, List.set_cons_succ]
  refine wpAnyW_one 7 (by kernel_rfl) (by kernel_rfl) ?_
  intro o ho K hK
  simp only [List.getElem?_toArray, List.getElem?_cons_zero, List.getElem?_cons_succ, Option.some.injEq] at ho
  subst ho
  go_simp
  refine ⟨trivial, CallsIn.mono (callsIn_wide.2 (ropen_any b fa sa fc sc vd _ (HB.out.below (hb0.trans (hHeld.mono hb0.size))))) ?_⟩
  rintro e w2 ⟨a, c, rfl, hR, hb1⟩
  have hH2 := hHeld.trans (hb1.mono hHeld.size)
  have HJ := Lib.hid hR
  have HBW := Lib.hid (hb0.trans (hH2.mono hb0.size))
  have g2 := (hH2.block _ ltp).trans g0_W0
  clear hR hb1 hHeld
  refine hK _ _ hH2 (fun _ => ?_)
  clear hK K
  try simp only [Act.put, List.setIfInBounds_toArray, List.set_cons_zero, List.set_cons_succ]
  refine wpAnyW_takeD 8 14 (v := ?_) (by kernel_rfl) (by kernel_rfl) (by kernel_rfl) (by kernel_rfl) (fun _ _ _ h => h) ?_ (by assumption) ?_
  rotate_left
  · intro oi hoi w hSw; (try dsimp only at hSw); simp only [List.getElem?_toArray, List.getElem?_cons_zero, List.getElem?_cons_succ, Option.some.injEq] at hoi; subst hoi; go_simp; try with_reducible rfl
  simp only [Act.put, List.setIfInBounds_toArray, List.set_cons_zero, List.set_cons_succ]
  refine wpAnyW_takeD 9 23 (v := ?_) (by kernel_rfl) (by kernel_rfl) (by kernel_rfl) (by kernel_rfl) (fun _ _ _ h => h) ?_ (by assumption) ?_
  rotate_left
  · intro oi hoi w hSw; (try dsimp only at hSw); simp only [List.getElem?_toArray, List.getElem?_cons_zero, List.getElem?_cons_succ, Option.some.injEq] at hoi; subst hoi; go_simp; try with_reducible rfl
  simp only [Act.put, List.setIfInBounds_toArray, List.set_cons_zero, List.set_cons_succ]
  refine wpAnyW_takeD 10 24 (v := ?_) (by kernel_rfl) (by kernel_rfl) (by kernel_rfl) (by kernel_rfl) (fun _ _ _ h => h) ?_ (by assumption) ?_
  rotate_left
  · intro oi hoi w hSw; (try dsimp only at hSw); simp only [List.getElem?_toArray, List.getElem?_cons_zero, List.getElem?_cons_succ, Option.some.injEq] at hoi; subst hoi; go_simp; try with_reducible rfl
  simp only [Act.put, List.setIfInBounds_toArray, List.set_cons_zero, List.set_cons_succ]
  refine wpAnyW_takeD 11 7 (v := ?_) (by kernel_rfl) (by kernel_rfl) (by kernel_rfl) (by kernel_rfl) (fun _ _ _ h => h) ?_ (by assumption) ?_
  rotate_left
  · intro oi hoi w hSw; (try dsimp only at hSw); simp only [List.getElem?_toArray, List.getElem?_cons_zero, List.getElem?_cons_succ, Option.some.injEq] at hoi; subst hoi; go_simp; try with_reducible rfl
  simp only [Act.put, List.setIfInBounds_toArray, List.set_cons_zero, List.set_cons_succ]
  refine wpAnyW_takeD 12 8 (v := ?_) (by kernel_rfl) (by kernel_rfl) (by kernel_rfl) (by kernel_rfl) (fun _ _ _ h => h) ?_ (by assumption) ?_
  rotate_left
  · intro oi hoi w hSw; (try dsimp only at hSw); simp only [List.getElem?_toArray, List.getElem?_cons_zero, List.getElem?_cons_succ, Option.some.injEq] at hoi; subst hoi; go_simp; try with_reducible rfl
  simp only [Act.put, List.setIfInBounds_toArray, List.set_cons_zero, List.set_cons_succ]
  refine wpAnyW_done (by kernel_rfl) ?_ _
  dsimp only [onNormal]
  clear S0 S1 S2 S3 S4 S5 hH2 g0_W0 ltp hb0
  rcases rOpen_cases b vd with ⟨x, hro, hx0, hx1, hx2, hx4⟩ | ⟨hok, hv1, hro, hne⟩
  · rw [hro]
    have hxx : (x != 0) = true := by simpa using hx0
    have hres : bPairs b first = (0, 0, x) := by
      rw [HD.out, HIN.out]
      cases hok : b.ok
      · rw [hx1 hok]; rfl
      · cases hv : vd
        · rw [hx2 hok hv]; rfl
        · obtain ⟨h1, h2⟩ := hx4 hok hv
          rw [h1, h2]; rfl
    have HR := Lib.hid hres
    clear hres hx1 hx2 hx4 hro hx0
    go_wp2
    refine bodyPost_ret (v := .tuple #[.int .i64 0, .int .i64 0, .int .i64 x]) (by simp [results, Try.results20, go_sem]) rfl ⟨?_, HBW.out⟩
    rw [HR.out]; rfl
  · rw [hro] at HJ ⊢
    have hr1 : 0 ≤ first ∧ first ≤ (b.fs.length : Int) - 1 := by have := HIN.out; rw [hv1] at this; simpa using this
    obtain ⟨f, rfl⟩ := Int.eq_ofNat_of_zero_le hr1.1
    have hf : f < b.fs.length := by omega
    have hres : bPairs b (f : Int) = ((prsAt (allOf b (sures b.fs) (sures b.ss)) f).every, (prsAt (allOf b (sures b.fs) (sures b.ss)) f).some, 0) := by
      rw [HD.out, HIN.out, hok, hv1, if_pos rfl, if_pos rfl, if_neg hne]; rfl
    have JL := allOf_jlist hok hne
    rw [← every_eq JL hf, ← some_eq JL hf] at hres
    have HR := Lib.hid hres
    have hlen := allOf_len hok (sures b.fs) (sures b.ss)
    have HLEN := Lib.hid JL.len
    have hns := JL.l6.2
    clear hres hro hr1 hne hok hv1 JL
    generalize allOf b (sures b.fs) (sures b.ss) = L at HJ HR hlen HLEN ⊢
    have hli : (L.length : Int) ≤ 202591578 := by omega
    have hnsi : (b.ss.length : Int) ≤ 6 := by omega
    have hL0 : (0 : Int) ≤ (L.length : Int) := by omega
    have c5 := cell_block g2 5
    simp only [List.getElem?_toArray, List.getElem?_cons_zero, List.getElem?_cons_succ] at c5
    go_wp2_with fail
    go_loopw [9, 10, 11] (fun s t i wr => ∃ k : Nat, k ≤ b.ss.length ∧ i = .int .i64 k ∧ s = .int .i64 (maskOf (everyP L f) k) ∧ t = .int .i64 (maskOf (someP L f) k) ∧ wr = w2) (fun _ _ i _ => b.ss.length - (intOf i).toNat)
    case atStart => exact ⟨0, Nat.zero_le _, rfl, rfl, rfl, rfl⟩
    case round =>
      obtain ⟨k, hk, rfl, rfl, rfl, rfl⟩ := hrel
      obtain ⟨wo, rfl⟩ : ∃ x, x = wr := ⟨_, rfl⟩
      by_cases hlt : k < b.ss.length
      · have hki : (k : Int) < b.ss.length := by omega
        have hq1 : everyP L f k = decide (cntTo (isAt f k) L L.length = L.length) := rfl
        have hq2 : someP L f k = decide (0 < cntTo (isAt f k) L L.length) := rfl
        have hm1 := maskOf_put (everyP L f) k
        have hm2 := maskOf_put (someP L f) k
        have hp1 := maskOf_lt (everyP L f) k
        have hp2 := maskOf_lt (someP L f) k
        have hpp : 2 ^ k ≤ 64 := Nat.le_trans (Nat.pow_le_pow_right (by decide) (show k ≤ 6 by omega)) (by decide)
        have HQ1 := Lib.hid hq1
        have HQ2 := Lib.hid hq2
        have HM1 := Lib.hid hm1
        have HM2 := Lib.hid hm2
        generalize maskOf (everyP L f) k = M1 at HM1 hp1 ⊢
        generalize maskOf (someP L f) k = M2 at HM2 hp2 ⊢
        have hM1 : (M1 : Int) ≤ 64 := by omega
        have hM2 : (M2 : Int) ≤ 64 := by omega
        have hpk : ((2 ^ k : Nat) : Int) ≤ 64 := by omega
        clear hq1 hq2 hm1 hm2 hp1 hp2 hpp
        have hpw := fun W => power_any k (show k ≤ 20 by omega) W
        generalize 2 ^ k = P at HM1 HM2 hpk hpw
        have HPW := Lib.hid hpw
        clear hpw
        go_wp2_with fail
        go_loopw [12, 13] (fun n j wr => ∃ m : Nat, m ≤ L.length ∧ j = .int .i64 m ∧ n = .int .i64 (cntTo (isAt f k) L m) ∧ wr = wo) (fun _ j _ => L.length - (intOf j).toNat)
        case atStart => exact ⟨0, Nat.zero_le _, rfl, by rw [cntTo_zero]; rfl, rfl⟩
        case round =>
          obtain ⟨m, hm, rfl, rfl, rfl⟩ := hrel
          by_cases hlt2 : m < L.length
          · have hmi : (m : Int) < L.length := by omega
            obtain ⟨g, rfl, hg, h0, h1, ea, ec, h2, hI⟩ := HJ.out m hlt2
            have hlz : L[m].2.length = b.fs.length := HLEN.out _ (List.getElem_mem _)
            obtain ⟨q, o, rfl, hq, hc⟩ := hI f (by omega)
            have hcs := cntTo_succ (isAt f k) L m hlt2
            have hle := cntTo_le (isAt f k) L m
            have his : isAt f k L[m] = (L[m].2[f]'(by omega) == (k : Int)) := by unfold isAt; rw [getD_get (by omega)]
            rw [his] at hcs
            have hfi : (f : Int) < (L[m].2.length : Int) := by omega
            generalize L[m].2[f]'(by omega) = x at hc hcs his
            generalize L[m].2.length = N at h2 hlz hfi
            have HCS := Lib.hid hcs
            clear hcs his hI h0 h1 hlz
            generalize cntTo (isAt f k) L m = n at HCS hle ⊢
            have hni : (n : Int) ≤ 202591578 := by omega
            clear hle
            by_cases hxk : x = (k : Int)
            · have he : (x == (k : Int)) = true := by simpa using hxk
              have HXK := Lib.hid hxk
              clear hxk
              go_wp2_with fail
              go_roundw
              case rel => exact ⟨m + 1, by omega, by go_num, by rw [HCS.out, HXK.out]; simp, trivial⟩
              case measure => simp [intOf]; omega
            · have he : (x == (k : Int)) = false := by simpa using hxk
              have HXK := Lib.hid he
              clear hxk
              go_wp2_with fail
              go_roundw
              case rel => exact ⟨m + 1, by omega, by go_num, by rw [HCS.out, HXK.out]; simp, trivial⟩
              case measure => simp [intOf]; omega
          · obtain rfl : m = L.length := by omega
            have hle := cntTo_le (isAt f k) L L.length
            generalize cntTo (isAt f k) L L.length = n at HQ1 HQ2 hle ⊢
            have hni : (n : Int) ≤ 202591578 := by omega
            by_cases hn1 : n = L.length
            · have e1 : ((n : Int) == (L.length : Int)) = true := by rw [hn1]; simp
              have HN1 := Lib.hid hn1
              clear hn1
              by_cases hn2 : 0 < n
              · have e2 : (0 : Int) < (n : Int) := by omega
                go_wp2_with fail
                refine (HPW.out _).mono ?_
                rintro e w' ⟨rfl, rfl⟩
                go_wp2_with fail
                refine (HPW.out _).mono ?_
                rintro e w' ⟨rfl, rfl⟩
                go_wp2_with fail
                go_roundw
                case rel => exact ⟨k + 1, by omega, by go_num, by rw [← HM1.out, HQ1.out, decide_eq_true HN1.out, if_pos rfl]; go_num, by rw [← HM2.out, HQ2.out, decide_eq_true hn2, if_pos rfl]; go_num, trivial⟩
                case measure => simp [intOf]; omega
              · have e2 : ¬ (0 : Int) < (n : Int) := by omega
                go_wp2_with fail
                refine (HPW.out _).mono ?_
                rintro e w' ⟨rfl, rfl⟩
                go_wp2_with fail
                go_roundw
                case rel => exact ⟨k + 1, by omega, by go_num, by rw [← HM1.out, HQ1.out, decide_eq_true HN1.out, if_pos rfl]; go_num, by rw [← HM2.out, HQ2.out, decide_eq_false hn2, if_neg (by simp)]; go_num, trivial⟩
                case measure => simp [intOf]; omega
            · have e1 : ((n : Int) == (L.length : Int)) = false := by simp; omega
              have HN1 := Lib.hid hn1
              clear hn1
              by_cases hn2 : 0 < n
              · have e2 : (0 : Int) < (n : Int) := by omega
                go_wp2_with fail
                refine (HPW.out _).mono ?_
                rintro e w' ⟨rfl, rfl⟩
                go_wp2_with fail
                go_roundw
                case rel => exact ⟨k + 1, by omega, by go_num, by rw [← HM1.out, HQ1.out, decide_eq_false HN1.out, if_neg (by simp)]; go_num, by rw [← HM2.out, HQ2.out, decide_eq_true hn2, if_pos rfl]; go_num, trivial⟩
                case measure => simp [intOf]; omega
              · have e2 : ¬ (0 : Int) < (n : Int) := by omega
                go_wp2_with fail
                go_roundw
                case rel => exact ⟨k + 1, by omega, by go_num, by rw [← HM1.out, HQ1.out, decide_eq_false HN1.out, if_neg (by simp)]; go_num, by rw [← HM2.out, HQ2.out, decide_eq_false hn2, if_neg (by simp)]; go_num, trivial⟩
                case measure => simp [intOf]; omega
      · obtain rfl : k = b.ss.length := by omega
        go_wp2_with fail
        refine bodyPost_ret (v := .tuple #[.int .i64 (maskOf (everyP L f) b.ss.length), .int .i64 (maskOf (someP L f) b.ss.length), .int .i64 0]) (by simp [results, Try.results20, go_sem]) rfl ⟨?_, HBW.out⟩
        rw [HR.out]
end Go.Proofs.Ytjkegmjjhdmkiaa
