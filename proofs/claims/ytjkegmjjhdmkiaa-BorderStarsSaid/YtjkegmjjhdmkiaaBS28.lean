/- The document's answer: which stars a star surely is, and can be; which stars have no counterpart. The document's answer: which stars have no counterpart, walked. The document's answer: the best shift and its joining, walked. -/
import Derived.Test.YtjkegmjjhdmkiaaBS27
import Derived.Test.YtjkegmjjhdmkiaaBS21
namespace Go.Proofs.Ytjkegmjjhdmkiaa
open Go.RowKit Go.Shelf
set_option maxHeartbeats 12800000
set_option maxRecDepth 100000
set_option linter.unusedSimpArgs false

/-- What is opened: the error, or all joinings. -/
theorem rOpen_cases (b : Bo) (valid : Bool) : (∃ x : Int, rOpen b valid = ([], x) ∧ x ≠ 0 ∧ (b.ok = false → x = 1) ∧ (b.ok = true → valid = false → x = 2) ∧ (b.ok = true → valid = true → x = 4 ∧ allOf b (sures b.fs) (sures b.ss) = [])) ∨
    (b.ok = true ∧ valid = true ∧ rOpen b valid = (allOf b (sures b.fs) (sures b.ss), 0) ∧ allOf b (sures b.fs) (sures b.ss) ≠ []) := by
  unfold rOpen
  cases hok : b.ok
  · exact .inl ⟨1, by simp, by decide, by simp, by simp, by simp⟩
  · cases valid
    · exact .inl ⟨2, by simp, by decide, by simp, by simp, by simp⟩
    · by_cases h : allOf b (sures b.fs) (sures b.ss) = []
      · exact .inl ⟨4, by simp [h], by decide, by simp, by simp, by simp [h]⟩
      · exact .inr ⟨rfl, rfl, by simp [h], h⟩

theorem allOf_len {b : Bo} (hok : b.ok = true) (f s : Nat) : (allOf b f s).length ≤ 202591578 := by
  have h := (ok_iff b).1 hok
  have hE : eastN b ≤ 41 := by unfold eastN; omega
  have hN : northN b ≤ 41 := by unfold northN; omega
  have := joinedTo_len hok f s (eastN b) 0 hE (by omega) hN
  have e : shiftRow b (eastN b) 0 = [] := rfl
  rw [e, List.append_nil] at this
  exact this

theorem maskOf_put (p : Nat → Bool) (n : Nat) : maskOf p n + (if p n then 2 ^ n else 0) = maskOf p (n + 1) := by
  show _ = maskOf p n ||| (if p n then 2 ^ n else 0)
  split
  · have h := Nat.two_pow_add_eq_or_of_lt (maskOf_lt p n) 1
    rw [Nat.mul_one] at h
    rw [Nat.or_comm, ← h, Nat.add_comm]
  · simp

/-- How many of the first m joinings have a property. -/
def cntTo (p : Joined → Bool) (L : List Joined) (m : Nat) : Nat := ((L.take m).filter p).length
theorem cntTo_zero (p : Joined → Bool) (L : List Joined) : cntTo p L 0 = 0 := by simp [cntTo]
theorem cntTo_succ (p : Joined → Bool) (L : List Joined) (m : Nat) (h : m < L.length) : cntTo p L (m + 1) = cntTo p L m + if p L[m] then 1 else 0 := by
  unfold cntTo
  rw [List.take_succ_eq_append_getElem h, List.filter_append, List.length_append]
  cases hp : p L[m] <;> simp [hp]
theorem cntTo_le (p : Joined → Bool) (L : List Joined) (m : Nat) : cntTo p L m ≤ m := Nat.le_trans (List.length_filter_le _ _) (by simp; omega)
theorem cntTo_all (p : Joined → Bool) (L : List Joined) : cntTo p L L.length = L.length ↔ ∀ z ∈ L, p z = true := by
  unfold cntTo
  rw [List.take_length, List.length_filter_eq_length_iff]
theorem cntTo_none (p : Joined → Bool) (L : List Joined) : cntTo p L L.length = 0 ↔ ∀ z ∈ L, p z = false := by
  unfold cntTo
  rw [List.take_length, List.length_eq_zero_iff, List.filter_eq_nil_iff]
  refine forall_congr' fun z => imp_congr_right fun _ => by simp

def isAt (f : Nat) (k : Nat) (z : Joined) : Bool := z.2.getD f (-1) == (k : Int)
def inPair (f : Nat) (z : Joined) : Bool := z.2.getD f (-1) != -1
def hasIt (k : Nat) (z : Joined) : Bool := z.2.contains (k : Int)
def everyP (L : List Joined) (f k : Nat) : Bool := decide (cntTo (isAt f k) L L.length = L.length)
def someP (L : List Joined) (f k : Nat) : Bool := decide (0 < cntTo (isAt f k) L L.length)
def noneF (L : List Joined) (f : Nat) : Bool := decide (cntTo (inPair f) L L.length = 0)
def noneS (L : List Joined) (k : Nat) : Bool := decide (cntTo (hasIt k) L L.length = 0)

theorem maskOf_eq {p : Nat → Bool} {n x : Nat} (hx : x < 2 ^ n) (h : ∀ k, k < n → x.testBit k = p k) : maskOf p n = x := by
  refine Nat.eq_of_testBit_eq (fun k => ?_)
  rw [maskOf_testBit]
  by_cases hk : k < n
  · simp [hk, h k hk]
  · rw [Nat.testBit_lt_two_pow (Nat.lt_of_lt_of_le hx (Nat.pow_le_pow_right (by omega) (by omega)))]
    simp [hk]
theorem every_eq {b : Bo} {L : List Joined} (J : JList b L) {f : Nat} (hf : f < b.fs.length) : maskOf (everyP L f) b.ss.length = (prsAt L f).every :=
  maskOf_eq (prsAt_lt J hf).1 fun k _ => by
    unfold everyP
    rw [Bool.eq_iff_iff, prsAt_every J hf, decide_eq_true_eq, cntTo_all]
    exact forall_congr' fun z => imp_congr_right fun _ => by simp [isAt]
theorem some_eq {b : Bo} {L : List Joined} (J : JList b L) {f : Nat} (hf : f < b.fs.length) : maskOf (someP L f) b.ss.length = (prsAt L f).some :=
  maskOf_eq (prsAt_lt J hf).2 fun k _ => by
    unfold someP
    rw [Bool.eq_iff_iff, prsAt_some J hf, decide_eq_true_eq, Nat.pos_iff_ne_zero, Ne, cntTo_none]
    constructor
    · rintro ⟨z, hz, h⟩ hall
      have := hall z hz
      simp [isAt] at this
      exact this h
    · intro h
      apply Classical.byContradiction
      intro hn
      apply h
      intro z hz
      cases hi : isAt f k z
      · rfl
      · exact absurd ⟨z, hz, by simpa [isAt] using hi⟩ hn
theorem noneF_eq {b : Bo} {L : List Joined} (J : JList b L) : maskOf (noneF L) b.fs.length = andN (2 ^ b.fs.length - 1) (allFirst (L.map (·.2))) := by
  have hp : 2 ^ b.fs.length ≤ 2 ^ 6 := Nat.pow_le_pow_right (by omega) J.l6.1
  have hp1 := Nat.two_pow_pos b.fs.length
  have hlt : allFirst (L.map (·.2)) < 2 ^ b.fs.length := allFirst_lt _ (fun x hx => by
    obtain ⟨z, hz, rfl⟩ := List.mem_map.1 hx
    exact Nat.le_of_eq (J.len z hz))
  refine maskOf_eq ?_ fun k hk => ?_
  · exact Nat.lt_of_le_of_lt Nat.and_le_left (by omega)
  · unfold noneF
    rw [andN_testBit _ _ k (by omega) (by have := J.l6.1; omega), Bool.eq_iff_iff, decide_eq_true_eq, cntTo_none, Nat.testBit_two_pow_sub_one]
    cases ha : (allFirst (L.map (·.2))).testBit k
    · simp only [hk, decide_true, Bool.not_false, Bool.and_self, true_iff]
      intro z hz
      have h0 : (prsAt L k).some = 0 := Classical.byContradiction fun h => by
        have := (allFirst_at J k hk).2 h
        rw [ha] at this; cases this
      have := (prsAt_zero J hk).1 h0 z hz
      unfold inPair
      rw [this]
      rfl
    · simp only [Bool.not_true, Bool.and_false, Bool.false_eq_true, false_iff]
      intro hall
      refine (allFirst_at J k hk).1 ha ((prsAt_zero J hk).2 fun z hz => ?_)
      have := hall z hz
      simpa [inPair] using this
theorem noneS_eq {b : Bo} {L : List Joined} (J : JList b L) : maskOf (noneS L) b.ss.length = andN (2 ^ b.ss.length - 1) (allSecond (L.map (·.2))) := by
  have hp : 2 ^ b.ss.length ≤ 2 ^ 6 := Nat.pow_le_pow_right (by omega) J.l6.2
  have hp1 := Nat.two_pow_pos b.ss.length
  have hlt : allSecond (L.map (·.2)) < 2 ^ b.ss.length := allSecond_lt _ (fun x hx => by
    obtain ⟨z, hz, rfl⟩ := List.mem_map.1 hx
    exact jent J hz)
  refine maskOf_eq ?_ fun k hk => ?_
  · exact Nat.lt_of_le_of_lt Nat.and_le_left (by omega)
  · unfold noneS
    have hb : (allSecond (L.map (·.2))).testBit k = true ↔ ∃ z ∈ L, (k : Int) ∈ z.2 := by
      rw [allSecond_bit, List.any_map, List.any_eq_true]
      refine exists_congr fun z => and_congr_right fun hz => ?_
      simp only [Function.comp]
      exact jSecond_bit z.2 (fun y hy => (jent J hz y hy).imp id (fun h => h.1)) k
    rw [andN_testBit _ _ k (by omega) (by have := J.l6.2; omega), Bool.eq_iff_iff, decide_eq_true_eq, cntTo_none, Nat.testBit_two_pow_sub_one]
    cases ha : (allSecond (L.map (·.2))).testBit k
    · simp only [hk, decide_true, Bool.not_false, Bool.and_self, true_iff]
      intro z hz
      cases h : hasIt k z
      · rfl
      · have := hb.2 ⟨z, hz, by simpa [hasIt] using h⟩
        rw [ha] at this; cases this
    · simp only [Bool.not_true, Bool.and_false, Bool.false_eq_true, false_iff]
      intro hall
      obtain ⟨z, hz, h⟩ := hb.1 ha
      have := hall z hz
      simp [hasIt, h] at this

end Go.Proofs.Ytjkegmjjhdmkiaa
namespace Go.Proofs.Ytjkegmjjhdmkiaa
open Go.RowKit Go.Shelf
set_option maxHeartbeats 12800000
set_option maxRecDepth 100000
set_option linter.unusedSimpArgs false

theorem ralone_any (b : Bo) (fa sa : Option Addr) (fc sc : Nat) (w : World) (hb : BoArg w b fa sa) :
    Calls Try.prog 22 #[.agg #[.int .i64 b.e.lo, .int .i64 b.e.hi, .int .i64 b.n.lo, .int .i64 b.n.hi, .slice fa b.fs.length fc, .slice sa b.ss.length sc]] w (AlonePost b w) := by
  have hdef : bAlone b = if b.ok then if allOf b (sures b.fs) (sures b.ss) = [] then (0, 0, 4) else (andN (2 ^ b.fs.length - 1) (allFirst ((allOf b (sures b.fs) (sures b.ss)).map (·.2))), andN (2 ^ b.ss.length - 1) (allSecond ((allOf b (sures b.fs) (sures b.ss)).map (·.2))), 0) else (0, 0, 1) := rfl
  have HD := Lib.hid hdef
  have HB := Lib.hid hb
  clear hb hdef
  go_enter Try.func22, Try.ntmps22
  go_wp2_with fail
  obtain ⟨W0, hW0⟩ : ∃ W, (w.alloc (.cells #[.int .i64 b.e.lo, .int .i64 b.e.hi, .int .i64 b.n.lo, .int .i64 b.n.hi, .slice fa b.fs.length fc, .slice sa b.ss.length sc] 26)) = W := ⟨_, rfl⟩
  rw [hW0]
  try simp only [Nat.add_assoc, Nat.reduceAdd]
  have hst_W0 : Steps (fun _ => False) w W0 := by rw [← hW0]; exact Steps.alloc _ w _
  have hz_W0 : W0.heap.size = w.heap.size + 1 := by rw [← hW0]; simp
  have g0_W0 : W0.heap[w.heap.size]? = some (.cells #[.int .i64 b.e.lo, .int .i64 b.e.hi, .int .i64 b.n.lo, .int .i64 b.n.hi, .slice fa b.fs.length fc, .slice sa b.ss.length sc] 26) := by rw [← hW0]; simp only [alloc_get, World.size_alloc]; repeat (first | exact if_pos trivial | exact if_pos (by omega) | rw [if_neg (by omega)])
  clear hW0
  have hb0 : Below w.heap.size w W0 := hst_W0.below (Nat.le_refl _) (fun _ _ h => h)
  have ltp := (Array.getElem?_eq_some_iff.1 g0_W0).1
  clear hst_W0 hz_W0
  refine (ropen_any b fa sa fc sc true _ (HB.out.below hb0)).mono ?_
  rintro e w2 ⟨a, c, rfl, hR, hb1⟩
  have HJ := Lib.hid hR
  have HBW := Lib.hid (hb0.trans (hb1.mono hb0.size))
  have g2 := (hb1.block _ ltp).trans g0_W0
  clear hR hb1 ltp g0_W0 hb0
  rcases rOpen_cases b true with ⟨x, hro, hx0, hx1, hx2, hx4⟩ | ⟨hok, _, hro, hne⟩
  · rw [hro]
    have hxx : (x != 0) = true := by simpa using hx0
    have hres : bAlone b = (0, 0, x) := by
      rw [HD.out]
      cases hok : b.ok
      · rw [hx1 hok]; rfl
      · obtain ⟨h1, h2⟩ := hx4 hok rfl
        rw [h1, h2]; rfl
    have HR := Lib.hid hres
    clear hres hx1 hx2 hx4 hro hx0
    go_wp2
    refine bodyPost_ret (v := .tuple #[.int .i64 0, .int .i64 0, .int .i64 x]) (by simp [results, Try.results22, go_sem]) rfl ⟨?_, HBW.out⟩
    rw [HR.out]; rfl
  · rw [hro] at HJ ⊢
    have hres : bAlone b = (andN (2 ^ b.fs.length - 1) (allFirst ((allOf b (sures b.fs) (sures b.ss)).map (·.2))), andN (2 ^ b.ss.length - 1) (allSecond ((allOf b (sures b.fs) (sures b.ss)).map (·.2))), 0) := by
      rw [HD.out, hok, if_pos rfl, if_neg hne]
    have JL := allOf_jlist hok hne
    rw [← noneF_eq JL, ← noneS_eq JL] at hres
    have HR := Lib.hid hres
    have hlen := allOf_len hok (sures b.fs) (sures b.ss)
    have HLEN := Lib.hid JL.len
    have hns := JL.l6.2
    have hnf := JL.l6.1
    clear hres hro hne hok JL
    generalize allOf b (sures b.fs) (sures b.ss) = L at HJ HR hlen HLEN ⊢
    have hli : (L.length : Int) ≤ 202591578 := by omega
    have hnsi : (b.ss.length : Int) ≤ 6 := by omega
    have hnfi : (b.fs.length : Int) ≤ 6 := by omega
    have c0 := cell_block g2 0
    have c1 := cell_block g2 1
    have c2 := cell_block g2 2
    have c3 := cell_block g2 3
    have c4 := cell_block g2 4
    have c5 := cell_block g2 5
    simp only [List.getElem?_toArray, List.getElem?_cons_zero, List.getElem?_cons_succ] at c0 c1 c2 c3 c4 c5
    go_wp2_with fail
    go_loopw [7, 9] (fun s i wr => ∃ k : Nat, k ≤ b.fs.length ∧ i = .int .i64 k ∧ s = .int .i64 (maskOf (noneF L) k) ∧ wr = w2) (fun _ i _ => b.fs.length - (intOf i).toNat)
    case atStart => exact ⟨0, Nat.zero_le _, rfl, rfl, rfl⟩
    case round =>
      obtain ⟨k, hk, rfl, rfl, rfl⟩ := hrel
      obtain ⟨wo, rfl⟩ : ∃ x, x = wr := ⟨_, rfl⟩
      by_cases hlt : k < b.fs.length
      · have hki : (k : Int) < b.fs.length := by omega
        have hq1 : noneF L k = decide (cntTo (inPair k) L L.length = 0) := rfl
        have hm1 := maskOf_put (noneF L) k
        have hp1 := maskOf_lt (noneF L) k
        have hpp : 2 ^ k ≤ 64 := Nat.le_trans (Nat.pow_le_pow_right (by decide) (show k ≤ 6 by omega)) (by decide)
        have HQ1 := Lib.hid hq1
        have HM1 := Lib.hid hm1
        generalize maskOf (noneF L) k = M1 at HM1 hp1 ⊢
        have hM1 : (M1 : Int) ≤ 64 := by omega
        have hpk : ((2 ^ k : Nat) : Int) ≤ 64 := by omega
        clear hq1 hm1 hp1 hpp
        have hpw := fun W => power_any k (show k ≤ 20 by omega) W
        generalize 2 ^ k = P at HM1 hpk hpw
        have HPW := Lib.hid hpw
        clear hpw
        go_wp2_with fail
        go_loopw [10, 11] (fun n j wr => ∃ m : Nat, m ≤ L.length ∧ j = .int .i64 m ∧ n = .int .i64 (cntTo (inPair k) L m) ∧ wr = wo) (fun _ j _ => L.length - (intOf j).toNat)
        case atStart => exact ⟨0, Nat.zero_le _, rfl, by rw [cntTo_zero]; rfl, rfl⟩
        case round =>
          obtain ⟨m, hm, rfl, rfl, rfl⟩ := hrel
          by_cases hlt2 : m < L.length
          · have hmi : (m : Int) < L.length := by omega
            obtain ⟨g, rfl, hg, h0, h1, ea, ec, h2, hI⟩ := HJ.out m hlt2
            have hlz : L[m].2.length = b.fs.length := HLEN.out _ (List.getElem_mem _)
            have hcs := cntTo_succ (inPair k) L m hlt2
            have hle := cntTo_le (inPair k) L m
            obtain ⟨q, o, rfl, hq, hc⟩ := hI k (by omega)
            have his : inPair k L[m] = (L[m].2[k]'(by omega) != -1) := by unfold inPair; rw [getD_get (by omega)]
            rw [his] at hcs
            have hfi : (k : Int) < (L[m].2.length : Int) := by omega
            generalize L[m].2[k]'(by omega) = x at hc hcs his
            generalize L[m].2.length = N at h2 hlz hfi
            have HCS := Lib.hid hcs
            clear hcs his hI h0 h1 hlz
            generalize cntTo (inPair k) L m = n at HCS hle ⊢
            have hni : (n : Int) ≤ 202591578 := by omega
            clear hle
            cases he : (x != -1)
            · have HXK := Lib.hid he
              go_wp2_with fail
              go_roundw
              case rel => exact ⟨m + 1, by omega, by go_num, by rw [HCS.out, HXK.out]; simp, trivial⟩
              case measure => simp [intOf]; omega
            · have HXK := Lib.hid he
              go_wp2_with fail
              go_roundw
              case rel => exact ⟨m + 1, by omega, by go_num, by rw [HCS.out, HXK.out]; simp, trivial⟩
              case measure => simp [intOf]; omega
          · obtain rfl : m = L.length := by omega
            have hle := cntTo_le (inPair k) L L.length
            generalize cntTo (inPair k) L L.length = n at HQ1 hle ⊢
            by_cases hn1 : n = 0
            · have e1 : ((n : Int) == 0) = true := by rw [hn1]; rfl
              have HN1 := Lib.hid hn1
              clear hn1
              go_wp2_with fail
              refine (HPW.out _).mono ?_
              rintro e w' ⟨rfl, rfl⟩
              go_wp2_with fail
              go_roundw
              case rel => exact ⟨k + 1, by omega, by go_num, by rw [← HM1.out, HQ1.out, decide_eq_true HN1.out, if_pos rfl]; go_num, trivial⟩
              case measure => simp [intOf]; omega
            · have e1 : ((n : Int) == 0) = false := by simp; omega
              have HN1 := Lib.hid hn1
              clear hn1
              go_wp2_with fail
              go_roundw
              case rel => exact ⟨k + 1, by omega, by go_num, by rw [← HM1.out, HQ1.out, decide_eq_false HN1.out, if_neg (by simp)]; go_num, trivial⟩
              case measure => simp [intOf]; omega
      · obtain rfl : k = b.fs.length := by omega
        go_wp2_with fail
        go_loopw [8, 12] (fun s i wr => ∃ k : Nat, k ≤ b.ss.length ∧ i = .int .i64 k ∧ s = .int .i64 (maskOf (noneS L) k) ∧ wr = wo) (fun _ i _ => b.ss.length - (intOf i).toNat)
        case atStart => exact ⟨0, Nat.zero_le _, rfl, rfl, rfl⟩
        case round =>
          obtain ⟨k, hk, rfl, rfl, rfl⟩ := hrel
          obtain ⟨wz, rfl⟩ : ∃ x, x = wr := ⟨_, rfl⟩
          by_cases hlt : k < b.ss.length
          · have hki : (k : Int) < b.ss.length := by omega
            have hq1 : noneS L k = decide (cntTo (hasIt k) L L.length = 0) := rfl
            have hm1 := maskOf_put (noneS L) k
            have hp1 := maskOf_lt (noneS L) k
            have hpp : 2 ^ k ≤ 64 := Nat.le_trans (Nat.pow_le_pow_right (by decide) (show k ≤ 6 by omega)) (by decide)
            have HQ1 := Lib.hid hq1
            have HM1 := Lib.hid hm1
            generalize maskOf (noneS L) k = M1 at HM1 hp1 ⊢
            have hM1 : (M1 : Int) ≤ 64 := by omega
            have hpk : ((2 ^ k : Nat) : Int) ≤ 64 := by omega
            clear hq1 hm1 hp1 hpp
            have hpw := fun W => power_any k (show k ≤ 20 by omega) W
            generalize 2 ^ k = P at HM1 hpk hpw
            have HPW := Lib.hid hpw
            clear hpw
            go_wp2_with fail
            go_loopw [13, 14] (fun n j wr => ∃ m : Nat, m ≤ L.length ∧ j = .int .i64 m ∧ n = .int .i64 (cntTo (hasIt k) L m) ∧ wr = wz) (fun _ j _ => L.length - (intOf j).toNat)
            case atStart => exact ⟨0, Nat.zero_le _, rfl, by rw [cntTo_zero]; rfl, rfl⟩
            case round =>
              obtain ⟨m, hm, rfl, rfl, rfl⟩ := hrel
              by_cases hlt2 : m < L.length
              · have hmi : (m : Int) < L.length := by omega
                obtain ⟨g, rfl, hg, h0, h1, ea, ec, h2, hI⟩ := HJ.out m hlt2
                have hlz : L[m].2.length = b.fs.length := HLEN.out _ (List.getElem_mem _)
                have hcs := cntTo_succ (hasIt k) L m hlt2
                have hle := cntTo_le (hasIt k) L m
                have his : hasIt k L[m] = L[m].2.contains (k : Int) := rfl
                rw [his] at hcs
                have hha := rhasl_any ea ec L[m].2 (k : Int) wr hI (by omega)
                generalize L[m].2.contains (k : Int) = x at hha hcs his
                generalize L[m].2.length = N at h2 hlz hha
                have HCS := Lib.hid hcs
                have HHA := Lib.hid hha
                clear hcs his hI h0 h1 hlz hha
                generalize cntTo (hasIt k) L m = n at HCS hle ⊢
                have hni : (n : Int) ≤ 202591578 := by omega
                clear hle
                go_wp2_with fail
                refine HHA.out.mono ?_
                rintro e w' ⟨rfl, rfl⟩
                cases x
                · go_wp2_with fail
                  go_roundw
                  case rel => exact ⟨m + 1, by omega, by go_num, by rw [HCS.out]; simp, trivial⟩
                  case measure => simp [intOf]; omega
                · go_wp2_with fail
                  go_roundw
                  case rel => exact ⟨m + 1, by omega, by go_num, by rw [HCS.out]; simp, trivial⟩
                  case measure => simp [intOf]; omega
              · obtain rfl : m = L.length := by omega
                have hle := cntTo_le (hasIt k) L L.length
                generalize cntTo (hasIt k) L L.length = n at HQ1 hle ⊢
                by_cases hn1 : n = 0
                · have e1 : ((n : Int) == 0) = true := by rw [hn1]; rfl
                  have HN1 := Lib.hid hn1
                  clear hn1
                  go_wp2_with fail
                  refine (HPW.out _).mono ?_
                  rintro e w' ⟨rfl, rfl⟩
                  go_wp2_with fail
                  go_roundw
                  case rel => exact ⟨k + 1, by omega, by go_num, by rw [← HM1.out, HQ1.out, decide_eq_true HN1.out, if_pos rfl]; go_num, trivial⟩
                  case measure => simp [intOf]; omega
                · have e1 : ((n : Int) == 0) = false := by simp; omega
                  have HN1 := Lib.hid hn1
                  clear hn1
                  go_wp2_with fail
                  go_roundw
                  case rel => exact ⟨k + 1, by omega, by go_num, by rw [← HM1.out, HQ1.out, decide_eq_false HN1.out, if_neg (by simp)]; go_num, trivial⟩
                  case measure => simp [intOf]; omega
          · obtain rfl : k = b.ss.length := by omega
            go_wp2_with fail
            refine bodyPost_ret (v := .tuple #[.int .i64 (maskOf (noneF L) b.fs.length), .int .i64 (maskOf (noneS L) b.ss.length), .int .i64 0]) (by simp [results, Try.results22, go_sem]) rfl ⟨?_, HBW.out⟩
            rw [HR.out]
end Go.Proofs.Ytjkegmjjhdmkiaa
namespace Go.Proofs.Ytjkegmjjhdmkiaa
open Go.RowKit Go.Shelf
set_option maxHeartbeats 12800000
set_option maxRecDepth 100000
set_option linter.unusedSimpArgs false
set_option linter.unusedVariables false

/-- The first of those with the most pairs, from a first one on. -/
def bestFrom (y : Joined) (L : List Joined) : Joined := L.foldl (fun y z => if pairsIn y.2 < pairsIn z.2 then z else y) y
theorem bestFrom_succ (y : Joined) (L : List Joined) (k : Nat) (h : k < L.length) : bestFrom y (L.take (k + 1)) = if pairsIn (bestFrom y (L.take k)).2 < pairsIn L[k].2 then L[k] else bestFrom y (L.take k) := by
  unfold bestFrom
  rw [List.take_succ_eq_append_getElem h, List.foldl_append]
  rfl
theorem bestOf_to (L : List Joined) (h : 0 < L.length) : ∀ k, 0 < k → k ≤ L.length → bestOf (L.take k) = some (bestFrom L[0] (L.take k)) := by
  intro k
  induction k with
  | zero => intro h0; cases h0
  | succ k ih =>
    intro _ hk
    rw [bestFrom_succ _ _ _ hk, List.take_succ_eq_append_getElem hk, bestOf_snoc]
    by_cases h0 : k = 0
    · subst h0
      show some L[0] = some (if pairsIn L[0].2 < pairsIn L[0].2 then L[0] else L[0])
      rw [if_neg (by omega)]
    · rw [ih (by omega) (by omega)]
      show (if _ then _ else _) = _
      split <;> rfl
theorem bestOf_from (L : List Joined) (h : 0 < L.length) : bestOf L = some (bestFrom L[0] L) := by
  have := bestOf_to L h L.length h (Nat.le_refl _)
  rwa [List.take_length] at this

/-- What is returned of the best. -/
def RBestOut (w' : World) (e : Ending) : Option Joined × Int → Prop
  | (none, x) => e = .returned (.tuple #[.int .i64 0, .int .i64 0, .slice none 0 0, .int .i64 x])
  | (some y, x) => ∃ a cap, e = .returned (.tuple #[.int .i64 y.1.1, .int .i64 y.1.2, .slice a y.2.length cap, .int .i64 x]) ∧ IntsV w' a y.2
def RBestPost (b : Bo) (w : World) (e : Ending) (w' : World) : Prop := RBestOut w' e (bBest b) ∧ Below w.heap.size w w'

theorem three_same {w : World} {p : Nat} {x0 x1 x2 : Value} (v0 v1 v2 : Value) {T : TypeId} (h : w.heap[p]? = some (.cells #[x0, x1, x2] T)) : (((w.setCell ⟨p, 0, none⟩ v0).setCell ⟨p, 1, none⟩ v1).setCell ⟨p, 2, none⟩ v2).heap[p]? = some (.cells #[v0, v1, v2] T) :=
  heap_setCell_same _ _ 2 _ _ v2 (heap_setCell_same _ _ 1 _ _ v1 (heap_setCell_same _ _ 0 _ _ v0 h))
theorem three_below {w w' : World} {p B : Nat} (v0 v1 v2 : Value) (h : Below B w w') (hB : B ≤ p) : Below B w (((w'.setCell ⟨p, 0, none⟩ v0).setCell ⟨p, 1, none⟩ v1).setCell ⟨p, 2, none⟩ v2) :=
  ((h.setCell (by exact hB) _).setCell (by exact hB) _).setCell (by exact hB) _

theorem best_reg8 (g n c k q : Nat) (ea da : Option Addr) (ec dc : Nat) (xs ys : List Int) (wA : World) {z0 z1 z2 z3 z4 z5 z7 z10 z11 z12 z13 z14 z15 z16 z17 z18 z19 z20 z21 z22 z23 z24 z25 z26 z27 z28 z29 z30 z31 z32 z33 z34 z35 z36 z37 z38 z39 z40 z41 z42 z43 z44 z45 z46 : Value}
    (hx : wA.cell? ⟨g, k * 3 + 2, none⟩ = some (.slice ea xs.length ec)) (hy : wA.cell? ⟨q, 2, none⟩ = some (.slice da ys.length dc)) (hX : IntsV wA ea xs) (hY : IntsV wA da ys) (hxl : xs.length ≤ 100) (hyl : ys.length ≤ 100) (hk : (k : Int) < n) (K : Act → World → Prop) (Q : Exit → Act → World → Prop)
    (hfin : ∀ (s27 s28 s29 s30 s31 s32 s33 s34 s35 : Value) (w3 : World), Below wA.heap.size wA w3 → K ⟨(z0 :: z1 :: z2 :: z3 :: z4 :: z5 :: (.slice (some ⟨g, 0, none⟩) n c) :: z7 :: (.pointer (some ⟨q, 0, none⟩)) :: (.int .i64 k) :: z10 :: z11 :: z12 :: z13 :: z14 :: z15 :: z16 :: z17 :: z18 :: z19 :: z20 :: z21 :: z22 :: z23 :: z24 :: z25 :: z26 :: s27 :: s28 :: s29 :: s30 :: s31 :: s32 :: s33 :: s34 :: s35 :: (.bool (decide (pairsIn ys < pairsIn xs))) :: z37 :: z38 :: z39 :: z40 :: z41 :: z42 :: z43 :: z44 :: z45 :: z46 :: []).toArray, []⟩ w3) :
    Code.wp Try.prog (((Try.f24.body.bind (findReg 8)).getD .skip)) (Exit.then K Q) ⟨(z0 :: z1 :: z2 :: z3 :: z4 :: z5 :: (.slice (some ⟨g, 0, none⟩) n c) :: z7 :: (.pointer (some ⟨q, 0, none⟩)) :: (.int .i64 k) :: z10 :: z11 :: z12 :: z13 :: z14 :: z15 :: z16 :: z17 :: z18 :: z19 :: z20 :: z21 :: z22 :: z23 :: z24 :: z25 :: z26 :: z27 :: z28 :: z29 :: z30 :: z31 :: z32 :: z33 :: z34 :: z35 :: z36 :: z37 :: z38 :: z39 :: z40 :: z41 :: z42 :: z43 :: z44 :: z45 :: z46 :: []).toArray, []⟩ wA := by
  have HFIN := Lib.hid hfin
  have Hx : Hid (∀ W, Below wA.heap.size wA W → Calls Try.prog 31 #[.slice ea xs.length ec] W fun e w' => e = .returned (.int .i64 (pairsIn xs)) ∧ Below W.heap.size W w') := Lib.hid (fun W h => count_any ea ec xs W (hX.below h (Nat.le_refl _)) hxl)
  have Hy : Hid (∀ W, Below wA.heap.size wA W → Calls Try.prog 31 #[.slice da ys.length dc] W fun e w' => e = .returned (.int .i64 (pairsIn ys)) ∧ Below W.heap.size W w') := Lib.hid (fun W h => count_any da dc ys W (hY.below h (Nat.le_refl _)) hyl)
  have S0 : ∀ W', Below wA.heap.size wA W' → W'.cell? ⟨g, k * 3 + 2, none⟩ = some (.slice ea xs.length ec) := fun W' h => cell_later h hx
  have S1 : ∀ W', Below wA.heap.size wA W' → W'.cell? ⟨q, 2, none⟩ = some (.slice da ys.length dc) := fun W' h => cell_later h hy
  have e1 : (pairsIn xs : Int) ≤ 100 := by have := pairsIn_le xs; omega
  have e2 : (pairsIn ys : Int) ≤ 100 := by have := pairsIn_le ys; omega
  clear hfin hx hy hX hY
  conv => arg 2; whnf
  refine (wpIn_wide (n := 1)).1 ?_
  refine wpIn_region_Wn (S := Below wA.heap.size wA) 10 (by kernel_rfl) (by kernel_rfl) (below_drew wA) (fun hHeld => ?_)
  refine wpAnyW_takeD 0 27 (v := ?_) (by kernel_rfl) (by kernel_rfl) (by kernel_rfl) (by kernel_rfl) (fun _ _ _ h => h) ?_ (by assumption) ?_
  rotate_left
  · intro oi hoi w hSw; (try dsimp only at hSw); simp only [List.getElem?_toArray, List.getElem?_cons_zero, List.getElem?_cons_succ, Option.some.injEq] at hoi; subst hoi; go_simp; try with_reducible rfl
  simp only [Act.put, List.setIfInBounds_toArray, List.set_cons_zero, List.set_cons_succ]
  refine wpAnyW_takeD 1 28 (v := ?_) (by kernel_rfl) (by kernel_rfl) (by kernel_rfl) (by kernel_rfl) (fun _ _ _ h => h) ?_ (by assumption) ?_
  rotate_left
  · intro oi hoi w hSw; (try dsimp only at hSw); simp only [List.getElem?_toArray, List.getElem?_cons_zero, List.getElem?_cons_succ, Option.some.injEq] at hoi; subst hoi; go_simp; try with_reducible rfl
  simp only [Act.put, List.setIfInBounds_toArray, List.set_cons_zero, List.set_cons_succ]
  refine wpAnyW_takeD 2 29 (v := ?_) (by kernel_rfl) (by kernel_rfl) (by kernel_rfl) (by kernel_rfl) (fun _ _ _ h => h) ?_ (by assumption) ?_
  rotate_left
  · intro oi hoi w hSw; (try dsimp only at hSw); simp only [List.getElem?_toArray, List.getElem?_cons_zero, List.getElem?_cons_succ, Option.some.injEq] at hoi; subst hoi; go_simp; try with_reducible rfl
  simp only [Act.put, List.setIfInBounds_toArray, List.set_cons_zero, List.set_cons_succ]
  refine wpAnyW_takeD 3 30 (v := ?_) (by kernel_rfl) (by kernel_rfl) (by kernel_rfl) (by kernel_rfl) (fun _ _ _ h => h) ?_ (by assumption) ?_
  rotate_left
  · intro oi hoi w hSw; (try dsimp only at hSw); simp only [List.getElem?_toArray, List.getElem?_cons_zero, List.getElem?_cons_succ, Option.some.injEq] at hoi; subst hoi; go_simp; try with_reducible rfl
  simp only [Act.put, List.setIfInBounds_toArray, List.set_cons_zero, List.set_cons_succ]
  refine wpAnyW_takeD 4 31 (v := ?_) (by kernel_rfl) (by kernel_rfl) (by kernel_rfl) (by kernel_rfl) (fun _ _ _ h => h) ?_ (by assumption) ?_
  rotate_left
  · intro oi hoi w hSw; (try dsimp only at hSw); simp only [List.getElem?_toArray, List.getElem?_cons_zero, List.getElem?_cons_succ, Option.some.injEq] at hoi; subst hoi; go_simp; try with_reducible rfl
  simp only [Act.put, List.setIfInBounds_toArray, List.set_cons_zero, List.set_cons_succ]
  refine wpAnyW_takeD 6 33 (v := ?_) (by kernel_rfl) (by kernel_rfl) (by kernel_rfl) (by kernel_rfl) (fun _ _ _ h => h) ?_ (by assumption) ?_
  rotate_left
  · intro oi hoi w hSw; (try dsimp only at hSw); simp only [List.getElem?_toArray, List.getElem?_cons_zero, List.getElem?_cons_succ, Option.some.injEq] at hoi; subst hoi; go_simp; try with_reducible rfl
  simp only [Act.put, List.setIfInBounds_toArray, List.set_cons_zero, List.set_cons_succ]
  refine wpAnyW_takeD 7 34 (v := ?_) (by kernel_rfl) (by kernel_rfl) (by kernel_rfl) (by kernel_rfl) (fun _ _ _ h => h) ?_ (by assumption) ?_
  rotate_left
  · intro oi hoi w hSw; (try dsimp only at hSw); simp only [List.getElem?_toArray, List.getElem?_cons_zero, List.getElem?_cons_succ, Option.some.injEq] at hoi; subst hoi; go_simp; try with_reducible rfl
  simp only [Act.put, List.setIfInBounds_toArray, List.set_cons_zero, List.set_cons_succ]
  refine wpAnyW_one 5 (by kernel_rfl) (by kernel_rfl) ?_
  intro o ho K hK
  simp only [List.getElem?_toArray, List.getElem?_cons_zero, List.getElem?_cons_succ, Option.some.injEq] at ho
  subst ho
  go_simp
  refine ⟨trivial, CallsIn.mono (callsIn_wide.2 (Hx.out _ hHeld)) ?_⟩
  rintro e W1 ⟨rfl, hb1⟩
  have h1 := hHeld.trans (hb1.mono hHeld.size)
  refine hK _ _ h1 (fun _ => ?_)
  clear hK K
  try simp only [Act.put, List.setIfInBounds_toArray, List.set_cons_zero, List.set_cons_succ]
  refine wpAnyW_one 8 (by kernel_rfl) (by kernel_rfl) ?_
  intro o ho K hK
  simp only [List.getElem?_toArray, List.getElem?_cons_zero, List.getElem?_cons_succ, Option.some.injEq] at ho
  subst ho
  go_simp
  refine ⟨trivial, CallsIn.mono (callsIn_wide.2 (Hy.out _ h1)) ?_⟩
  rintro e W2 ⟨rfl, hb2⟩
  have h2 := h1.trans (hb2.mono h1.size)
  refine hK _ _ h2 (fun _ => ?_)
  clear hK K
  try simp only [Act.put, List.setIfInBounds_toArray, List.set_cons_zero, List.set_cons_succ]
  refine wpAnyW_takeD 9 36 (v := ?_) (by kernel_rfl) (by kernel_rfl) (by kernel_rfl) (by kernel_rfl) (fun _ _ _ h => h) ?_ (by assumption) ?_
  rotate_left
  · intro oi hoi w hSw; (try dsimp only at hSw); simp only [List.getElem?_toArray, List.getElem?_cons_zero, List.getElem?_cons_succ, Option.some.injEq] at hoi; subst hoi; go_simp; try with_reducible rfl
  simp only [Act.put, List.setIfInBounds_toArray, List.set_cons_zero, List.set_cons_succ]
  refine wpAnyW_done (by kernel_rfl) ?_ _
  dsimp only [onNormal]
  exact HFIN.out _ _ _ _ _ _ _ _ _ _ h2

theorem rbest_any (b : Bo) (fa sa : Option Addr) (fc sc : Nat) (w : World) (hb : BoArg w b fa sa) :
    Calls Try.prog 24 #[.agg #[.int .i64 b.e.lo, .int .i64 b.e.hi, .int .i64 b.n.lo, .int .i64 b.n.hi, .slice fa b.fs.length fc, .slice sa b.ss.length sc]] w (RBestPost b w) := by
  have HB := Lib.hid hb
  clear hb
  go_enter Try.func24, Try.ntmps24
  go_wp2_with fail
  obtain ⟨W0, hW0⟩ : ∃ W, (w.alloc (.cells #[.int .i64 b.e.lo, .int .i64 b.e.hi, .int .i64 b.n.lo, .int .i64 b.n.hi, .slice fa b.fs.length fc, .slice sa b.ss.length sc] 26)) = W := ⟨_, rfl⟩
  rw [hW0]
  try simp only [Nat.add_assoc, Nat.reduceAdd]
  have hst_W0 : Steps (fun _ => False) w W0 := by rw [← hW0]; exact Steps.alloc _ w _
  have hz_W0 : W0.heap.size = w.heap.size + 1 := by rw [← hW0]; simp
  have g0_W0 : W0.heap[w.heap.size]? = some (.cells #[.int .i64 b.e.lo, .int .i64 b.e.hi, .int .i64 b.n.lo, .int .i64 b.n.hi, .slice fa b.fs.length fc, .slice sa b.ss.length sc] 26) := by rw [← hW0]; simp only [alloc_get, World.size_alloc]; repeat (first | exact if_pos trivial | exact if_pos (by omega) | rw [if_neg (by omega)])
  clear hW0
  have hb0 : Below w.heap.size w W0 := hst_W0.below (Nat.le_refl _) (fun _ _ h => h)
  clear hst_W0 hz_W0
  refine (ropen_any b fa sa fc sc true _ (HB.out.below hb0)).mono ?_
  rintro e w2 ⟨a, c, rfl, hR, hb1⟩
  have HJ := Lib.hid hR
  have hbw := hb0.trans (hb1.mono hb0.size)
  clear hR hb1 g0_W0 hb0
  rcases rOpen_cases b true with ⟨x, hro, hx0, hx1, hx2, hx4⟩ | ⟨hok, _, hro, hne⟩
  · rw [hro]
    have hxx : (x != 0) = true := by simpa using hx0
    have hres : bBest b = (none, x) := by
      unfold bBest
      cases hok : b.ok
      · rw [hx1 hok]; rfl
      · obtain ⟨h1, h2⟩ := hx4 hok rfl
        rw [h1, h2]; rfl
    have HR := Lib.hid hres
    clear hres hx1 hx2 hx4 hro hx0
    go_wp2
    refine bodyPost_ret (v := .tuple #[.int .i64 0, .int .i64 0, .slice none 0 0, .int .i64 x]) (by simp [results, Try.results24, go_sem]) rfl ⟨?_, hbw⟩
    rw [HR.out]; rfl
  · rw [hro] at HJ ⊢
    have hlen := allOf_len hok (sures b.fs) (sures b.ss)
    have JL := allOf_jlist hok hne
    obtain ⟨L, hL⟩ : ∃ L, allOf b (sures b.fs) (sures b.ss) = L := ⟨_, rfl⟩
    rw [hL] at hne hlen HJ JL ⊢
    have hpos : 0 < L.length := List.length_pos_iff.2 hne
    have hres : bBest b = (some (bestFrom L[0] L), 0) := by
      unfold bBest
      rw [hok, if_pos rfl, hL, bestOf_from L hpos]
    have HR := Lib.hid hres
    have HLEN : Hid (∀ z ∈ L, z.2.length ≤ 100) := Lib.hid (fun z hz => by rw [JL.len z hz]; have := JL.l6.1; omega)
    clear hres hro hne hok hL JL
    have hli : (L.length : Int) ≤ 202591578 := by omega
    obtain ⟨g, rfl, hg, h0, h1, ea, ec, h2, hI⟩ := HJ.out 0 hpos
    simp only [Nat.zero_mul, Nat.zero_add] at h0 h1 h2
    have hy0 := HLEN.out _ (List.getElem_mem hpos)
    have hbf0 : bestFrom L[0] (L.take 0) = L[0] := rfl
    obtain ⟨y, hy⟩ : ∃ y, L[0] = y := ⟨_, rfl⟩
    rw [hy] at h0 h1 h2 hI HR hy0 hbf0
    have HBF := Lib.hid hbf0
    clear hy hbf0
    go_wp2_with fail
    obtain ⟨W1, hW1⟩ : ∃ W, (w2.alloc (.cells #[.int .i64 y.1.1, .int .i64 y.1.2, .slice ea y.2.length ec] 98)) = W := ⟨_, rfl⟩
    rw [hW1]
    try simp only [Nat.add_assoc, Nat.reduceAdd]
    have hst_W1 : Steps (fun _ => False) w2 W1 := by rw [← hW1]; exact Steps.alloc _ w2 _
    have hz_W1 : W1.heap.size = w2.heap.size + 1 := by rw [← hW1]; simp
    have g0_W1 : W1.heap[w2.heap.size]? = some (.cells #[.int .i64 y.1.1, .int .i64 y.1.2, .slice ea y.2.length ec] 98) := by rw [← hW1]; simp only [alloc_get, World.size_alloc]; repeat (first | exact if_pos trivial | exact if_pos (by omega) | rw [if_neg (by omega)])
    clear hW1
    have hb1 : Below w2.heap.size w2 W1 := hst_W1.below (Nat.le_refl _) (fun _ _ h => h)
    clear hst_W1 hz_W1
    obtain ⟨q, hq⟩ : ∃ q, w2.heap.size = q := ⟨_, rfl⟩
    rw [hq] at g0_W1 ⊢
    have HQ := Lib.hid hq
    clear hq
    go_loopw [9] (fun i wr => ∃ k : Nat, k ≤ L.length ∧ i = .int .i64 k ∧ (∃ da dc, wr.heap[q]? = some (.cells #[.int .i64 (bestFrom y (L.take k)).1.1, .int .i64 (bestFrom y (L.take k)).1.2, .slice da (bestFrom y (L.take k)).2.length dc] 98) ∧ IntsV w2 da (bestFrom y (L.take k)).2) ∧ (bestFrom y (L.take k)).2.length ≤ 100 ∧ Below w2.heap.size w2 wr) (fun i _ => L.length - (intOf i).toNat)
    case atStart => exact ⟨0, Nat.zero_le _, rfl, by rw [HBF.out]; exact ⟨ea, ec, g0_W1, hI⟩, by rw [HBF.out]; exact hy0, hb1⟩
    case round =>
      obtain ⟨k, hk, rfl, ⟨da, dc, K8, hY⟩, hyl, hbr⟩ := hrel
      clear h0 h1 h2 hI hb1 g0_W1
      have HY := Lib.hid hY
      clear hY
      by_cases hlt : k < L.length
      · have hki : (k : Int) < L.length := by omega
        obtain ⟨g', hg', hgl, h0, h1, ea', ec', h2, hI⟩ := (HJ.out.below hbr) k hlt
        have hgg : g = g' := by simpa using hg'
        subst hgg
        have hBS := bestFrom_succ y L k hlt
        have hxl := HLEN.out _ (List.getElem_mem hlt)
        generalize bestFrom y (L.take k) = u at K8 HY hyl hBS
        obtain ⟨x, hx⟩ : ∃ x, L[k] = x := ⟨_, rfl⟩
        rw [hx] at h0 h1 h2 hI hBS hxl
        have HBS := Lib.hid hBS
        have HIX : Hid (IntsV w2 ea' x.2) := Lib.hid (by
          obtain ⟨g2, hg2, hgl2, k0, k1, ea3, ec3, k2, hI3⟩ := HJ.out k hlt
          have hgg3 : g = g2 := by simpa using hg2
          subst hgg3
          have := cell_later hbr k2
          rw [hx] at this hI3
          rw [h2] at this
          cases this
          exact hI3)
        clear hx hBS hg' hgl
        have u2 := cell_block K8 2
        simp only [List.getElem?_toArray, List.getElem?_cons_zero, List.getElem?_cons_succ] at u2
        go_upto_region 8 with fail
        refine best_reg8 g L.length c k q ea' da ec' dc x.2 u.2 wr h2 u2 hI (HY.out.below hbr (Nat.le_refl _)) hxl hyl hki _ _ ?_
        intro s27 s28 s29 s30 s31 s32 s33 s34 s35 w3 hb3
        have K9 := obj_later hb3 K8
        have h03 := cell_later hb3 h0
        have h13 := cell_later hb3 h1
        have h23 := cell_later hb3 h2
        have hb4 := hbr.trans (hb3.mono hbr.size)
        clear K8 h0 h1 h2 hbr hb3 hI u2
        by_cases hlt2 : pairsIn u.2 < pairsIn x.2
        · have hd : decide (pairsIn u.2 < pairsIn x.2) = true := decide_eq_true hlt2
          have HLT := Lib.hid hlt2
          rw [hd]
          clear hlt2 hd
          have m0 := cell_block K9 0
          have m1 := cell_block K9 1
          have m2 := cell_block K9 2
          have z0 := frozen_block K9 0
          have z1 := frozen_block K9 1
          have z2 := frozen_block K9 2
          simp only [List.getElem?_toArray, List.getElem?_cons_zero, List.getElem?_cons_succ] at m0 m1 m2
          have hn8 := three_same (.int .i64 x.1.1) (.int .i64 x.1.2) (.slice ea' x.2.length ec') K9
          have hb5 := three_below (p := q) (.int .i64 x.1.1) (.int .i64 x.1.2) (.slice ea' x.2.length ec') hb4 (Nat.le_of_eq HQ.out)
          have HN8 := Lib.hid hn8
          have HB5 := Lib.hid hb5
          clear K9 hn8 hb5 hb4
          go_wp2_with fail
          go_roundw
          case rel => exact ⟨k + 1, by omega, by go_num, by rw [HBS.out, if_pos HLT.out]; exact ⟨ea', ec', HN8.out, HIX.out⟩, by rw [HBS.out, if_pos HLT.out]; exact hxl, HB5.out⟩
          case measure => simp [intOf]; omega
        · have hd : decide (pairsIn u.2 < pairsIn x.2) = false := decide_eq_false hlt2
          have HLT := Lib.hid hlt2
          rw [hd]
          have HK9 := Lib.hid K9
          have HB4 := Lib.hid hb4
          clear hlt2 hd K9 hb4
          go_wp2_with fail
          go_roundw
          case rel => exact ⟨k + 1, by omega, by go_num, by rw [HBS.out, if_neg HLT.out]; exact ⟨da, dc, HK9.out, HY.out⟩, by rw [HBS.out, if_neg HLT.out]; exact hyl, HB4.out⟩
          case measure => simp [intOf]; omega
      · obtain rfl : k = L.length := by omega
        rw [List.take_length] at K8 HY hyl
        generalize bestFrom y L = u at K8 HY hyl HR
        go_upto_region 10 with fail
        have S0 : ∀ W', Below wr.heap.size wr W' → W'.cell? ⟨q, 0, none⟩ = some (.int .i64 u.1.1) := fun W' h => cell_block (obj_later h K8) 0
        have S1 : ∀ W', Below wr.heap.size wr W' → W'.cell? ⟨q, 1, none⟩ = some (.int .i64 u.1.2) := fun W' h => cell_block (obj_later h K8) 1
        have S2 : ∀ W', Below wr.heap.size wr W' → W'.cell? ⟨q, 2, none⟩ = some (.slice da u.2.length dc) := fun W' h => cell_block (obj_later h K8) 2
        have hbd := hbr.trans ((below_drew wr).mono hbr.size)
        have HF : Hid (Below w.heap.size w wr.drew ∧ IntsV wr.drew da u.2) := Lib.hid ⟨hbw.trans (hbd.mono hbw.size), HY.out.below hbd (Nat.le_refl _)⟩
        clear K8 hbd
        refine (wpIn_wide (n := 1)).1 ?_
        refine wpIn_region_Wn (S := Below wr.heap.size wr) 10 (by kernel_rfl) (by kernel_rfl) (below_drew wr) (fun hHeld => ?_)
        refine wpAnyW_takeD 0 41 (v := ?_) (by kernel_rfl) (by kernel_rfl) (by kernel_rfl) (by kernel_rfl) (fun _ _ _ h => h) ?_ (by assumption) ?_
        rotate_left
        · intro oi hoi w hSw; (try dsimp only at hSw); simp only [List.getElem?_toArray, List.getElem?_cons_zero, List.getElem?_cons_succ, Option.some.injEq] at hoi; subst hoi; go_simp; try with_reducible rfl
        simp only [Act.put, List.setIfInBounds_toArray, List.set_cons_zero, List.set_cons_succ]
        refine wpAnyW_takeD 1 42 (v := ?_) (by kernel_rfl) (by kernel_rfl) (by kernel_rfl) (by kernel_rfl) (fun _ _ _ h => h) ?_ (by assumption) ?_
        rotate_left
        · intro oi hoi w hSw; (try dsimp only at hSw); simp only [List.getElem?_toArray, List.getElem?_cons_zero, List.getElem?_cons_succ, Option.some.injEq] at hoi; subst hoi; go_simp; try with_reducible rfl
        simp only [Act.put, List.setIfInBounds_toArray, List.set_cons_zero, List.set_cons_succ]
        refine wpAnyW_takeD 2 43 (v := ?_) (by kernel_rfl) (by kernel_rfl) (by kernel_rfl) (by kernel_rfl) (fun _ _ _ h => h) ?_ (by assumption) ?_
        rotate_left
        · intro oi hoi w hSw; (try dsimp only at hSw); simp only [List.getElem?_toArray, List.getElem?_cons_zero, List.getElem?_cons_succ, Option.some.injEq] at hoi; subst hoi; go_simp; try with_reducible rfl
        simp only [Act.put, List.setIfInBounds_toArray, List.set_cons_zero, List.set_cons_succ]
        refine wpAnyW_takeD 3 44 (v := ?_) (by kernel_rfl) (by kernel_rfl) (by kernel_rfl) (by kernel_rfl) (fun _ _ _ h => h) ?_ (by assumption) ?_
        rotate_left
        · intro oi hoi w hSw; (try dsimp only at hSw); simp only [List.getElem?_toArray, List.getElem?_cons_zero, List.getElem?_cons_succ, Option.some.injEq] at hoi; subst hoi; go_simp; try with_reducible rfl
        simp only [Act.put, List.setIfInBounds_toArray, List.set_cons_zero, List.set_cons_succ]
        refine wpAnyW_takeD 4 45 (v := ?_) (by kernel_rfl) (by kernel_rfl) (by kernel_rfl) (by kernel_rfl) (fun _ _ _ h => h) ?_ (by assumption) ?_
        rotate_left
        · intro oi hoi w hSw; (try dsimp only at hSw); simp only [List.getElem?_toArray, List.getElem?_cons_zero, List.getElem?_cons_succ, Option.some.injEq] at hoi; subst hoi; go_simp; try with_reducible rfl
        simp only [Act.put, List.setIfInBounds_toArray, List.set_cons_zero, List.set_cons_succ]
        refine wpAnyW_takeD 5 46 (v := ?_) (by kernel_rfl) (by kernel_rfl) (by kernel_rfl) (by kernel_rfl) (fun _ _ _ h => h) ?_ (by assumption) ?_
        rotate_left
        · intro oi hoi w hSw; (try dsimp only at hSw); simp only [List.getElem?_toArray, List.getElem?_cons_zero, List.getElem?_cons_succ, Option.some.injEq] at hoi; subst hoi; go_simp; try with_reducible rfl
        simp only [Act.put, List.setIfInBounds_toArray, List.set_cons_zero, List.set_cons_succ]
        refine wpAnyW_takeD 6 2 (v := ?_) (by kernel_rfl) (by kernel_rfl) (by kernel_rfl) (by kernel_rfl) (fun _ _ _ h => h) ?_ (by assumption) ?_
        rotate_left
        · intro oi hoi w hSw; (try dsimp only at hSw); simp only [List.getElem?_toArray, List.getElem?_cons_zero, List.getElem?_cons_succ, Option.some.injEq] at hoi; subst hoi; go_simp; try with_reducible rfl
        simp only [Act.put, List.setIfInBounds_toArray, List.set_cons_zero, List.set_cons_succ]
        refine wpAnyW_takeD 7 3 (v := ?_) (by kernel_rfl) (by kernel_rfl) (by kernel_rfl) (by kernel_rfl) (fun _ _ _ h => h) ?_ (by assumption) ?_
        rotate_left
        · intro oi hoi w hSw; (try dsimp only at hSw); simp only [List.getElem?_toArray, List.getElem?_cons_zero, List.getElem?_cons_succ, Option.some.injEq] at hoi; subst hoi; go_simp; try with_reducible rfl
        simp only [Act.put, List.setIfInBounds_toArray, List.set_cons_zero, List.set_cons_succ]
        refine wpAnyW_takeD 8 4 (v := ?_) (by kernel_rfl) (by kernel_rfl) (by kernel_rfl) (by kernel_rfl) (fun _ _ _ h => h) ?_ (by assumption) ?_
        rotate_left
        · intro oi hoi w hSw; (try dsimp only at hSw); simp only [List.getElem?_toArray, List.getElem?_cons_zero, List.getElem?_cons_succ, Option.some.injEq] at hoi; subst hoi; go_simp; try with_reducible rfl
        simp only [Act.put, List.setIfInBounds_toArray, List.set_cons_zero, List.set_cons_succ]
        refine wpAnyW_takeD 9 5 (v := ?_) (by kernel_rfl) (by kernel_rfl) (by kernel_rfl) (by kernel_rfl) (fun _ _ _ h => h) ?_ (by assumption) ?_
        rotate_left
        · intro oi hoi w hSw; (try dsimp only at hSw); simp only [List.getElem?_toArray, List.getElem?_cons_zero, List.getElem?_cons_succ, Option.some.injEq] at hoi; subst hoi; go_simp; try with_reducible rfl
        simp only [Act.put, List.setIfInBounds_toArray, List.set_cons_zero, List.set_cons_succ]
        refine wpAnyW_done (by kernel_rfl) ?_ _
        dsimp only [onNormal]
        clear S0 S1 S2
        go_wp2
        refine bodyPost_ret (v := .tuple #[.int .i64 u.1.1, .int .i64 u.1.2, .slice da u.2.length dc, .int .i64 0]) (by simp [results, Try.results24, go_sem]) rfl ⟨?_, HF.out.1⟩
        rw [HR.out]
        exact ⟨da, dc, rfl, HF.out.2⟩
end Go.Proofs.Ytjkegmjjhdmkiaa
