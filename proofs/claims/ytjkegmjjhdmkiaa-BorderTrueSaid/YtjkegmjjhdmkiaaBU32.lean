/- The law BorderClash: is a shift possible where the stars of two sets alone are Sure. -/
import Derived.Test.YtjkegmjjhdmkiaaBU21
import Derived.Test.YtjkegmjjhdmkiaaBU17
import Derived.Test.YtjkegmjjhdmkiaaBU24
namespace Go.Proofs.Ytjkegmjjhdmkiaa
open Go.RowKit Go.Shelf
set_option maxHeartbeats 1600000
set_option maxRecDepth 100000
set_option linter.unusedSimpArgs false

theorem sures_onlyEds (l : List Ed) (s : Nat) (h : s < 2 ^ l.length) : sures (onlyEds l s) = s := by
  refine Nat.eq_of_testBit_eq (fun k => ?_)
  unfold sures
  rw [maskOf_testBit, onlyEds_length]
  by_cases hk : k < l.length
  · simp [hk, sureAt, onlyEds_get l s k hk]
  · simp only [hk, decide_false, Bool.false_and]
    exact (Nat.testBit_lt_two_pow (Nat.lt_of_lt_of_le h (Nat.pow_le_pow_right (by omega) (by omega)))).symm
theorem onlyB_same (b : Bo) (s t : Nat) (z : Int × Int) (i k : Nat) : (onlyB b s t).same z i k = b.same z i k := by
  unfold Bo.same onlyB
  by_cases hi : i < b.fs.length
  · by_cases hk : k < b.ss.length
    · simp only [onlyEds_get _ _ _ hi, onlyEds_get _ _ _ hk, List.getElem?_eq_getElem hi, List.getElem?_eq_getElem hk]
      rfl
    · rw [List.getElem?_eq_none (by rw [onlyEds_length]; omega : (onlyEds b.ss t).length ≤ k), List.getElem?_eq_none (by omega : b.ss.length ≤ k)]
      cases (onlyEds b.fs s)[i]? <;> cases b.fs[i]? <;> rfl
  · rw [List.getElem?_eq_none (by rw [onlyEds_length]; omega : (onlyEds b.fs s).length ≤ i), List.getElem?_eq_none (by omega : b.fs.length ≤ i)]
theorem onlyB_row (b : Bo) (s t : Nat) (z : Int × Int) (i : Nat) : (onlyB b s t).row z i = b.row z i := by
  unfold Bo.row
  have : (onlyB b s t).ss.length = b.ss.length := onlyEds_length _ _
  rw [this]
  exact maskOf_congr fun k _ => onlyB_same b s t z i k
theorem onlyB_joins (b : Bo) (s t f g : Nat) (z : Int × Int) : bJoins (onlyB b s t) f g z = bJoins b f g z := by
  unfold bJoins
  have h1 : (onlyB b s t).ss.length = b.ss.length := onlyEds_length _ _
  have h2 : (onlyB b s t).fs.length = b.fs.length := onlyEds_length _ _
  have h3 : (onlyB b s t).row z = b.row z := funext fun i => onlyB_row b s t z i
  rw [h1, h2, h3]
theorem onlyB_can (b : Bo) (s t f g : Nat) : bCan (onlyB b s t) f g = bCan b f g := by
  unfold bCan
  have : shiftsOf (onlyB b s t) = shiftsOf b := rfl
  rw [this]
  simp only [onlyB_joins]
theorem onlyEds_ok (l : List Ed) (s : Nat) (h : l.all Ed.ok = true) : (onlyEds l s).all Ed.ok = true := by
  rw [List.all_eq_true] at h ⊢
  intro x hx
  obtain ⟨i, hi, rfl⟩ := List.mem_iff_getElem.1 hx
  rw [onlyEds_length] at hi
  have := onlyEds_get l s i hi
  rw [List.getElem?_eq_getElem (by rw [onlyEds_length]; exact hi)] at this
  rw [Option.some.inj this]
  exact h l[i] (List.getElem_mem hi)
theorem onlyB_ok (b : Bo) (s t : Nat) (h : b.ok = true) : (onlyB b s t).ok = true := by
  simp only [Bo.ok, Bool.and_eq_true, decide_eq_true_eq] at h ⊢
  obtain ⟨⟨⟨⟨⟨h1, h2⟩, h3⟩, h4⟩, h5⟩, h6⟩ := h
  exact ⟨⟨⟨⟨⟨h1, h2⟩, by simpa only [onlyB, onlyEds_length] using h3⟩, by simpa only [onlyB, onlyEds_length] using h4⟩, onlyEds_ok _ _ h5⟩, onlyEds_ok _ _ h6⟩
theorem allOf_nil (b : Bo) (f s : Nat) : allOf b f s = [] ↔ bCan b f s = false := by
  unfold allOf joinedOf bCan
  rw [List.any_eq_false, List.flatMap_eq_nil_iff]
  constructor
  · intro h x hx
    have := h x hx
    simp [withShift] at this
    simp [this]
  · intro h x hx
    have := h x hx
    simp at this
    simp [withShift, this]
theorem bShift_zero (b : Bo) (hok : b.ok = true) : ((bShift b).2.2 == 0) = bCan b (sures b.fs) (sures b.ss) ∧ ((bShift b).2.2 == 4) = !bCan b (sures b.fs) (sures b.ss) := by
  unfold bShift
  rw [if_pos hok]
  cases h : bCan b (sures b.fs) (sures b.ss) with
  | true =>
    rw [if_neg (fun e => by rw [allOf_nil, h] at e; cases e)]
    exact ⟨rfl, rfl⟩
  | false =>
    rw [if_pos ((allOf_nil _ _ _).2 h)]
    exact ⟨rfl, rfl⟩
theorem bShift_only (b : Bo) (hok : b.ok = true) (s t : Nat) (hs : s < 2 ^ b.fs.length) (ht : t < 2 ^ b.ss.length) : ((bShift (onlyB b s t)).2.2 == 0) = bCan b s t := by
  rw [(bShift_zero _ (onlyB_ok b s t hok)).1]
  have h1 : sures (onlyB b s t).fs = s := sures_onlyEds _ _ hs
  have h2 : sures (onlyB b s t).ss = t := sures_onlyEds _ _ ht
  rw [h1, h2, onlyB_can]

theorem clashCan_any (b : Bo) (fa sa : Option Addr) (fc sc p s t : Nat) (w : World) (hb : BoArg w b fa sa) (hok : b.ok = true) (hs : s < 2 ^ b.fs.length) (ht : t < 2 ^ b.ss.length) (hs6 : s < 64) (ht6 : t < 64)
    (hp : w.heap[p]? = some (.cells #[.int .i64 b.e.lo, .int .i64 b.e.hi, .int .i64 b.n.lo, .int .i64 b.n.hi, .slice fa b.fs.length fc, .slice sa b.ss.length sc] 26)) :
    Calls Try.prog 35 #[.int .i64 s, .int .i64 t, .pointer (some ⟨p, 0, none⟩)] w fun e w' => e = .returned (.bool (bCan b s t)) ∧ Below w.heap.size w w' := by
  have hlens := bo_lens hok
  have hon := only_any b fa sa fc sc s t w hb hlens.1 hlens.2 (by omega) (by omega)
  have hbs := bShift_only b hok s t hs ht
  have HBS := Lib.hid hbs
  clear hbs
  have c0 := cell_block hp 0
  have c1 := cell_block hp 1
  have c2 := cell_block hp 2
  have c3 := cell_block hp 3
  have c4 := cell_block hp 4
  have c5 := cell_block hp 5
  simp only [List.getElem?_toArray, List.getElem?_cons_zero, List.getElem?_cons_succ] at c0 c1 c2 c3 c4 c5
  clear hb
  go_enter Try.func35, Try.ntmps35
  go_wp2_with fail
  refine hon.mono ?_
  rintro e w1 ⟨q1, q2, k1, k2, rfl, ha1, hb1⟩
  have hsh := shift_any (onlyB b s t) (some ⟨q1, 0, none⟩) (some ⟨q2, 0, none⟩) k1 k2 w1 ha1
  clear hon c0 c1 c2 c3 c4 c5
  unfold boV
  go_wp2_with fail
  refine hsh.mono ?_
  rintro e w2 ⟨rfl, hb2⟩
  clear hsh
  unfold spV
  have hw2 : w.heap.size ≤ w2.heap.size := Nat.le_trans hb1.size hb2.size
  have hbb := hb1.trans (hb2.mono hb1.size)
  go_wp2
  go_ret
  refine ⟨ret_bool HBS.out, ?_⟩
  exact (hbb.alloc hw2 _).alloc (by rw [World.size_alloc]; omega) _
end Go.Proofs.Ytjkegmjjhdmkiaa
