/- The law BorderClash: is a shift possible where the stars of two sets alone are Sure. The law BorderClash, walked. -/
import Derived.Test.YtjkegmjjhdmkiaaCL20
import Derived.Test.YtjkegmjjhdmkiaaCL17
import Derived.Test.YtjkegmjjhdmkiaaCL23
namespace Go.Proofs.Ytjkegmjjhdmkiaa
open Go.RowKit Go.Shelf
set_option maxHeartbeats 1600000
set_option maxRecDepth 100000
set_option linter.unusedSimpArgs false

theorem sures_onlyEds (l : List Ed) (s : Nat) (h : s < 2 ^ l.length) : sures (onlyEds l s) = s := by
  refine Nat.eq_of_testBit_eq (fun k => ?_)
  unfold sures
  rw [maskOf_testBit, onlyEds_length]
  by_cases hk : k < l.length
  · simp [hk, sureAt, onlyEds_get l s k hk]
  · simp only [hk, decide_false, Bool.false_and]
    exact (Nat.testBit_lt_two_pow (Nat.lt_of_lt_of_le h (Nat.pow_le_pow_right (by omega) (by omega)))).symm
theorem onlyB_same (b : Bo) (s t : Nat) (z : Int × Int) (i k : Nat) : (onlyB b s t).same z i k = b.same z i k := by
  unfold Bo.same onlyB
  by_cases hi : i < b.fs.length
  · by_cases hk : k < b.ss.length
    · simp only [onlyEds_get _ _ _ hi, onlyEds_get _ _ _ hk, List.getElem?_eq_getElem hi, List.getElem?_eq_getElem hk]
      rfl
    · rw [List.getElem?_eq_none (by rw [onlyEds_length]; omega : (onlyEds b.ss t).length ≤ k), List.getElem?_eq_none (by omega : b.ss.length ≤ k)]
      cases (onlyEds b.fs s)[i]? <;> cases b.fs[i]? <;> rfl
  · rw [List.getElem?_eq_none (by rw [onlyEds_length]; omega : (onlyEds b.fs s).length ≤ i), List.getElem?_eq_none (by omega : b.fs.length ≤ i)]
theorem onlyB_row (b : Bo) (s t : Nat) (z : Int × Int) (i : Nat) : (onlyB b s t).row z i = b.row z i := by
  unfold Bo.row
  have : (onlyB b s t).ss.length = b.ss.length := onlyEds_length _ _
  rw [this]
  exact maskOf_congr fun k _ => onlyB_same b s t z i k
theorem onlyB_joins (b : Bo) (s t f g : Nat) (z : Int × Int) : bJoins (onlyB b s t) f g z = bJoins b f g z := by
  unfold bJoins
  have h1 : (onlyB b s t).ss.length = b.ss.length := onlyEds_length _ _
  have h2 : (onlyB b s t).fs.length = b.fs.length := onlyEds_length _ _
  have h3 : (onlyB b s t).row z = b.row z := funext fun i => onlyB_row b s t z i
  rw [h1, h2, h3]
theorem onlyB_can (b : Bo) (s t f g : Nat) : bCan (onlyB b s t) f g = bCan b f g := by
  unfold bCan
  have : shiftsOf (onlyB b s t) = shiftsOf b := rfl
  rw [this]
  simp only [onlyB_joins]
theorem onlyEds_ok (l : List Ed) (s : Nat) (h : l.all Ed.ok = true) : (onlyEds l s).all Ed.ok = true := by
  rw [List.all_eq_true] at h ⊢
  intro x hx
  obtain ⟨i, hi, rfl⟩ := List.mem_iff_getElem.1 hx
  rw [onlyEds_length] at hi
  have := onlyEds_get l s i hi
  rw [List.getElem?_eq_getElem (by rw [onlyEds_length]; exact hi)] at this
  rw [Option.some.inj this]
  exact h l[i] (List.getElem_mem hi)
theorem onlyB_ok (b : Bo) (s t : Nat) (h : b.ok = true) : (onlyB b s t).ok = true := by
  simp only [Bo.ok, Bool.and_eq_true, decide_eq_true_eq] at h ⊢
  obtain ⟨⟨⟨⟨⟨h1, h2⟩, h3⟩, h4⟩, h5⟩, h6⟩ := h
  exact ⟨⟨⟨⟨⟨h1, h2⟩, by simpa only [onlyB, onlyEds_length] using h3⟩, by simpa only [onlyB, onlyEds_length] using h4⟩, onlyEds_ok _ _ h5⟩, onlyEds_ok _ _ h6⟩
theorem allOf_nil (b : Bo) (f s : Nat) : allOf b f s = [] ↔ bCan b f s = false := by
  unfold allOf joinedOf bCan
  rw [List.any_eq_false, List.flatMap_eq_nil_iff]
  constructor
  · intro h x hx
    have := h x hx
    simp [withShift] at this
    simp [this]
  · intro h x hx
    have := h x hx
    simp at this
    simp [withShift, this]
theorem bShift_zero (b : Bo) (hok : b.ok = true) : ((bShift b).2.2 == 0) = bCan b (sures b.fs) (sures b.ss) ∧ ((bShift b).2.2 == 4) = !bCan b (sures b.fs) (sures b.ss) := by
  unfold bShift
  rw [if_pos hok]
  cases h : bCan b (sures b.fs) (sures b.ss) with
  | true =>
    rw [if_neg (fun e => by rw [allOf_nil, h] at e; cases e)]
    exact ⟨rfl, rfl⟩
  | false =>
    rw [if_pos ((allOf_nil _ _ _).2 h)]
    exact ⟨rfl, rfl⟩
theorem bShift_only (b : Bo) (hok : b.ok = true) (s t : Nat) (hs : s < 2 ^ b.fs.length) (ht : t < 2 ^ b.ss.length) : ((bShift (onlyB b s t)).2.2 == 0) = bCan b s t := by
  rw [(bShift_zero _ (onlyB_ok b s t hok)).1]
  have h1 : sures (onlyB b s t).fs = s := sures_onlyEds _ _ hs
  have h2 : sures (onlyB b s t).ss = t := sures_onlyEds _ _ ht
  rw [h1, h2, onlyB_can]

theorem clashCan_any (b : Bo) (fa sa : Option Addr) (fc sc p s t : Nat) (w : World) (hb : BoArg w b fa sa) (hok : b.ok = true) (hs : s < 2 ^ b.fs.length) (ht : t < 2 ^ b.ss.length) (hs6 : s < 64) (ht6 : t < 64)
    (hp : w.heap[p]? = some (.cells #[.int .i64 b.e.lo, .int .i64 b.e.hi, .int .i64 b.n.lo, .int .i64 b.n.hi, .slice fa b.fs.length fc, .slice sa b.ss.length sc] 26)) :
    Calls Try.prog 35 #[.int .i64 s, .int .i64 t, .pointer (some ⟨p, 0, none⟩)] w fun e w' => e = .returned (.bool (bCan b s t)) ∧ Below w.heap.size w w' := by
  have hlens := bo_lens hok
  have hon := only_any b fa sa fc sc s t w hb hlens.1 hlens.2 (by omega) (by omega)
  have hbs := bShift_only b hok s t hs ht
  have HBS := Lib.hid hbs
  clear hbs
  have c0 := cell_block hp 0
  have c1 := cell_block hp 1
  have c2 := cell_block hp 2
  have c3 := cell_block hp 3
  have c4 := cell_block hp 4
  have c5 := cell_block hp 5
  simp only [List.getElem?_toArray, List.getElem?_cons_zero, List.getElem?_cons_succ] at c0 c1 c2 c3 c4 c5
  clear hb
  go_enter Try.func35, Try.ntmps35
  go_wp2_with fail
  refine hon.mono ?_
  rintro e w1 ⟨q1, q2, k1, k2, rfl, ha1, hb1⟩
  have hsh := shift_any (onlyB b s t) (some ⟨q1, 0, none⟩) (some ⟨q2, 0, none⟩) k1 k2 w1 ha1
  clear hon c0 c1 c2 c3 c4 c5
  unfold boV
  go_wp2_with fail
  refine hsh.mono ?_
  rintro e w2 ⟨rfl, hb2⟩
  clear hsh
  unfold spV
  have hw2 : w.heap.size ≤ w2.heap.size := Nat.le_trans hb1.size hb2.size
  have hbb := hb1.trans (hb2.mono hb1.size)
  go_wp2
  go_ret
  refine ⟨ret_bool HBS.out, ?_⟩
  exact (hbb.alloc hw2 _).alloc (by rw [World.size_alloc]; omega) _
end Go.Proofs.Ytjkegmjjhdmkiaa
namespace Go.Proofs.Ytjkegmjjhdmkiaa
open Go.RowKit Go.Shelf
set_option maxHeartbeats 25600000
set_option maxRecDepth 100000
set_option linter.unusedSimpArgs false

theorem andI8 (a b : Nat) (ha : a < 256) (hb : b < 64) : bits .and .i64 (a : Int) (b : Int) = ((a &&& b : Nat) : Int) := by
  have h : ∀ i : Fin 256, ∀ j : Fin 64, bits .and .i64 (i.val : Int) (j.val : Int) = ((i.val &&& j.val : Nat) : Int) := by decide +kernel
  exact h ⟨a, ha⟩ ⟨b, hb⟩

theorem cb1 {a b c d : Nat} (h : (a : Int) + b < c + d) : a + b < c + d := by omega
theorem cb2 {a b c d : Nat} (h : (a : Int) + b = c + d) : a + b = c + d := by omega
theorem cb3 {s f u g : Nat} (h : (s : Int) = f) (k : s < f ∨ u < g) : s = f ∧ u < g := by omega
theorem cb4 {s f : Nat} (h : (s : Int) = f) : s = f := by omega

theorem lawClash_any (b : Bo) (fa sa : Option Addr) (fc sc : Nat) (one other : Int) (h1 : 0 ≤ one ∧ one ≤ 255) (h2 : 0 ≤ other ∧ other ≤ 255) (w : World) (hb : BoArg0 w b fa sa) :
    Calls Try.prog 8 #[.agg #[.int .i64 b.e.lo, .int .i64 b.e.hi, .int .i64 b.n.lo, .int .i64 b.n.hi, .slice fa b.fs.length fc, .slice sa b.ss.length sc], .int .u8 one, .int .u8 other] w fun e w' => e = .returned (.bool true) ∧ Below w.heap.size w w' := by
  have HB0 := Lib.hid hb
  clear hb
  go_enter Try.func8, Try.ntmps8
  go_wp2_with fail
  obtain ⟨W0, hW0⟩ : ∃ W, (w.alloc (.cells #[.int .i64 b.e.lo, .int .i64 b.e.hi, .int .i64 b.n.lo, .int .i64 b.n.hi, .slice fa b.fs.length fc, .slice sa b.ss.length sc] 26)) = W := ⟨_, rfl⟩
  rw [hW0]
  try simp only [Nat.add_assoc, Nat.reduceAdd]
  have hst_W0 : Steps (fun _ => False) w W0 := by rw [← hW0]; exact Steps.alloc _ w _
  have hz_W0 : W0.heap.size = w.heap.size + 1 := by rw [← hW0]; simp
  have g0_W0 : W0.heap[w.heap.size]? = some (.cells #[.int .i64 b.e.lo, .int .i64 b.e.hi, .int .i64 b.n.lo, .int .i64 b.n.hi, .slice fa b.fs.length fc, .slice sa b.ss.length sc] 26) := by rw [← hW0]; simp only [alloc_get, World.size_alloc]; repeat (first | exact if_pos trivial | exact if_pos (by omega) | rw [if_neg (by omega)])
  clear hW0
  have hb0 : Below w.heap.size w W0 := hst_W0.below (Nat.le_refl _) (fun _ _ h => h)
  refine (heavy_any b fa sa fc sc 4 30 W0 (HB0.out.below hb0)).mono ?_
  rintro e w1 ⟨rfl, hb1⟩
  have g1 := obj_later hb1 g0_W0
  replace hb0 := hb0.trans (hb1.mono hb0.size)
  clear hb1 g0_W0
  cases hh : heavyB b 4 30
  case true =>
    clear hh
    go_wp2_with fail
    refine (awake_any _).mono ?_
    rintro e w2 ⟨rfl, hb1⟩
    go_wp2
    go_ret
    exact ⟨rfl, hb0.trans (hb1.mono hb0.size)⟩
  have HB := Lib.hid (HB0.out.small hh)
  clear hh
  have c0 := cell_block g1 0
  have c1 := cell_block g1 1
  have c2 := cell_block g1 2
  have c3 := cell_block g1 3
  have c4 := cell_block g1 4
  have c5 := cell_block g1 5
  simp only [List.getElem?_toArray, List.getElem?_cons_zero, List.getElem?_cons_succ] at c0 c1 c2 c3 c4 c5
  go_wp2_with fail
  refine (clash_any b fa sa fc sc _ (HB.out.below hb0)).mono ?_
  rintro e w2 ⟨he, hb1⟩
  have HE := Lib.hid he
  clear he
  have hcl : ∃ f g n : Nat, f < 64 ∧ g < 64 ∧ e = .returned (.tuple #[.int .i64 f, .int .i64 g, .int .i64 n]) ∧ ((b.ok = false ∧ f = 0 ∧ g = 0 ∧ n = 1) ∨ (b.ok = true ∧ bCan b (sures b.fs) (sures b.ss) = true ∧ f = 0 ∧ g = 0 ∧ n = 4) ∨ (b.ok = true ∧ bCan b (sures b.fs) (sures b.ss) = false ∧ ClashLaw b f g ∧ n = 0)) := by
    have he := HE.out
    unfold ClashOut at he
    cases hok : b.ok with
    | false =>
      rw [hok] at he
      exact ⟨0, 0, 1, by omega, by omega, he, .inl ⟨rfl, rfl, rfl, rfl⟩⟩
    | true =>
      have hl := bo_lens hok
      have hA : sures b.fs < 64 := Nat.lt_of_lt_of_le (sures_lt _) (Nat.pow_le_pow_right (by omega) hl.1)
      have hB : sures b.ss < 64 := Nat.lt_of_lt_of_le (sures_lt _) (Nat.pow_le_pow_right (by omega) hl.2)
      rw [hok, if_pos rfl] at he
      cases hc : bCan b (sures b.fs) (sures b.ss) with
      | true =>
        rw [hc, if_pos rfl] at he
        exact ⟨0, 0, 4, by omega, by omega, he, .inr (.inl ⟨rfl, rfl, rfl, rfl, rfl⟩)⟩
      | false =>
        rw [hc, if_neg (by decide)] at he
        obtain ⟨t, ht, he⟩ := he
        have L := ht.law hA hB
        exact ⟨t / 64, t % 64, 0, L.f6, L.g6, he, .inr (.inr ⟨rfl, rfl, L, rfl⟩)⟩
  clear HE
  obtain ⟨f, g, n, hf6, hg6, rfl, hcl⟩ := hcl
  have HC := Lib.hid hcl
  clear hcl
  have g2 := obj_later hb1 g1
  replace hb0 := hb0.trans (hb1.mono hb0.size)
  clear hb1 g1 c0 c1 c2 c3 c4 c5
  have c0 := cell_block g2 0
  have c1 := cell_block g2 1
  have c2 := cell_block g2 2
  have c3 := cell_block g2 3
  have c4 := cell_block g2 4
  have c5 := cell_block g2 5
  simp only [List.getElem?_toArray, List.getElem?_cons_zero, List.getElem?_cons_succ] at c0 c1 c2 c3 c4 c5
  have hfi : (f : Int) < 64 := by omega
  have hgi : (g : Int) < 64 := by omega
  go_wp2_with fail
  refine (shift_any b fa sa fc sc _ (HB.out.below hb0)).mono ?_
  rintro e w3 ⟨rfl, hb1⟩
  have g3 := obj_later hb1 g2
  replace hb0 := hb0.trans (hb1.mono hb0.size)
  clear hb1 g2 c0 c1 c2 c3 c4 c5
  have c0 := cell_block g3 0
  have c1 := cell_block g3 1
  have c2 := cell_block g3 2
  have c3 := cell_block g3 3
  have c4 := cell_block g3 4
  have c5 := cell_block g3 5
  simp only [List.getElem?_toArray, List.getElem?_cons_zero, List.getElem?_cons_succ] at c0 c1 c2 c3 c4 c5
  unfold spV
  have hS : ∃ m : Nat, (bShift b).2.2 = m ∧ ((b.ok = false ∧ m = 1) ∨ (b.ok = true ∧ bCan b (sures b.fs) (sures b.ss) = true ∧ m = 0) ∨ (b.ok = true ∧ bCan b (sures b.fs) (sures b.ss) = false ∧ m = 4)) := by
    cases hok : b.ok with
    | false => exact ⟨1, by simp [bShift, hok], .inl ⟨rfl, rfl⟩⟩
    | true =>
      have hz := bShift_zero b hok
      cases hc : bCan b (sures b.fs) (sures b.ss) with
      | true =>
        rw [hc] at hz
        exact ⟨0, by simpa using hz.1, .inr (.inl ⟨rfl, rfl, rfl⟩)⟩
      | false =>
        rw [hc] at hz
        exact ⟨4, by simpa using hz.2, .inr (.inr ⟨rfl, rfl, rfl⟩)⟩
  obtain ⟨m, hm, hS⟩ := hS
  rw [hm]
  have HS := Lib.hid hS
  clear hm hS
  generalize (bShift b).1.lo = x1
  generalize (bShift b).1.hi = x2
  generalize (bShift b).2.1.lo = x3
  generalize (bShift b).2.1.hi = x4
  go_upto_region 5 with fail
  obtain ⟨W4, hW4⟩ : ∃ W, ((w3.alloc (.cells #[.int .i64 x1, .int .i64 x2] 23)).alloc (.cells #[.int .i64 x3, .int .i64 x4] 23)) = W := ⟨_, rfl⟩
  rw [hW4]
  try simp only [Nat.add_assoc, Nat.reduceAdd]
  have hst_W4 : Steps (fun _ => False) w3 W4 := by rw [← hW4]; exact (Steps.alloc _ w3 _).trans (Steps.alloc (fun _ => False) _ _) (fun _ _ h => h)
  have hz_W4 : W4.heap.size = w3.heap.size + 2 := by rw [← hW4]; simp
  have g0_W4 : W4.heap[w3.heap.size]? = some (.cells #[.int .i64 x1, .int .i64 x2] 23) := by rw [← hW4]; simp only [alloc_get, World.size_alloc]; repeat (first | exact if_pos trivial | exact if_pos (by omega) | rw [if_neg (by omega)])
  have g1_W4 : W4.heap[w3.heap.size + 1]? = some (.cells #[.int .i64 x3, .int .i64 x4] 23) := by rw [← hW4]; simp only [alloc_get, World.size_alloc]; repeat (first | exact if_pos trivial | exact if_pos (by omega) | rw [if_neg (by omega)])
  clear hW4
  have hb4 : Below w3.heap.size w3 W4 := hst_W4.below (Nat.le_refl _) (fun _ _ h => h)
  have g4 := obj_later hb4 g3
  replace hb0 := hb0.trans (hb4.mono hb0.size)
  clear hb4 g3 c0 c1 c2 c3 c4 c5 g0_W4 g1_W4
  have c0 := cell_block g4 0
  have c1 := cell_block g4 1
  have c2 := cell_block g4 2
  have c3 := cell_block g4 3
  have c4 := cell_block g4 4
  have c5 := cell_block g4 5
  simp only [List.getElem?_toArray, List.getElem?_cons_zero, List.getElem?_cons_succ] at c0 c1 c2 c3 c4 c5
  go_wp2_with fail
  refine (border_any b fa sa fc sc _ (HB.out.below hb0)).mono ?_
  rintro e w5 ⟨rfl, hb1⟩
  have g5 := obj_later hb1 g4
  replace hb0 := hb0.trans (hb1.mono hb0.size)
  clear hb1 g4 c0 c1 c2 c3 c4 c5
  cases hok : b.ok
  case false =>
    obtain ⟨rfl, rfl, rfl, rfl⟩ : f = 0 ∧ g = 0 ∧ n = 1 ∧ m = 1 := by
      have h := HC.out
      have h' := HS.out
      rw [hok] at h h'
      simp at h h'
      exact ⟨h.1, h.2.1, h.2.2, h'⟩
    clear hok
    go_wp2_with fail
    refine (awake_any _).mono ?_
    rintro e w6 ⟨rfl, hb1⟩
    go_wp2
    go_ret
    exact ⟨rfl, hb0.trans (hb1.mono hb0.size)⟩
  have hlens := bo_lens hok
  cases hc : bCan b (sures b.fs) (sures b.ss)
  case true =>
    obtain ⟨rfl, rfl, rfl, rfl⟩ : f = 0 ∧ g = 0 ∧ n = 4 ∧ m = 0 := by
      have h := HC.out
      have h' := HS.out
      rw [hok, hc] at h h'
      simp at h h'
      exact ⟨h.1, h.2.1, h.2.2, h'⟩
    clear hok hc
    go_wp2_with fail
    refine (awake_any _).mono ?_
    rintro e w6 ⟨rfl, hb1⟩
    go_wp2
    go_ret
    exact ⟨rfl, hb0.trans (hb1.mono hb0.size)⟩
  obtain ⟨hL, rfl, rfl⟩ : ClashLaw b f g ∧ n = 0 ∧ m = 4 := by
    have h := HC.out
    have h' := HS.out
    rw [hok, hc] at h h'
    simp at h h'
    exact ⟨h.1, h.2, h'⟩
  have HL := Lib.hid hL
  have HOK := Lib.hid hok
  clear hL hc hok HC HS
  have hA6 : sures b.fs < 64 := Nat.lt_of_lt_of_le (sures_lt _) (Nat.pow_le_pow_right (by omega) hlens.1)
  have hB6 : sures b.ss < 64 := Nat.lt_of_lt_of_le (sures_lt _) (Nat.pow_le_pow_right (by omega) hlens.2)
  have c0 := cell_block g5 0
  have c1 := cell_block g5 1
  have c2 := cell_block g5 2
  have c3 := cell_block g5 3
  have c4 := cell_block g5 4
  have c5 := cell_block g5 5
  simp only [List.getElem?_toArray, List.getElem?_cons_zero, List.getElem?_cons_succ] at c0 c1 c2 c3 c4 c5
  have hbf := (HB.out.below hb0)
  have HBF := Lib.hid hbf
  clear hbf
  go_upto_region 9 with fail
  have k4 : ∀ W', Below w5.heap.size w5 W' → W'.cell? ⟨w.heap.size, 4, none⟩ = some (.slice fa b.fs.length fc) := fun W' h => cell_later h c4
  have k5 : ∀ W', Below w5.heap.size w5 W' → W'.cell? ⟨w.heap.size, 5, none⟩ = some (.slice sa b.ss.length sc) := fun W' h => cell_later h c5
  have hrf := rsures_any fa fc b.fs w5.drew hlens.1 (HBF.out.f.below (below_drew w5) (Nat.le_refl _))
  have hrs := rsures_any sa sc b.ss w5.drew hlens.2 (HBF.out.s.below (below_drew w5) (Nat.le_refl _))
  refine (wpIn_wide (n := 1)).1 ?_
  refine wpIn_region_Wn (S := fun W' => Below w5.heap.size w5 W') 8 (by kernel_rfl) (by kernel_rfl) (below_drew w5) (fun hHeld => ?_)
  refine wpAnyW_takeD 0 74 (v := ?_) (by kernel_rfl) (by kernel_rfl) (by kernel_rfl) (by kernel_rfl) (fun _ _ _ h => h) ?_ (by assumption) ?_
  rotate_left
  · intro oi hoi w hSw; (try dsimp only at hSw); simp only [List.getElem?_toArray, List.getElem?_cons_zero, List.getElem?_cons_succ, Option.some.injEq] at hoi; subst hoi; go_simp; try with_reducible rfl
  simp only [Act.put, List.setIfInBounds_toArray, List.set_cons_zero, List.set_cons_succ]
  refine wpAnyW_takeD 1 75 (v := ?_) (by kernel_rfl) (by kernel_rfl) (by kernel_rfl) (by kernel_rfl) (fun _ _ _ h => h) ?_ (by assumption) ?_
  rotate_left
  · intro oi hoi w hSw; (try dsimp only at hSw); simp only [List.getElem?_toArray, List.getElem?_cons_zero, List.getElem?_cons_succ, Option.some.injEq] at hoi; subst hoi; go_simp; try with_reducible rfl
  simp only [Act.put, List.setIfInBounds_toArray, List.set_cons_zero, List.set_cons_succ]
  refine wpAnyW_takeD 3 77 (v := ?_) (by kernel_rfl) (by kernel_rfl) (by kernel_rfl) (by kernel_rfl) (fun _ _ _ h => h) ?_ (by assumption) ?_
  rotate_left
  · intro oi hoi w hSw; (try dsimp only at hSw); simp only [List.getElem?_toArray, List.getElem?_cons_zero, List.getElem?_cons_succ, Option.some.injEq] at hoi; subst hoi; go_simp; try with_reducible rfl
  simp only [Act.put, List.setIfInBounds_toArray, List.set_cons_zero, List.set_cons_succ]
  refine wpAnyW_takeD 4 78 (v := ?_) (by kernel_rfl) (by kernel_rfl) (by kernel_rfl) (by kernel_rfl) (fun _ _ _ h => h) ?_ (by assumption) ?_
  rotate_left
  · intro oi hoi w hSw; (try dsimp only at hSw); simp only [List.getElem?_toArray, List.getElem?_cons_zero, List.getElem?_cons_succ, Option.some.injEq] at hoi; subst hoi; go_simp; try with_reducible rfl
  simp only [Act.put, List.setIfInBounds_toArray, List.set_cons_zero, List.set_cons_succ]
  refine wpAnyW_one 2 (by kernel_rfl) (by kernel_rfl) ?_
  intro o ho K hK
  simp only [List.getElem?_toArray, List.getElem?_cons_zero, List.getElem?_cons_succ, Option.some.injEq] at ho
  subst ho
  go_simp
  refine ⟨trivial, CallsIn.mono (callsIn_wide.2 hrf) ?_⟩
  rintro e w6 ⟨rfl, rfl⟩
  refine hK _ _ hHeld (fun _ => ?_)
  clear hK K
  try simp only [Act.put, List.setIfInBounds_toArray, List.set_cons_zero, List.set_cons_succ]
  refine wpAnyW_one 5 (by kernel_rfl) (by kernel_rfl) ?_
  intro o ho K hK
  simp only [List.getElem?_toArray, List.getElem?_cons_zero, List.getElem?_cons_succ, Option.some.injEq] at ho
  subst ho
  go_simp
  refine ⟨trivial, CallsIn.mono (callsIn_wide.2 hrs) ?_⟩
  rintro e w6 ⟨rfl, rfl⟩
  refine hK _ _ hHeld (fun _ => ?_)
  clear hK K
  try simp only [Act.put, List.setIfInBounds_toArray, List.set_cons_zero, List.set_cons_succ]
  refine wpAnyW_takeD 6 13 (v := ?_) (by kernel_rfl) (by kernel_rfl) (by kernel_rfl) (by kernel_rfl) (fun _ _ _ h => h) ?_ (by assumption) ?_
  rotate_left
  · intro oi hoi w hSw; (try dsimp only at hSw); simp only [List.getElem?_toArray, List.getElem?_cons_zero, List.getElem?_cons_succ, Option.some.injEq] at hoi; subst hoi; go_simp; try with_reducible rfl
  simp only [Act.put, List.setIfInBounds_toArray, List.set_cons_zero, List.set_cons_succ]
  refine wpAnyW_takeD 7 14 (v := ?_) (by kernel_rfl) (by kernel_rfl) (by kernel_rfl) (by kernel_rfl) (fun _ _ _ h => h) ?_ (by assumption) ?_
  rotate_left
  · intro oi hoi w hSw; (try dsimp only at hSw); simp only [List.getElem?_toArray, List.getElem?_cons_zero, List.getElem?_cons_succ, Option.some.injEq] at hoi; subst hoi; go_simp; try with_reducible rfl
  simp only [Act.put, List.setIfInBounds_toArray, List.set_cons_zero, List.set_cons_succ]
  refine wpAnyW_done (by kernel_rfl) ?_ _
  dsimp only [onNormal]
  have g6 := obj_later hHeld g5
  replace hb0 := hb0.trans (hHeld.mono hb0.size)
  replace HBF := Lib.hid (HBF.out.below hHeld)
  clear hHeld g5 c0 c1 c2 c3 c4 c5 k4 k5 hrf hrs
  generalize w5.drew = w6 at *
  have hfl : f < 2 ^ b.fs.length := by
    have h := (andN_sub0 f _ hf6 hA6).1 HL.out.fa
    exact Nat.lt_of_le_of_lt (by rw [← h]; exact Nat.and_le_right) (sures_lt b.fs)
  have hgl : g < 2 ^ b.ss.length := by
    have h := (andN_sub0 g _ hg6 hB6).1 HL.out.ga
    exact Nat.lt_of_le_of_lt (by rw [← h]; exact Nat.and_le_right) (sures_lt b.ss)
  have hno1 : bits .andNot .i64 (f : Int) (sures b.fs : Int) = 0 := by rw [andNotI f _ hf6 hA6, HL.out.fa]; rfl
  have hno2 : bits .andNot .i64 (g : Int) (sures b.ss : Int) = 0 := by rw [andNotI g _ hg6 hB6, HL.out.ga]; rfl
  go_wp2_with fail
  refine (clashCan_any b fa sa fc sc w.heap.size f g w6 HBF.out HOK.out hfl hgl hf6 hg6 g6).mono ?_
  rintro e w7 ⟨rfl, hb1⟩
  rw [HL.out.no]
  have g7 := obj_later hb1 g6
  replace hb0 := hb0.trans (hb1.mono hb0.size)
  replace HBF := Lib.hid (HBF.out.below hb1)
  clear hb1 g6 hno1 hno2
  go_wp2_with fail
  go_loopw [16, 111] (fun _ i wr => ∃ k : Nat, k ≤ 6 ∧ i = .int .i64 k ∧ Below w7.heap.size w7 wr) (fun _ i _ => 6 - (intOf i).toNat)
  case atStart => exact ⟨0, Nat.zero_le _, rfl, Below.refl _ _⟩
  case round =>
    rename_i wr
    obtain ⟨k, hk, rfl, hbr⟩ := hrel
    have gr := obj_later hbr g7
    have HBR := Lib.hid (HBF.out.below hbr)
    by_cases hlt : k < 6
    · have hki : (k : Int) < 6 := by omega
      have hbf := bitI f k hf6
      have hbg := bitI g k hg6
      have hpw := powI k hk
      have hp64 : 2 ^ k < 64 := Nat.pow_lt_pow_right (by omega) hlt
      have hpc : ((2 ^ k : Nat) : Int) = (2 : Int) ^ k := by simp
      have hxf := andNotI f (2 ^ k) hf6 hp64
      have hxg := andNotI g (2 ^ k) hg6 hp64
      rw [hpc] at hxf hxg
      clear hpc
      cases htf : f.testBit k
      · cases htg : g.testBit k
        · simp only [htf, htg, Bool.false_eq_true, if_false] at hbf hbg
          go_wp2_with fail
          go_roundw
          case rel => exact ⟨k + 1, hlt, by go_num, hbr⟩
          case measure => simp [intOf]; omega
        · simp only [htf, htg, Bool.false_eq_true, if_false, if_true] at hbf hbg
          have hcan := HL.out.lessG k hlt htg
          have h1' := andN_bit1 g k hg6 hlt htg
          have hgl' : andN g (2 ^ k) < 2 ^ b.ss.length := Nat.lt_of_le_of_lt Nat.and_le_left hgl
          have hcl := clashCan_any b fa sa fc sc w.heap.size f (andN g (2 ^ k)) wr HBR.out HOK.out hfl hgl' hf6 h1'.2 gr
          rw [hcan] at hcl
          clear hcan h1' hgl' hxf
          go_wp2_with fail
          refine hcl.mono ?_
          rintro e w8 ⟨rfl, hb1⟩
          go_wp2
          go_roundw
          case rel => exact ⟨k + 1, hlt, by go_num, hbr.trans (hb1.mono hbr.size)⟩
          case measure => simp [intOf]; omega
      · have hcan := HL.out.lessF k hlt htf
        have h1' := andN_bit1 f k hf6 hlt htf
        have hfl' : andN f (2 ^ k) < 2 ^ b.fs.length := Nat.lt_of_le_of_lt Nat.and_le_left hfl
        have hcl := clashCan_any b fa sa fc sc w.heap.size (andN f (2 ^ k)) g wr HBR.out HOK.out hfl' hgl h1'.2 hg6 gr
        rw [hcan] at hcl
        clear hcan h1' hfl'
        cases htg : g.testBit k
        · simp only [htf, htg, Bool.false_eq_true, if_false, if_true] at hbf hbg
          go_wp2_with fail
          refine hcl.mono ?_
          rintro e w8 ⟨rfl, hb1⟩
          go_wp2
          go_roundw
          case rel => exact ⟨k + 1, hlt, by go_num, hbr.trans (hb1.mono hbr.size)⟩
          case measure => simp [intOf]; omega
        · simp only [htf, htg, if_true] at hbf hbg
          have hcan := HL.out.lessG k hlt htg
          have h1' := andN_bit1 g k hg6 hlt htg
          have hgl' : andN g (2 ^ k) < 2 ^ b.ss.length := Nat.lt_of_le_of_lt Nat.and_le_left hgl
          go_wp2_with fail
          refine hcl.mono ?_
          rintro e w8 ⟨rfl, hb1⟩
          have hcl' := clashCan_any b fa sa fc sc w.heap.size f (andN g (2 ^ k)) w8 (HBR.out.below hb1) HOK.out hfl hgl' hf6 h1'.2 (obj_later hb1 gr)
          rw [hcan] at hcl'
          go_wp2_with fail
          refine hcl'.mono ?_
          rintro e w9 ⟨rfl, hb2⟩
          go_wp2
          go_roundw
          case rel => exact ⟨k + 1, hlt, by go_num, (hbr.trans (hb1.mono hbr.size)).trans (hb2.mono (Nat.le_trans hbr.size hb1.size))⟩
          case measure => simp [intOf]; omega
    · obtain rfl : k = 6 := by omega
      obtain ⟨n1, rfl, hn1⟩ : ∃ n : Nat, one = n ∧ n < 256 := ⟨one.toNat, by omega, by omega⟩
      obtain ⟨n2, rfl, hn2⟩ : ∃ n : Nat, other = n ∧ n < 256 := ⟨other.toNat, by omega, by omega⟩
      have hx1 := andI8 n1 _ hn1 hA6
      have hx2 := andI8 n2 _ hn2 hB6
      have hs6 : n1 &&& sures b.fs < 64 := Nat.lt_of_le_of_lt Nat.and_le_right hA6
      have hu6 : n2 &&& sures b.ss < 64 := Nat.lt_of_le_of_lt Nat.and_le_right hB6
      have hsl : n1 &&& sures b.fs < 2 ^ b.fs.length := Nat.lt_of_le_of_lt Nat.and_le_right (sures_lt b.fs)
      have hul : n2 &&& sures b.ss < 2 ^ b.ss.length := Nat.lt_of_le_of_lt Nat.and_le_right (sures_lt b.ss)
      have hsA : andN (n1 &&& sures b.fs) (sures b.fs) = 0 := (andN_sub0 _ _ hs6 hA6).2 (by rw [Nat.and_assoc, Nat.and_self])
      have huB : andN (n2 &&& sures b.ss) (sures b.ss) = 0 := (andN_sub0 _ _ hu6 hB6).2 (by rw [Nat.and_assoc, Nat.and_self])
      have hfirst := HL.out.first _ _ hs6 hu6 hsA huB
      have hcl := clashCan_any b fa sa fc sc w.heap.size (n1 &&& sures b.fs) (n2 &&& sures b.ss) wr HBR.out HOK.out hsl hul hs6 hu6 gr
      have hr1 := rsize_any _ hs6 wr
      have hr2 := rsize_any _ hu6 wr
      have hr3 := rsize_any _ hf6 wr
      have hr4 := rsize_any _ hg6 wr
      clear hsA huB
      obtain ⟨s, hs⟩ : ∃ s, n1 &&& sures b.fs = s := ⟨_, rfl⟩
      obtain ⟨u, hu⟩ : ∃ u, n2 &&& sures b.ss = u := ⟨_, rfl⟩
      rw [hs] at hx1 hs6 hsl hfirst hcl hr1
      rw [hu] at hx2 hu6 hul hfirst hcl hr2
      have p1 := popc_le 12 s
      have p2 := popc_le 12 u
      have p3 := popc_le 12 f
      have p4 := popc_le 12 g
      obtain ⟨v1, e1⟩ : ∃ x, popc 12 s = x := ⟨_, rfl⟩
      obtain ⟨v2, e2⟩ : ∃ x, popc 12 u = x := ⟨_, rfl⟩
      obtain ⟨v3, e3⟩ : ∃ x, popc 12 f = x := ⟨_, rfl⟩
      obtain ⟨v4, e4⟩ : ∃ x, popc 12 g = x := ⟨_, rfl⟩
      rw [e1] at p1 hfirst hr1
      rw [e2] at p2 hfirst hr2
      rw [e3] at p3 hfirst hr3
      rw [e4] at p4 hfirst hr4
      clear hs hu e1 e2 e3 e4
      have HF := Lib.hid hfirst
      clear hfirst
      have q1 : (v1 : Int) ≤ 12 := by omega
      have q2 : (v2 : Int) ≤ 12 := by omega
      have q3 : (v3 : Int) ≤ 12 := by omega
      have q4 : (v4 : Int) ≤ 12 := by omega
      have hsi : (s : Int) < 64 := by omega
      have hui : (u : Int) < 64 := by omega
      go_wp2_with fail
      refine hr1.mono ?_
      rintro e w' ⟨rfl, rfl⟩
      go_wp2_with fail
      refine hr2.mono ?_
      rintro e w' ⟨rfl, rfl⟩
      go_wp2_with fail
      refine hr3.mono ?_
      rintro e w' ⟨rfl, rfl⟩
      go_wp2_with fail
      refine hr4.mono ?_
      rintro e w' ⟨rfl, rfl⟩
      go_wp2_with fail
      all_goals first
        | (refine (awake_any _).mono ?_
           rintro e w8 ⟨rfl, hb1⟩
           go_wp2
           go_ret
           exact ⟨rfl, (hb0.trans (hbr.mono hb0.size)).trans (hb1.mono (Nat.le_trans hb0.size hbr.size))⟩)
        | (have hct := HF.out (by first | exact .inl (cb1 ‹_›) | exact .inr ⟨cb2 ‹_›, .inl (Nat.lt_of_not_le ‹¬ f ≤ s›)⟩ | exact .inr ⟨cb2 ‹_›, .inr (cb3 ‹_› ‹_›)⟩)
           rw [hct] at hcl
           (try (have hsf : s = f := cb4 (by assumption); subst hsf))
           refine hcl.mono ?_
           rintro e w8 ⟨rfl, hb1⟩
           go_wp2_with fail
           refine (awake_any _).mono ?_
           rintro e w9 ⟨rfl, hb2⟩
           go_wp2
           go_ret
           exact ⟨rfl, ((hb0.trans (hbr.mono hb0.size)).trans (hb1.mono (Nat.le_trans hb0.size hbr.size))).trans (hb2.mono (Nat.le_trans hb0.size (Nat.le_trans hbr.size hb1.size)))⟩)
end Go.Proofs.Ytjkegmjjhdmkiaa
