/- The document's answer: the fewest stars that contradict each other, walked. The document's answer: the fewest stars that contradict each other, walked: whole. The law BorderStars, walked. -/
import Derived.Test.YtjkegmjjhdmkiaaBS28
import Derived.Test.YtjkegmjjhdmkiaaBS21
import Derived.Test.YtjkegmjjhdmkiaaBS29
import Derived.Test.YtjkegmjjhdmkiaaBS30
namespace Go.Proofs.Ytjkegmjjhdmkiaa
open Go.RowKit Go.Shelf
set_option maxHeartbeats 12800000
set_option maxRecDepth 100000
set_option linter.unusedSimpArgs false
set_option linter.unusedVariables false

theorem andN_half (s A : Nat) (hs : s < 64) (hA : A < 64) : andN s A = 0 ↔ s % 2 ≤ A % 2 ∧ andN (s / 2) (A / 2) = 0 := by
  have h' : ∀ x y : Fin 64, andN x.val y.val = 0 ↔ x.val % 2 ≤ y.val % 2 ∧ andN (x.val / 2) (y.val / 2) = 0 := by decide +kernel
  exact h' ⟨s, hs⟩ ⟨A, hA⟩
theorem andN_0 (A : Nat) (hA : A < 64) : andN 0 A = 0 := by
  have h' : ∀ y : Fin 64, andN 0 y.val = 0 := by decide +kernel
  exact h' ⟨A, hA⟩
theorem popc_within (s A : Nat) (hs : s < 64) (hA : A < 64) (h : andN s A = 0) : popc 12 s ≤ popc 12 A ∧ (popc 12 s = popc 12 A → s = A) := by
  have h' : ∀ x y : Fin 64, andN x.val y.val = 0 → popc 12 x.val ≤ popc 12 y.val ∧ (popc 12 x.val = popc 12 y.val → x.val = y.val) := by decide +kernel
  exact h' ⟨s, hs⟩ ⟨A, hA⟩ h
theorem within_le (s A : Nat) (hs : s < 64) (hA : A < 64) (h : andN s A = 0) : s ≤ A := by
  rw [andN_sub0 _ _ hs hA] at h
  rw [← h]; exact Nat.and_le_right

/-- The fewest so far. -/
structure Scan (b : Bo) (s t x y : Nat) : Prop where
  x6 : x < 64
  y6 : y < 64
  xa : andN x (sures b.fs) = 0
  ya : andN y (sures b.ss) = 0
  no : bCan b x y = false
  few : ∀ s' t', s' < 64 → t' < 64 → andN s' (sures b.fs) = 0 → andN t' (sures b.ss) = 0 → bCan b s' t' = false → (s' < s ∨ s' = s ∧ t' < t) → popc 12 x + popc 12 y ≤ popc 12 s' + popc 12 t'
  first : ∀ s' t', s' < 64 → t' < 64 → andN s' (sures b.fs) = 0 → andN t' (sures b.ss) = 0 → bCan b s' t' = false → (s' < x ∨ s' = x ∧ t' < y) → popc 12 x + popc 12 y ≠ popc 12 s' + popc 12 t'
theorem Scan.start {b : Bo} (hF : sures b.fs < 64) (hS : sures b.ss < 64) (h : bCan b (sures b.fs) (sures b.ss) = false) : Scan b 0 0 (sures b.fs) (sures b.ss) := by
  refine ⟨hF, hS, (andN_sub0 _ _ hF hF).2 (Nat.and_self _), (andN_sub0 _ _ hS hS).2 (Nat.and_self _), h, fun s' t' _ _ _ _ _ h => by omega, fun s' t' h1 h2 h3 h4 _ h6 h7 => ?_⟩
  have k1 := popc_within _ _ h1 hF h3
  have k2 := popc_within _ _ h2 hS h4
  have e1 := k1.2 (by omega)
  have e2 := k2.2 (by omega)
  omega
theorem Scan.next {b : Bo} {s t x y : Nat} (h : Scan b s t x y) (hn : andN s (sures b.fs) = 0 → andN t (sures b.ss) = 0 → popc 12 s + popc 12 t < popc 12 x + popc 12 y → bCan b s t = true) : Scan b s (t + 1) x y := by
  refine ⟨h.x6, h.y6, h.xa, h.ya, h.no, fun s' t' h1 h2 h3 h4 h5 h6 => ?_, h.first⟩
  by_cases e : s' = s ∧ t' = t
  · obtain ⟨rfl, rfl⟩ := e
    apply Classical.byContradiction
    intro hlt
    have := hn h3 h4 (by omega)
    rw [h5] at this
    cases this
  · exact h.few s' t' h1 h2 h3 h4 h5 (by omega)
theorem Scan.row {b : Bo} {s x y : Nat} (hS : sures b.ss < 64) (h : Scan b s (sures b.ss + 1) x y) : Scan b (s + 1) 0 x y := by
  refine ⟨h.x6, h.y6, h.xa, h.ya, h.no, fun s' t' h1 h2 h3 h4 h5 h6 => ?_, h.first⟩
  have := within_le _ _ h2 hS h4
  exact h.few s' t' h1 h2 h3 h4 h5 (by omega)
theorem Scan.take {b : Bo} {s t x y : Nat} (h : Scan b s t x y) (hs : s < 64) (ht : t < 64) (h1 : andN s (sures b.fs) = 0) (h2 : andN t (sures b.ss) = 0) (hlt : popc 12 s + popc 12 t < popc 12 x + popc 12 y) (hno : bCan b s t = false) : Scan b s (t + 1) s t := by
  refine ⟨hs, ht, h1, h2, hno, fun s' t' k1 k2 k3 k4 k5 k6 => ?_, fun s' t' k1 k2 k3 k4 k5 k6 => ?_⟩
  · by_cases e : s' = s ∧ t' = t
    · obtain ⟨rfl, rfl⟩ := e; omega
    · have := h.few s' t' k1 k2 k3 k4 k5 (by omega)
      omega
  · have := h.few s' t' k1 k2 k3 k4 k5 k6
    omega
theorem Scan.stop {b : Bo} {x y : Nat} (hF : sures b.fs < 64) (hS : sures b.ss < 64) (h : Scan b (sures b.fs + 1) 0 x y) : IsClash b (x * 64 + y) := by
  have hdiv : (x * 64 + y) / 64 = x := by have := h.y6; omega
  have hmod : (x * 64 + y) % 64 = y := by have := h.y6; omega
  have hx := within_le _ _ h.x6 hF h.xa
  have hy := within_le _ _ h.y6 hS h.ya
  have hall : ∀ t', t' ≤ allSure b → andN t' (allSure b) = 0 → t' / 64 < 64 ∧ t' % 64 < 64 ∧ t' = t' / 64 * 64 + t' % 64 ∧ andN (t' / 64) (sures b.fs) = 0 ∧ andN (t' % 64) (sures b.ss) = 0 := by
    intro t' h1 h2
    unfold allSure at h1 h2
    have h3 : t' / 64 < 64 := by omega
    have h4 : t' % 64 < 64 := by omega
    have h5 : t' = t' / 64 * 64 + t' % 64 := by omega
    rw [h5] at h2
    obtain ⟨h6, h7⟩ := (andN_two _ _ _ _ h3 h4 hF hS).1 h2
    exact ⟨h3, h4, h5, h6, h7⟩
  have hle : x * 64 + y ≤ allSure b := by unfold allSure; omega
  refine ⟨hle, ?_, ?_, fun t' h1 h2 h3 => ?_, fun t' h1 h2 h3 => ?_⟩
  · unfold allSure
    exact (andN_two _ _ _ _ h.x6 h.y6 hF hS).2 ⟨h.xa, h.ya⟩
  · unfold canSet
    rw [hdiv, hmod]; exact h.no
  · obtain ⟨k1, k2, k3, k4, k5⟩ := hall t' h1 h2
    have hp := popc_two x y h.x6 h.y6
    have hq := popc_two (t' / 64) (t' % 64) k1 k2
    rw [← k3] at hq
    cases hc : canSet b t'
    · have := h.few _ _ k1 k2 k4 k5 hc (by have := within_le _ _ k1 hF k4; omega)
      omega
    · rfl
  · obtain ⟨k1, k2, k3, k4, k5⟩ := hall t' (by omega) h2
    have hp := popc_two x y h.x6 h.y6
    have hq := popc_two (t' / 64) (t' % 64) k1 k2
    rw [← k3] at hq
    cases hc : canSet b t'
    · have := h.first _ _ k1 k2 k4 k5 hc (by have := h.y6; omega)
      omega
    · rfl
theorem IsClash.one {b : Bo} {t t' : Nat} (h : IsClash b t) (k : IsClash b t') : t = t' := by
  have h1 := h.no
  have k1 := k.no
  by_cases e1 : popc 12 t < popc 12 t'
  · have := k.few t h.le h.sub e1
    rw [h1] at this; cases this
  by_cases e2 : popc 12 t' < popc 12 t
  · have := h.few t' k.le k.sub e2
    rw [k1] at this; cases this
  by_cases e3 : t < t'
  · have := k.least t e3 h.sub (by omega)
    rw [h1] at this; cases this
  by_cases e4 : t' < t
  · have := h.least t' e4 k.sub (by omega)
    rw [k1] at this; cases this
  omega

theorem rwithin_any (s A : Nat) (hs : s < 64) (hA : A < 64) (w : World) : Calls Try.prog 60 #[.int .i64 s, .int .i64 A] w fun e w' => e = .returned (.bool (decide (andN s A = 0))) ∧ w = w' := by
  go_enter Try.func60, Try.ntmps60
  go_wp2
  go_loopw [0, 1] (fun t o wr => wr = w ∧ ∃ (k m : Nat), t = .int .i64 k ∧ o = .int .i64 m ∧ k < 64 ∧ m < 64 ∧ (andN k m = 0 ↔ andN s A = 0)) (fun t _ _ => (intOf t).toNat)
  case atStart => exact ⟨rfl, s, A, rfl, rfl, hs, hA, Iff.rfl⟩
  case round =>
    obtain ⟨rfl, k, m, rfl, rfl, hk, hm, hkm⟩ := hrel
    have hh := andN_half k m hk hm
    have HK := Lib.hid hkm
    have HH := Lib.hid hh
    have hki : (k : Int) < 64 := by omega
    have hmi : (m : Int) < 64 := by omega
    clear hkm hh
    by_cases h0 : 0 < k
    · have hk0 : 0 < (k : Int) := by omega
      by_cases hb : m % 2 < k % 2
      · have hbi : (m : Int) % 2 < (k : Int) % 2 := by omega
        have HB := Lib.hid hb
        go_wp2
        go_ret
        exact ⟨ret_bool (decide_eq_false (fun h => by have h1 := (HH.out.1 (HK.out.2 h)).1; have := HB.out; omega)).symm, rfl⟩
      · have hbi : ¬ (m : Int) % 2 < (k : Int) % 2 := by omega
        have HB := Lib.hid hb
        go_wp2
        go_roundw
        case rel => exact ⟨trivial, k / 2, m / 2, by go_num, by go_num, by omega, by omega, ⟨fun h => HK.out.1 (HH.out.2 ⟨by have := HB.out; omega, h⟩), fun h => (HH.out.1 (HK.out.2 h)).2⟩⟩
        case measure => simp [intOf]; omega
    · obtain rfl : k = 0 := by omega
      have hz := andN_0 m hm
      have HZ := Lib.hid hz
      clear hz
      go_wp2
      go_ret
      exact ⟨ret_bool (decide_eq_true (HK.out.1 HZ.out)).symm, rfl⟩
end Go.Proofs.Ytjkegmjjhdmkiaa
namespace Go.Proofs.Ytjkegmjjhdmkiaa
open Go.RowKit Go.Shelf
set_option maxHeartbeats 12800000
set_option maxRecDepth 100000
set_option linter.unusedSimpArgs false
set_option linter.unusedVariables false

theorem rclash_any (b : Bo) (fa sa : Option Addr) (fc sc : Nat) (w : World) (hb : BoArg w b fa sa) :
    Calls Try.prog 26 #[.agg #[.int .i64 b.e.lo, .int .i64 b.e.hi, .int .i64 b.n.lo, .int .i64 b.n.hi, .slice fa b.fs.length fc, .slice sa b.ss.length sc]] w (ClashPost b w) := by
  have HB := Lib.hid hb
  clear hb
  go_enter Try.func26, Try.ntmps26
  go_wp2_with fail
  obtain ⟨W0, hW0⟩ : ∃ W, (w.alloc (.cells #[.int .i64 b.e.lo, .int .i64 b.e.hi, .int .i64 b.n.lo, .int .i64 b.n.hi, .slice fa b.fs.length fc, .slice sa b.ss.length sc] 26)) = W := ⟨_, rfl⟩
  rw [hW0]
  try simp only [Nat.add_assoc, Nat.reduceAdd]
  have hst_W0 : Steps (fun _ => False) w W0 := by rw [← hW0]; exact Steps.alloc _ w _
  have hz_W0 : W0.heap.size = w.heap.size + 1 := by rw [← hW0]; simp
  have g0_W0 : W0.heap[w.heap.size]? = some (.cells #[.int .i64 b.e.lo, .int .i64 b.e.hi, .int .i64 b.n.lo, .int .i64 b.n.hi, .slice fa b.fs.length fc, .slice sa b.ss.length sc] 26) := by rw [← hW0]; simp only [alloc_get, World.size_alloc]; repeat (first | exact if_pos trivial | exact if_pos (by omega) | rw [if_neg (by omega)])
  clear hW0
  have hb0 : Below w.heap.size w W0 := hst_W0.below (Nat.le_refl _) (fun _ _ h => h)
  clear hst_W0 hz_W0
  refine (border_any b fa sa fc sc _ (HB.out.below hb0)).mono ?_
  rintro e w1 ⟨rfl, hb1⟩
  have g1 := obj_later hb1 g0_W0
  replace hb0 := hb0.trans (hb1.mono hb0.size)
  clear hb1 g0_W0
  cases hok : b.ok
  case false =>
    have HO : Hid (ClashOut b (.returned (.tuple #[.int .i64 0, .int .i64 0, .int .i64 1]))) := Lib.hid (by unfold ClashOut; rw [hok, if_neg (by decide)])
    clear hok
    go_wp2
    refine bodyPost_ret (v := .tuple #[.int .i64 0, .int .i64 0, .int .i64 1]) (by simp [results, Try.results26, go_sem]) rfl ⟨HO.out, hb0⟩
  case true =>
    have HOK := Lib.hid hok
    have hlens := bo_lens hok
    have hF : sures b.fs < 64 := Nat.lt_of_lt_of_le (sures_lt b.fs) (Nat.le_trans (Nat.pow_le_pow_right (by decide) hlens.1) (by decide))
    have hS : sures b.ss < 64 := Nat.lt_of_lt_of_le (sures_lt b.ss) (Nat.le_trans (Nat.pow_le_pow_right (by decide) hlens.2) (by decide))
    have hFl := sures_lt b.fs
    have hSl := sures_lt b.ss
    have HFS := Lib.hid (And.intro hFl hSl)
    have HLE := Lib.hid hlens
    clear hok hFl hSl hlens
    go_upto_region 3 with fail
    have ltp := (Array.getElem?_eq_some_iff.1 g1).1
    have S4 : ∀ W', Below w1.heap.size w1 W' → W'.cell? ⟨w.heap.size, 4, none⟩ = some (.slice fa b.fs.length fc) := fun W' h => cell_block ((h.block _ ltp).trans g1) 4
    have S5 : ∀ W', Below w1.heap.size w1 W' → W'.cell? ⟨w.heap.size, 5, none⟩ = some (.slice sa b.ss.length sc) := fun W' h => cell_block ((h.block _ ltp).trans g1) 5
    refine (wpIn_wide (n := 1)).1 ?_
    refine wpIn_region_Wn (S := Below w1.heap.size w1) 8 (by kernel_rfl) (by kernel_rfl) (below_drew w1) (fun hHeld => ?_)
    refine wpAnyW_takeD 0 14 (v := ?_) (by kernel_rfl) (by kernel_rfl) (by kernel_rfl) (by kernel_rfl) (fun _ _ _ h => h) ?_ (by assumption) ?_
    rotate_left
    · intro oi hoi w hSw; (try dsimp only at hSw); simp only [List.getElem?_toArray, List.getElem?_cons_zero, List.getElem?_cons_succ, Option.some.injEq] at hoi; subst hoi; go_simp; try with_reducible rfl
    simp only [Act.put, List.setIfInBounds_toArray, List.set_cons_zero, List.set_cons_succ]
    refine wpAnyW_takeD 1 15 (v := ?_) (by kernel_rfl) (by kernel_rfl) (by kernel_rfl) (by kernel_rfl) (fun _ _ _ h => h) ?_ (by assumption) ?_
    rotate_left
    · intro oi hoi w hSw; (try dsimp only at hSw); simp only [List.getElem?_toArray, List.getElem?_cons_zero, List.getElem?_cons_succ, Option.some.injEq] at hoi; subst hoi; go_simp; try with_reducible rfl
    simp only [Act.put, List.setIfInBounds_toArray, List.set_cons_zero, List.set_cons_succ]
    refine wpAnyW_takeD 3 17 (v := ?_) (by kernel_rfl) (by kernel_rfl) (by kernel_rfl) (by kernel_rfl) (fun _ _ _ h => h) ?_ (by assumption) ?_
    rotate_left
    · intro oi hoi w hSw; (try dsimp only at hSw); simp only [List.getElem?_toArray, List.getElem?_cons_zero, List.getElem?_cons_succ, Option.some.injEq] at hoi; subst hoi; go_simp; try with_reducible rfl
    simp only [Act.put, List.setIfInBounds_toArray, List.set_cons_zero, List.set_cons_succ]
    refine wpAnyW_takeD 4 18 (v := ?_) (by kernel_rfl) (by kernel_rfl) (by kernel_rfl) (by kernel_rfl) (fun _ _ _ h => h) ?_ (by assumption) ?_
    rotate_left
    · intro oi hoi w hSw; (try dsimp only at hSw); simp only [List.getElem?_toArray, List.getElem?_cons_zero, List.getElem?_cons_succ, Option.some.injEq] at hoi; subst hoi; go_simp; try with_reducible rfl
    simp only [Act.put, List.setIfInBounds_toArray, List.set_cons_zero, List.set_cons_succ]
    refine wpAnyW_one 2 (by kernel_rfl) (by kernel_rfl) ?_
    intro o ho K hK
    simp only [List.getElem?_toArray, List.getElem?_cons_zero, List.getElem?_cons_succ, Option.some.injEq] at ho
    subst ho
    go_simp
    refine ⟨trivial, CallsIn.mono (callsIn_wide.2 (rsures_any fa fc b.fs _ HLE.out.1 (HB.out.below (hb0.trans (hHeld.mono hb0.size))).f)) ?_⟩
    rintro e w2 ⟨rfl, rfl⟩
    refine hK _ _ hHeld (fun _ => ?_)
    clear hK K
    try simp only [Act.put, List.setIfInBounds_toArray, List.set_cons_zero, List.set_cons_succ]
    refine wpAnyW_one 5 (by kernel_rfl) (by kernel_rfl) ?_
    intro o ho K hK
    simp only [List.getElem?_toArray, List.getElem?_cons_zero, List.getElem?_cons_succ, Option.some.injEq] at ho
    subst ho
    go_simp
    refine ⟨trivial, CallsIn.mono (callsIn_wide.2 (rsures_any sa sc b.ss _ HLE.out.2 (HB.out.below (hb0.trans (hHeld.mono hb0.size))).s)) ?_⟩
    rintro e w2 ⟨rfl, rfl⟩
    refine hK _ _ hHeld (fun _ => ?_)
    clear hK K
    try simp only [Act.put, List.setIfInBounds_toArray, List.set_cons_zero, List.set_cons_succ]
    refine wpAnyW_takeD 6 5 (v := ?_) (by kernel_rfl) (by kernel_rfl) (by kernel_rfl) (by kernel_rfl) (fun _ _ _ h => h) ?_ (by assumption) ?_
    rotate_left
    · intro oi hoi w hSw; (try dsimp only at hSw); simp only [List.getElem?_toArray, List.getElem?_cons_zero, List.getElem?_cons_succ, Option.some.injEq] at hoi; subst hoi; go_simp; try with_reducible rfl
    simp only [Act.put, List.setIfInBounds_toArray, List.set_cons_zero, List.set_cons_succ]
    refine wpAnyW_takeD 7 6 (v := ?_) (by kernel_rfl) (by kernel_rfl) (by kernel_rfl) (by kernel_rfl) (fun _ _ _ h => h) ?_ (by assumption) ?_
    rotate_left
    · intro oi hoi w hSw; (try dsimp only at hSw); simp only [List.getElem?_toArray, List.getElem?_cons_zero, List.getElem?_cons_succ, Option.some.injEq] at hoi; subst hoi; go_simp; try with_reducible rfl
    simp only [Act.put, List.setIfInBounds_toArray, List.set_cons_zero, List.set_cons_succ]
    refine wpAnyW_done (by kernel_rfl) ?_ _
    dsimp only [onNormal]
    have hb2 := hb0.trans (hHeld.mono hb0.size)
    have g2 := obj_later hHeld g1
    clear S4 S5 hHeld ltp g1 hb0
    generalize w1.drew = w2 at hb2 g2 ⊢
    have c0 := cell_block g2 0
    have c1 := cell_block g2 1
    have c2 := cell_block g2 2
    have c3 := cell_block g2 3
    have c4 := cell_block g2 4
    have c5 := cell_block g2 5
    simp only [List.getElem?_toArray, List.getElem?_cons_zero, List.getElem?_cons_succ] at c0 c1 c2 c3 c4 c5
    go_wp2_with fail
    refine (rall_any b fa sa fc sc HOK.out _ (HB.out.below hb2)).mono ?_
    rintro e w3 ⟨a, c, rfl, hR, hb3⟩
    have hb4 := hb2.trans (hb3.mono hb2.size)
    have g3 := obj_later hb3 g2
    have HNI := Lib.hid (allOf_nil b (sures b.fs) (sures b.ss))
    have hll := allOf_len HOK.out (sures b.fs) (sures b.ss)
    clear c0 c1 c2 c3 c4 c5 g2 hb2 hb3 hR
    cases hcan : bCan b (sures b.fs) (sures b.ss)
    case true =>
      have HO : Hid (ClashOut b (.returned (.tuple #[.int .i64 0, .int .i64 0, .int .i64 4]))) := Lib.hid (by unfold ClashOut; rw [HOK.out, if_pos rfl, hcan, if_pos rfl])
      have hne : allOf b (sures b.fs) (sures b.ss) ≠ [] := fun h => by rw [HNI.out, hcan] at h; cases h
      have hpos := List.length_pos_iff.2 hne
      clear hcan hne
      generalize (allOf b (sures b.fs) (sures b.ss)).length = n at hll hpos ⊢
      have hp0 : (0 : Int) < (n : Int) := by omega
      go_wp2
      refine bodyPost_ret (v := .tuple #[.int .i64 0, .int .i64 0, .int .i64 4]) (by simp [results, Try.results26, go_sem]) rfl ⟨HO.out, hb4⟩
    have HCAN := Lib.hid hcan
    have hnil : allOf b (sures b.fs) (sures b.ss) = [] := HNI.out.2 hcan
    have HST := Lib.hid (Scan.start hF hS hcan)
    rw [hnil]
    clear hcan hnil hll HNI
    have hF0 : (0 : Int) ≤ (sures b.fs : Int) := by omega
    have HSTOP : Hid (∀ x y, Scan b (sures b.fs + 1) 0 x y → IsClash b (x * 64 + y)) := Lib.hid (fun x y h => h.stop hF hS)
    have HROW : Hid (∀ s x y, Scan b s (sures b.ss + 1) x y → Scan b (s + 1) 0 x y) := Lib.hid (fun s x y h => h.row hS)
    have HNEXT : Hid (∀ s t x y, Scan b s t x y → (andN s (sures b.fs) = 0 → andN t (sures b.ss) = 0 → popc 12 s + popc 12 t < popc 12 x + popc 12 y → bCan b s t = true) → Scan b s (t + 1) x y) := Lib.hid (fun s t x y h k => h.next k)
    have HTAKE : Hid (∀ s t x y, Scan b s t x y → s < 64 → t < 64 → andN s (sures b.fs) = 0 → andN t (sures b.ss) = 0 → popc 12 s + popc 12 t < popc 12 x + popc 12 y → bCan b s t = false → Scan b s (t + 1) s t) := Lib.hid (fun s t x y h k1 k2 k3 k4 k5 k6 => h.take k1 k2 k3 k4 k5 k6)
    have HLIM : Hid (∀ s, s < 64 → andN s (sures b.fs) = 0 → s < 2 ^ b.fs.length) := Lib.hid (fun s h k => Nat.lt_of_le_of_lt (within_le _ _ h hF k) HFS.out.1)
    have HLIM2 : Hid (∀ s, s < 64 → andN s (sures b.ss) = 0 → s < 2 ^ b.ss.length) := Lib.hid (fun s h k => Nat.lt_of_le_of_lt (within_le _ _ h hS k) HFS.out.2)
    have HOUT : Hid (∀ t, IsClash b t → ClashOut b (.returned (.tuple #[.int .i64 (t / 64 : Nat), .int .i64 (t % 64 : Nat), .int .i64 0]))) := Lib.hid (fun t h => by unfold ClashOut; rw [HOK.out, if_pos rfl, HCAN.out, if_neg (by decide)]; exact ⟨t, h, rfl⟩)
    obtain ⟨F, hFe⟩ : ∃ F, sures b.fs = F := ⟨_, rfl⟩
    obtain ⟨S, hSe⟩ : ∃ S, sures b.ss = S := ⟨_, rfl⟩
    rw [hFe] at hF HST HSTOP HNEXT HTAKE HLIM ⊢
    rw [hSe] at hS HST HROW HNEXT HTAKE HLIM2 ⊢
    clear hF0 hFe hSe
    have hFi : (F : Int) < 64 := by omega
    have hSi : (S : Int) < 64 := by omega
    have hll0 : ¬ (0 : Int) < ((([] : List Joined).length : Nat) : Int) := by simp
    go_wp2_with fail
    go_loopw [7, 8, 9] (fun vx vy vs wr => ∃ s x y : Nat, s ≤ F + 1 ∧ vs = .int .i64 s ∧ vx = .int .i64 x ∧ vy = .int .i64 y ∧ Scan b s 0 x y ∧ Below w3.heap.size w3 wr) (fun _ _ vs _ => (F + 1) - (intOf vs).toNat)
    case atStart => exact ⟨0, F, S, Nat.zero_le _, rfl, rfl, rfl, HST.out, Below.refl _ _⟩
    case round =>
      obtain ⟨wo, rfl⟩ : ∃ z, z = wr := ⟨_, rfl⟩
      obtain ⟨s, x, y, hs, rfl, rfl, rfl, hsc, hbo⟩ := hrel
      by_cases hlt : s ≤ F
      · have hsi : (s : Int) ≤ (F : Int) := by omega
        have HSC := Lib.hid hsc
        clear hsc
        go_wp2_with fail
        go_loopw [7, 8, 10] (fun vx vy vt wr => ∃ t x y : Nat, t ≤ S + 1 ∧ vt = .int .i64 t ∧ vx = .int .i64 x ∧ vy = .int .i64 y ∧ Scan b s t x y ∧ Below w3.heap.size w3 wr) (fun _ _ vt _ => (S + 1) - (intOf vt).toNat)
        case atStart => exact ⟨0, x, y, Nat.zero_le _, rfl, rfl, rfl, HSC.out, hbo⟩
        case round =>
          obtain ⟨t, x, y, ht, rfl, rfl, rfl, hsc, hbr⟩ := hrel
          have hs64 : s < 64 := by omega
          have hx6 := hsc.x6
          have hy6 := hsc.y6
          have HSC2 := Lib.hid hsc
          clear hsc HSC
          by_cases hlt2 : t ≤ S
          · have hti : (t : Int) ≤ (S : Int) := by omega
            have ht64 : t < 64 := by omega
            have HW1 := Lib.hid (fun W => rwithin_any s F hs64 hF W)
            have HW2 := Lib.hid (fun W => rwithin_any t S ht64 hS W)
            have HZ1 := Lib.hid (fun W => rsize_any s hs64 W)
            have HZ2 := Lib.hid (fun W => rsize_any t ht64 W)
            have HZ3 := Lib.hid (fun W => rsize_any x hx6 W)
            have HZ4 := Lib.hid (fun W => rsize_any y hy6 W)
            have HN := Lib.hid (HNEXT.out s t x y HSC2.out)
            have HT := Lib.hid (HTAKE.out s t x y HSC2.out hs64 ht64)
            have gr := obj_later hbr g3
            have b1 := popc_le 12 s
            have b2 := popc_le 12 t
            have b3 := popc_le 12 x
            have b4 := popc_le 12 y
            generalize popc 12 s = n1 at HZ1 HN HT b1
            generalize popc 12 t = n2 at HZ2 HN HT b2
            generalize popc 12 x = n3 at HZ3 HN HT b3
            generalize popc 12 y = n4 at HZ4 HN HT b4
            have d1 : (n1 : Int) ≤ 12 := by omega
            have d2 : (n2 : Int) ≤ 12 := by omega
            have d3 : (n3 : Int) ≤ 12 := by omega
            have d4 : (n4 : Int) ≤ 12 := by omega
            go_wp2_with fail
            refine (HW1.out _).mono ?_
            rintro e w' ⟨rfl, rfl⟩
            by_cases q1 : andN s F = 0
            case neg =>
              have Q1 := Lib.hid q1
              rw [decide_eq_false q1]
              clear q1
              go_wp2_with fail
              go_roundw
              case rel => exact ⟨t + 1, x, y, by omega, by go_num, rfl, rfl, HN.out (fun h => absurd h Q1.out), hbr⟩
              case measure => simp [intOf]; omega
            have Q1 := Lib.hid q1
            rw [decide_eq_true q1]
            clear q1
            go_wp2_with fail
            refine (HW2.out _).mono ?_
            rintro e w' ⟨rfl, rfl⟩
            by_cases q2 : andN t S = 0
            case neg =>
              have Q2 := Lib.hid q2
              rw [decide_eq_false q2]
              clear q2
              go_wp2_with fail
              go_roundw
              case rel => exact ⟨t + 1, x, y, by omega, by go_num, rfl, rfl, HN.out (fun _ h => absurd h Q2.out), hbr⟩
              case measure => simp [intOf]; omega
            have Q2 := Lib.hid q2
            rw [decide_eq_true q2]
            clear q2
            go_wp2_with fail
            refine (HZ1.out _).mono ?_
            rintro e w' ⟨rfl, rfl⟩
            go_wp2_with fail
            refine (HZ2.out _).mono ?_
            rintro e w' ⟨rfl, rfl⟩
            go_wp2_with fail
            refine (HZ3.out _).mono ?_
            rintro e w' ⟨rfl, rfl⟩
            go_wp2_with fail
            refine (HZ4.out _).mono ?_
            rintro e w' ⟨rfl, rfl⟩
            by_cases q3 : n1 + n2 < n3 + n4
            case neg =>
              have Q3 := Lib.hid q3
              have q3i : ¬ ((n1 : Int) + (n2 : Int) < (n3 : Int) + (n4 : Int)) := by omega
              have q3d : decide (n1 + n2 < n3 + n4) = false := decide_eq_false q3
              go_wp2_with fail
              go_roundw
              case rel => exact ⟨t + 1, x, y, by omega, by go_num, rfl, rfl, HN.out (fun _ _ h => absurd h Q3.out), hbr⟩
              case measure => simp [intOf]; omega
            have Q3 := Lib.hid q3
            have q3i : ((n1 : Int) + (n2 : Int) < (n3 : Int) + (n4 : Int)) := by omega
            have q3d : decide (n1 + n2 < n3 + n4) = true := decide_eq_true q3
            clear q3
            have c0 := cell_block gr 0
            have c1 := cell_block gr 1
            have c2 := cell_block gr 2
            have c3 := cell_block gr 3
            have c4 := cell_block gr 4
            have c5 := cell_block gr 5
            simp only [List.getElem?_toArray, List.getElem?_cons_zero, List.getElem?_cons_succ] at c0 c1 c2 c3 c4 c5
            go_wp2_with fail
            refine (only_any b fa sa fc sc s t _ (HB.out.below (hb4.trans (hbr.mono hb4.size))) HLE.out.1 HLE.out.2 (by omega) (by omega)).mono ?_
            rintro e w5 ⟨q1, q2, k1, k2, rfl, hA, hb5⟩
            unfold boV
            have hb6 := hbr.trans (hb5.mono hbr.size)
            have hl2 : (allOf (onlyB b s t) (sures (onlyB b s t).fs) (sures (onlyB b s t).ss)).length = 0 ↔ bCan b s t = false := by
              rw [List.length_eq_zero_iff, allOf_nil, onlyB_can]
              have e1 : sures (onlyB b s t).fs = s := sures_onlyEds _ _ (HLIM.out s hs64 Q1.out)
              have e2 : sures (onlyB b s t).ss = t := sures_onlyEds _ _ (HLIM2.out t ht64 Q2.out)
              rw [e1, e2]
            have hll2 := allOf_len (onlyB_ok b s t HOK.out) (sures (onlyB b s t).fs) (sures (onlyB b s t).ss)
            have hcall := rall_any (onlyB b s t) (some ⟨q1, 0, none⟩) (some ⟨q2, 0, none⟩) k1 k2 (onlyB_ok b s t HOK.out) w5 hA
            have HCALL := Lib.hid hcall
            have HL2 := Lib.hid hl2
            clear hcall hl2 hA hb5 c0 c1 c2 c3 c4 c5 gr q3i q3d
            go_wp2_with fail
            refine HCALL.out.mono ?_
            rintro e w6 ⟨a6, c6, rfl, _, hb7⟩
            have hb8 := hb6.trans (hb7.mono hb6.size)
            clear HCALL
            generalize (allOf (onlyB b s t) (sures (onlyB b s t).fs) (sures (onlyB b s t).ss)).length = m at HL2 hll2 ⊢
            by_cases q4 : m = 0
            · have Q4 := Lib.hid (HL2.out.1 q4)
              have e4 : ((m : Int) == 0) = true := by rw [q4]; rfl
              clear q4 HL2
              go_wp2_with fail
              go_roundw
              case rel => exact ⟨t + 1, s, t, by omega, by go_num, rfl, rfl, HT.out Q1.out Q2.out Q3.out Q4.out, hb8⟩
              case measure => simp [intOf]; omega
            · have Q4 : Hid (bCan b s t = true) := Lib.hid (by
                cases h : bCan b s t
                · exact absurd (HL2.out.2 h) q4
                · rfl)
              have e4 : ((m : Int) == 0) = false := by simp; omega
              clear q4 HL2
              go_wp2_with fail
              go_roundw
              case rel => exact ⟨t + 1, x, y, by omega, by go_num, rfl, rfl, HN.out (fun _ _ _ => Q4.out), hb8⟩
              case measure => simp [intOf]; omega
          · obtain rfl : t = S + 1 := by omega
            have hti : ¬ ((S + 1 : Nat) : Int) ≤ (S : Int) := by omega
            go_wp2_with fail
            go_roundw
            case rel => exact ⟨s + 1, x, y, by omega, by go_num, rfl, rfl, HROW.out s x y HSC2.out, hbr⟩
            case measure => simp [intOf]; omega
      · obtain rfl : s = F + 1 := by omega
        have hti : ¬ ((F + 1 : Nat) : Int) ≤ (F : Int) := by omega
        have HF := Lib.hid (HOUT.out _ (HSTOP.out x y hsc))
        have hdiv : (x * 64 + y) / 64 = x := by have := hsc.y6; omega
        have hmod : (x * 64 + y) % 64 = y := by have := hsc.y6; omega
        rw [hdiv, hmod] at HF
        have hb9 := hb4.trans (hbo.mono hb4.size)
        clear hsc hdiv hmod
        go_wp2_with fail
        refine bodyPost_ret (v := .tuple #[.int .i64 x, .int .i64 y, .int .i64 0]) (by simp [results, Try.results26, go_sem]) rfl ⟨HF.out, hb9⟩
end Go.Proofs.Ytjkegmjjhdmkiaa
namespace Go.Proofs.Ytjkegmjjhdmkiaa
open Go.RowKit Go.Shelf
set_option maxHeartbeats 25600000
set_option maxRecDepth 100000
set_option linter.unusedSimpArgs false
set_option linter.unusedVariables false

/-- What both return of the best, in one form. -/
theorem best_form {w w' : World} {e e' : Ending} {r : Option Joined × Int} (h : BestOut w e r) (h' : RBestOut w' e' r) :
    ∃ (u v x : Int) (a a' : Option Addr) (c c' : Nat) (xs : List Int), e = .returned (.tuple #[.int .i64 u, .int .i64 v, .slice a xs.length c, .int .i64 x]) ∧ e' = .returned (.tuple #[.int .i64 u, .int .i64 v, .slice a' xs.length c', .int .i64 x]) ∧ IntsV w a xs ∧ IntsV w' a' xs ∧ (∀ y, r.1 = some y → xs = y.2) ∧ (r.1 = none → xs = []) := by
  obtain ⟨o, x⟩ := r
  cases o with
  | none => exact ⟨0, 0, x, none, none, 0, 0, [], h, h', IntsV.nil _ _, IntsV.nil _ _, (fun y h => by cases h), fun _ => rfl⟩
  | some y =>
    obtain ⟨q, cap, rfl, hI⟩ := h
    obtain ⟨a, cap', rfl, hV⟩ := h'
    exact ⟨y.1.1, y.1.2, x, _, _, _, _, y.2, rfl, rfl, hI.v, hV, (fun z h => by cases h; rfl), (fun h => by cases h)⟩
theorem bBest_len (b : Bo) (y : Joined) (h : (bBest b).1 = some y) : y.2.length ≤ 6 := by
  unfold bBest at h
  cases hok : b.ok
  · rw [hok] at h; cases h
  · rw [hok, if_pos rfl] at h
    cases hb : bestOf (allOf b (sures b.fs) (sures b.ss)) with
    | none => rw [hb] at h; cases h
    | some z =>
      rw [hb] at h
      cases h
      have hm := bestOf_mem _ _ hb
      have := (bJoins_mem (allOf_mem hm).2).1
      have := (bo_lens hok).1
      omega
theorem clash_form {b : Bo} {e e' : Ending} (h : ClashOut b e) (h' : ClashOut b e') : ∃ u v x : Int, e = .returned (.tuple #[.int .i64 u, .int .i64 v, .int .i64 x]) ∧ e' = .returned (.tuple #[.int .i64 u, .int .i64 v, .int .i64 x]) := by
  unfold ClashOut at h h'
  split at h
  · rename_i hok
    rw [if_pos hok] at h'
    split at h
    · rename_i hc
      rw [if_pos hc] at h'
      exact ⟨_, _, _, h, h'⟩
    · rename_i hc
      rw [if_neg hc] at h'
      obtain ⟨t, h1, h2⟩ := h
      obtain ⟨t', k1, k2⟩ := h'
      rw [← h1.one k1] at k2
      exact ⟨_, _, _, h2, k2⟩
  · rename_i hok
    rw [if_neg hok] at h'
    exact ⟨_, _, _, h, h'⟩

theorem lawStars_any (b : Bo) (fa sa : Option Addr) (fc sc : Nat) (w : World) (hb : BoArg0 w b fa sa) :
    Calls Try.prog 4 #[.agg #[.int .i64 b.e.lo, .int .i64 b.e.hi, .int .i64 b.n.lo, .int .i64 b.n.hi, .slice fa b.fs.length fc, .slice sa b.ss.length sc]] w fun e w' => e = .returned (.bool true) ∧ Below w.heap.size w w' := by
  have HB0 := Lib.hid hb
  clear hb
  go_enter Try.func4, Try.ntmps4
  go_wp2_with fail
  obtain ⟨W0, hW0⟩ : ∃ W, (w.alloc (.cells #[.int .i64 b.e.lo, .int .i64 b.e.hi, .int .i64 b.n.lo, .int .i64 b.n.hi, .slice fa b.fs.length fc, .slice sa b.ss.length sc] 26)) = W := ⟨_, rfl⟩
  rw [hW0]
  try simp only [Nat.add_assoc, Nat.reduceAdd]
  have hst_W0 : Steps (fun _ => False) w W0 := by rw [← hW0]; exact Steps.alloc _ w _
  have hz_W0 : W0.heap.size = w.heap.size + 1 := by rw [← hW0]; simp
  have g0_W0 : W0.heap[w.heap.size]? = some (.cells #[.int .i64 b.e.lo, .int .i64 b.e.hi, .int .i64 b.n.lo, .int .i64 b.n.hi, .slice fa b.fs.length fc, .slice sa b.ss.length sc] 26) := by rw [← hW0]; simp only [alloc_get, World.size_alloc]; repeat (first | exact if_pos trivial | exact if_pos (by omega) | rw [if_neg (by omega)])
  clear hW0
  have hb0 : Below w.heap.size w W0 := hst_W0.below (Nat.le_refl _) (fun _ _ h => h)
  refine (heavy_any b fa sa fc sc 3 30 W0 (HB0.out.below hb0)).mono ?_
  rintro e w1 ⟨rfl, hb1⟩
  have g1 := obj_later hb1 g0_W0
  replace hb0 := hb0.trans (hb1.mono hb0.size)
  clear hb1 g0_W0 hst_W0 hz_W0
  cases hh : heavyB b 3 30
  case true =>
    clear hh
    go_wp2_with fail
    refine (awake_any _).mono ?_
    rintro e w2 ⟨rfl, hb1⟩
    go_wp2
    go_ret
    exact ⟨rfl, hb0.trans (hb1.mono hb0.size)⟩
  have HB := Lib.hid (HB0.out.small hh)
  have H30 : Hid (b.fs.length ≤ 30) := Lib.hid (by
    unfold heavyB at hh
    simp only [Bool.or_eq_false_iff, decide_eq_false_iff_not] at hh
    have := hh.1
    unfold Bo.many at this
    omega)
  clear hh
  have c0 := cell_block g1 0
  have c1 := cell_block g1 1
  have c2 := cell_block g1 2
  have c3 := cell_block g1 3
  have c4 := cell_block g1 4
  have c5 := cell_block g1 5
  simp only [List.getElem?_toArray, List.getElem?_cons_zero, List.getElem?_cons_succ] at c0 c1 c2 c3 c4 c5
  go_wp2_with fail
  refine (alone_any b fa sa fc sc _ (HB.out.below hb0)).mono ?_
  rintro e w2 ⟨rfl, hb1⟩
  have g2 := obj_later hb1 g1
  replace hb0 := hb0.trans (hb1.mono hb0.size)
  clear hb1 g1 c0 c1 c2 c3 c4 c5
  have c0 := cell_block g2 0
  have c1 := cell_block g2 1
  have c2 := cell_block g2 2
  have c3 := cell_block g2 3
  have c4 := cell_block g2 4
  have c5 := cell_block g2 5
  simp only [List.getElem?_toArray, List.getElem?_cons_zero, List.getElem?_cons_succ] at c0 c1 c2 c3 c4 c5
  go_wp2_with fail
  refine (ralone_any b fa sa fc sc _ (HB.out.below hb0)).mono ?_
  rintro e w3 ⟨rfl, hb1⟩
  have g3 := obj_later hb1 g2
  replace hb0 := hb0.trans (hb1.mono hb0.size)
  clear hb1 g2 c0 c1 c2 c3 c4 c5
  generalize bAlone b = r1
  have c0 := cell_block g3 0
  have c1 := cell_block g3 1
  have c2 := cell_block g3 2
  have c3 := cell_block g3 3
  have c4 := cell_block g3 4
  have c5 := cell_block g3 5
  simp only [List.getElem?_toArray, List.getElem?_cons_zero, List.getElem?_cons_succ] at c0 c1 c2 c3 c4 c5
  go_wp2_with fail
  refine (best_any b fa sa fc sc _ (HB.out.below hb0)).mono ?_
  rintro e4 w4 ⟨hbe, hb1⟩
  have g4 := obj_later hb1 g3
  replace hb0 := hb0.trans (hb1.mono hb0.size)
  clear hb1 g3 c0 c1 c2 c3 c4 c5
  have hr := rbest_any b fa sa fc sc
  have HR := Lib.hid hr
  have HBE := Lib.hid hbe
  clear hr hbe
  have c0 := cell_block g4 0
  have c1 := cell_block g4 1
  have c2 := cell_block g4 2
  have c3 := cell_block g4 3
  have c4 := cell_block g4 4
  have c5 := cell_block g4 5
  simp only [List.getElem?_toArray, List.getElem?_cons_zero, List.getElem?_cons_succ] at c0 c1 c2 c3 c4 c5
  have hform : ∃ (u v x : Int) (a : Option Addr) (c : Nat) (n : Nat), e4 = .returned (.tuple #[.int .i64 u, .int .i64 v, .slice a n c, .int .i64 x]) := by
    have h := HBE.out
    generalize bBest b = r at h
    obtain ⟨o, x⟩ := r
    cases o with
    | none => exact ⟨_, _, _, _, _, _, h⟩
    | some y =>
      obtain ⟨q, cap, h, _⟩ := h
      exact ⟨_, _, _, _, _, _, h⟩
  obtain ⟨u, v, x, a, c, n, rfl⟩ := hform
  go_wp2_with fail
  refine (HR.out _ (HB.out.below hb0)).mono ?_
  rintro e5 w5 ⟨hrb, hb1⟩
  have g5 := obj_later hb1 g4
  replace hb0 := hb0.trans (hb1.mono hb0.size)
  obtain ⟨u', v', x', a', a2, kc1, kc2, xs, he1, he2, hi1, hi2, hx1, hx2⟩ := best_form HBE.out hrb
  have hlen : xs.length ≤ 100 := by
    cases hr : (bBest b).1 with
    | none => rw [hx2 hr]; simp
    | some y => rw [hx1 y hr]; have := bBest_len b y hr; omega
  cases he1
  subst he2
  have hi1' := hi1.below hb1 (Nat.le_refl _)
  have HI1 := Lib.hid hi1'
  have HI2 := Lib.hid hi2
  clear hb1 g4 c0 c1 c2 c3 c4 c5 HR HBE hrb hi1 hi2 hx1 hx2 hi1'
  have c0 := cell_block g5 0
  have c1 := cell_block g5 1
  have c2 := cell_block g5 2
  have c3 := cell_block g5 3
  have c4 := cell_block g5 4
  have c5 := cell_block g5 5
  simp only [List.getElem?_toArray, List.getElem?_cons_zero, List.getElem?_cons_succ] at c0 c1 c2 c3 c4 c5
  go_wp2_with fail
  refine (clash_any b fa sa fc sc _ (HB.out.below hb0)).mono ?_
  rintro e6 w6 ⟨hc1, hb1⟩
  have g6 := obj_later hb1 g5
  have HI3 := Lib.hid (HI1.out.below hb1 (Nat.le_refl _))
  have HI4 := Lib.hid (HI2.out.below hb1 (Nat.le_refl _))
  replace hb0 := hb0.trans (hb1.mono hb0.size)
  clear hb1 g5 c0 c1 c2 c3 c4 c5 HI1 HI2
  have HC1 := Lib.hid hc1
  obtain ⟨u1, v1, x1, he6, _⟩ := clash_form hc1 hc1
  subst he6
  clear hc1
  have c0 := cell_block g6 0
  have c1 := cell_block g6 1
  have c2 := cell_block g6 2
  have c3 := cell_block g6 3
  have c4 := cell_block g6 4
  have c5 := cell_block g6 5
  simp only [List.getElem?_toArray, List.getElem?_cons_zero, List.getElem?_cons_succ] at c0 c1 c2 c3 c4 c5
  go_wp2_with fail
  refine (rclash_any b fa sa fc sc _ (HB.out.below hb0)).mono ?_
  rintro e7 w7 ⟨hc2, hb1⟩
  have HI5 := Lib.hid (HI3.out.below hb1 (Nat.le_refl _))
  have HI6 := Lib.hid (HI4.out.below hb1 (Nat.le_refl _))
  replace hb0 := hb0.trans (hb1.mono hb0.size)
  obtain ⟨u2, v2, x2, he6, he7⟩ := clash_form HC1.out hc2
  cases he6
  subst he7
  clear hb1 g6 c0 c1 c2 c3 c4 c5 HC1 hc2 HI3 HI4
  go_wp2_with fail
  refine (ints_any _ _ _ _ xs xs _ HI5.out HI6.out hlen hlen).mono ?_
  rintro e w8 ⟨rfl, hb1⟩
  replace hb0 := hb0.trans (hb1.mono hb0.size)
  clear hb1
  have hxx : decide (xs = xs) = true := decide_eq_true rfl
  rw [hxx]
  go_wp2_with fail
  refine (awake_any _).mono ?_
  rintro e w9 ⟨rfl, hb1⟩
  go_wp2
  go_ret
  exact ⟨rfl, hb0.trans (hb1.mono hb0.size)⟩
end Go.Proofs.Ytjkegmjjhdmkiaa
