/- Package border: opening a border. -/
import Derived.Test.YtjkegmjjhdmkiaaB3
namespace Go.Proofs.Ytjkegmjjhdmkiaa
open Go.RowKit
set_option maxHeartbeats 1600000

/-- A border as a value: its spans, and two slices. -/
def boV (b : Bo) (fa sa : Option Addr) (fc sc : Nat) : Value :=
  .agg #[.int .i64 b.e.lo, .int .i64 b.e.hi, .int .i64 b.n.lo, .int .i64 b.n.hi, .slice fa b.fs.length fc, .slice sa b.ss.length sc]

/-- A border in a box. -/
structure BoAt (w : World) (p : Nat) (b : Bo) (fa sa : Option Addr) (fc sc : Nat) : Prop where
  c0 : w.cell? ⟨p, 0, none⟩ = some (.int .i64 b.e.lo)
  c1 : w.cell? ⟨p, 1, none⟩ = some (.int .i64 b.e.hi)
  c2 : w.cell? ⟨p, 2, none⟩ = some (.int .i64 b.n.lo)
  c3 : w.cell? ⟨p, 3, none⟩ = some (.int .i64 b.n.hi)
  c4 : w.cell? ⟨p, 4, none⟩ = some (.slice fa b.fs.length fc)
  c5 : w.cell? ⟨p, 5, none⟩ = some (.slice sa b.ss.length sc)
theorem BoAt.later {w w' : World} {p : Nat} {b : Bo} {fa sa : Option Addr} {fc sc : Nat} (h : BoAt w p b fa sa fc sc) (hb : Below w.heap.size w w') : BoAt w' p b fa sa fc sc :=
  ⟨cell_later hb h.c0, cell_later hb h.c1, cell_later hb h.c2, cell_later hb h.c3, cell_later hb h.c4, cell_later hb h.c5⟩

theorem BoAt.new (w : World) (b : Bo) (fa sa : Option Addr) (fc sc : Nat) (T : TypeId) :
    BoAt (w.alloc (.cells #[.int .i64 b.e.lo, .int .i64 b.e.hi, .int .i64 b.n.lo, .int .i64 b.n.hi, .slice fa b.fs.length fc, .slice sa b.ss.length sc] T)) w.heap.size b fa sa fc sc :=
  ⟨cell_new _ _ _ _ _ rfl, cell_new _ _ _ _ _ rfl, cell_new _ _ _ _ _ rfl, cell_new _ _ _ _ _ rfl, cell_new _ _ _ _ _ rfl, cell_new _ _ _ _ _ rfl⟩

/-- What the program keeps of a border: itself, the stars that are Sure, the map of what is known. -/
structure BrdAt (w : World) (p : Nat) (b : Bo) (fa sa : Option Addr) (fc sc : Nat) (fset sset r : Nat) : Prop where
  bo : BoAt w p b fa sa fc sc
  c6 : w.cell? ⟨p, 6, none⟩ = some (.int .u64 fset)
  c7 : w.cell? ⟨p, 7, none⟩ = some (.int .u64 sset)
  c8 : w.cell? ⟨p, 8, none⟩ = some (.map (some r))
  f : EdSl w fa b.fs
  s : EdSl w sa b.ss

abbrev OpenS (p : Nat) (b : Bo) (fa sa : Option Addr) (fc sc : Nat) (w0 : World) (w : World) : Prop :=
  w.cell? ⟨p, 0, none⟩ = some (.int .i64 b.e.lo) ∧ w.cell? ⟨p, 1, none⟩ = some (.int .i64 b.e.hi) ∧ w.cell? ⟨p, 2, none⟩ = some (.int .i64 b.n.lo) ∧ w.cell? ⟨p, 3, none⟩ = some (.int .i64 b.n.hi) ∧
  w.cell? ⟨p, 4, none⟩ = some (.slice fa b.fs.length fc) ∧ w.cell? ⟨p, 5, none⟩ = some (.slice sa b.ss.length sc) ∧ EdSl w fa b.fs ∧ EdSl w sa b.ss ∧ Below w0.heap.size w0 w
theorem OpenS.keep {p : Nat} {b : Bo} {fa sa : Option Addr} {fc sc : Nat} {w0 w w' : World} (h : OpenS p b fa sa fc sc w0 w) (hb : Below w.heap.size w w') : OpenS p b fa sa fc sc w0 w' := by
  obtain ⟨h0, h1, h2, h3, h4, h5, h6, h7, h8⟩ := h
  exact ⟨cell_later hb h0, cell_later hb h1, cell_later hb h2, cell_later hb h3, cell_later hb h4, cell_later hb h5, h6.below hb (Nat.le_refl _), h7.below hb (Nat.le_refl _), h8.trans (hb.mono h8.size)⟩

/-- A border has been opened. -/
def Opened (b : Bo) (fa sa : Option Addr) (fc sc : Nat) (w : World) (e : Ending) (w' : World) : Prop :=
  ∃ p r, e = .returned (.pointer (some ⟨p, 0, none⟩)) ∧ BrdAt w' p b fa sa fc sc (sures b.fs) (sures b.ss) r ∧ w'.heap[r]? = some (.map #[] 0) ∧ w.heap.size ≤ r ∧ w.heap.size ≤ p ∧ Below w.heap.size w w'

theorem Opened.make {b : Bo} {fa sa : Option Addr} {fc sc : Nat} {w X : World} {p q r : Nat} {T : TypeId} (hp : p = X.heap.size) (hr : w.heap.size ≤ r)
    (hm : (X.alloc (.cells #[.int .i64 b.e.lo, .int .i64 b.e.hi, .int .i64 b.n.lo, .int .i64 b.n.hi, .slice fa b.fs.length fc, .slice sa b.ss.length sc, .int .u64 (sures b.fs), .int .u64 (sures b.ss), .map (some r)] T)).heap[r]? = some (.map #[] 0))
    (h : OpenS q b fa sa fc sc w (X.alloc (.cells #[.int .i64 b.e.lo, .int .i64 b.e.hi, .int .i64 b.n.lo, .int .i64 b.n.hi, .slice fa b.fs.length fc, .slice sa b.ss.length sc, .int .u64 (sures b.fs), .int .u64 (sures b.ss), .map (some r)] T)))
    (hX : w.heap.size ≤ X.heap.size) :
    Opened b fa sa fc sc w (.returned (.pointer (some ⟨p, 0, none⟩))) (X.alloc (.cells #[.int .i64 b.e.lo, .int .i64 b.e.hi, .int .i64 b.n.lo, .int .i64 b.n.hi, .slice fa b.fs.length fc, .slice sa b.ss.length sc, .int .u64 (sures b.fs), .int .u64 (sures b.ss), .map (some r)] T)) := by
  subst hp
  obtain ⟨_, _, _, _, _, _, g1, g2, g3⟩ := h
  exact ⟨_, r, rfl, ⟨⟨cell_new _ _ _ _ _ rfl, cell_new _ _ _ _ _ rfl, cell_new _ _ _ _ _ rfl, cell_new _ _ _ _ _ rfl, cell_new _ _ _ _ _ rfl, cell_new _ _ _ _ _ rfl⟩, cell_new _ _ _ _ _ rfl, cell_new _ _ _ _ _ rfl, cell_new _ _ _ _ _ rfl, g1, g2⟩, hm, hr, hX, g3⟩

theorem open_yes (b : Bo) (fa sa : Option Addr) (fc sc : Nat) (w : World) (hok : b.ok = true) (hf : EdSl w fa b.fs) (hs : EdSl w sa b.ss) :
    Calls Try.prog 41 #[.agg #[.int .i64 b.e.lo, .int .i64 b.e.hi, .int .i64 b.n.lo, .int .i64 b.n.hi, .slice fa b.fs.length fc, .slice sa b.ss.length sc]] w (Opened b fa sa fc sc w) := by
  simp only [Bo.ok, Bool.and_eq_true, decide_eq_true_eq] at hok
  obtain ⟨⟨⟨⟨⟨k1, k2⟩, k3⟩, k4⟩, k5⟩, k6⟩ := hok
  have K1 := Lib.hid k1
  have K2 := Lib.hid k2
  have K5 := Lib.hid k5
  have K6 := Lib.hid k6
  clear k1 k2 k5 k6
  go_enter Try.func41, Try.ntmps41
  go_wp2_with fail
  have hO := BoAt.new w b fa sa fc sc 26
  have hB := below_alloc w (.cells #[.int .i64 b.e.lo, .int .i64 b.e.hi, .int .i64 b.n.lo, .int .i64 b.n.hi, .slice fa b.fs.length fc, .slice sa b.ss.length sc] 26)
  refine (isSpan_any b.e _ _ _).mono ?_
  rintro e w1 ⟨rfl, hb1⟩
  rw [K1.out]
  replace hO := hO.later hb1
  replace hB := hB.trans (hb1.mono hB.size)
  clear hb1
  obtain ⟨c0, c1, c2, c3, c4, c5⟩ := hO
  go_wp2_with fail
  have hO : BoAt w1 w.heap.size b fa sa fc sc := ⟨c0, c1, c2, c3, c4, c5⟩
  refine (isSpan_any b.n _ _ _).mono ?_
  rintro e w2 ⟨rfl, hb2⟩
  rw [K2.out]
  replace hO := hO.later hb2
  replace hB := hB.trans (hb2.mono hB.size)
  clear hb2 c0 c1 c2 c3 c4 c5
  obtain ⟨c0, c1, c2, c3, c4, c5⟩ := hO
  by_cases hcmp : b.fs.length < b.ss.length
  all_goals
    go_wp2_with fail
    have hO : BoAt w2 w.heap.size b fa sa fc sc := ⟨c0, c1, c2, c3, c4, c5⟩
    have hf2 := hf.below hB (Nat.le_refl _)
    have hs2 := hs.below hB (Nat.le_refl _)
    refine (containsEd fa fc b.fs _ (by omega) hf2).mono ?_
    rintro e w3 ⟨rfl, hb3⟩
    rw [K5.out]
    replace hO := hO.later hb3
    replace hf2 := hf2.below hb3 (Nat.le_refl _)
    replace hs2 := hs2.below hb3 (Nat.le_refl _)
    replace hB := hB.trans (hb3.mono hB.size)
    clear hb3 c0 c1 c2 c3 c4 c5
    obtain ⟨c0, c1, c2, c3, c4, c5⟩ := hO
    go_wp2_with fail
    have hO : BoAt w3 w.heap.size b fa sa fc sc := ⟨c0, c1, c2, c3, c4, c5⟩
    refine (containsEd sa sc b.ss _ (by omega) hs2).mono ?_
    rintro e w4 ⟨rfl, hb4⟩
    rw [K6.out]
    replace hO := hO.later hb4
    replace hf2 := hf2.below hb4 (Nat.le_refl _)
    replace hs2 := hs2.below hb4 (Nat.le_refl _)
    replace hB := hB.trans (hb4.mono hB.size)
    clear hb4 c0 c1 c2 c3 c4 c5
    obtain ⟨c0, c1, c2, c3, c4, c5⟩ := hO
    go_wp2_with (go_at_call 42; refine (must_yes _ _).mono ?_; rintro e w' ⟨rfl, rfl⟩)
    clear hf hs
    have hmm := @run_makeMap Try.prog
    go_region_held3 (OpenS w.heap.size b fa sa fc sc w)
      (first | exact OpenS.keep (by assumption) (by assumption) | exact OpenS.keep (by assumption) (below_alloc _ _) | exact ⟨c0, c1, c2, c3, c4, c5, hf2.below (Below.refl _ _).drew (Nat.le_refl _), hs2.below (Below.refl _ _).drew (Nat.le_refl _), hB.drew⟩)
      (first | (go_at_call 70; refine (sures_any _ _ _ (by assumption) _ (by have h := ‹OpenS _ _ _ _ _ _ _ _›; first | exact h.2.2.2.2.2.2.1 | exact h.2.2.2.2.2.2.2.1)).mono ?_; rintro e w' ⟨rfl, hb⟩; have hz := hb.size; (try simp at hz)))
  all_goals
    rename_i hS
    have hz0 := hB.size
    go_wp2
    go_ret
    refine Opened.make (by simp) (by simp at *; omega) ?_ hS (by simp at *; omega)
    refine obj_later (below_alloc _ _) ?_
    first
      | exact obj_new _ _
      | (refine obj_later (by assumption) ?_; exact obj_new _ _)
      | (refine obj_later (by assumption) (obj_later (by assumption) ?_); exact obj_new w4 _)

theorem open_no (b : Bo) (fa sa : Option Addr) (fc sc : Nat) (w : World) (hok : b.ok = false) (hf : EdSl w fa b.fs) (hs : EdSl w sa b.ss) (hlf : b.fs.length < 9223372036854775807) (hls : b.ss.length < 9223372036854775807) :
    Calls Try.prog 41 #[.agg #[.int .i64 b.e.lo, .int .i64 b.e.hi, .int .i64 b.n.lo, .int .i64 b.n.hi, .slice fa b.fs.length fc, .slice sa b.ss.length sc]] w fun e w' => e = .panicked (failed 1) ∧ Below w.heap.size w w' := by
  have HK := Lib.hid hok
  clear hok
  go_enter Try.func41, Try.ntmps41
  go_upto_region 1 with fail
  have hO := BoAt.new w b fa sa fc sc 26
  have hB := below_alloc w (.cells #[.int .i64 b.e.lo, .int .i64 b.e.hi, .int .i64 b.n.lo, .int .i64 b.n.hi, .slice fa b.fs.length fc, .slice sa b.ss.length sc] 26)
  go_cut [3] (fun s3 wx => s3 = .bool (b.e.ok (-20) 20 && b.n.ok (-20) 20) ∧ BoAt wx w.heap.size b fa sa fc sc ∧ Below w.heap.size w wx)
  case first =>
    go_wp2_with fail
    refine (isSpan_any b.e _ _ _).mono ?_
    rintro e w1 ⟨rfl, hb1⟩
    replace hO := hO.later hb1
    replace hB := hB.trans (hb1.mono hB.size)
    clear hb1
    cases hq : b.e.ok (-20) 20
    all_goals
      have HQ := Lib.hid hq
      clear hq
      obtain ⟨c0, c1, c2, c3, c4, c5⟩ := hO
      go_wp2_with fail
    · go_meet
      exact ⟨by rw [HQ.out]; rfl, ⟨c0, c1, c2, c3, c4, c5⟩, hB⟩
    · have hO : BoAt w1 w.heap.size b fa sa fc sc := ⟨c0, c1, c2, c3, c4, c5⟩
      refine (isSpan_any b.n _ _ _).mono ?_
      rintro e w2 ⟨rfl, hb2⟩
      go_wp2_with fail
      go_meet
      exact ⟨by rw [HQ.out]; rfl, hO.later hb2, hB.trans (hb2.mono hB.size)⟩
  case rest =>
    obtain ⟨rfl, hO, hB⟩ := hcut
    generalize hS : (b.e.ok (-20) 20 && b.n.ok (-20) 20) = s3
    have HS := Lib.hid hS
    clear hS
    have hf2 := hf.below hB (Nat.le_refl _)
    have hs2 := hs.below hB (Nat.le_refl _)
    go_upto_region 2 with fail
    go_cut [4] (fun s4 wx => s4 = .bool (decide (b.fs.length ≤ 6) && decide (b.ss.length ≤ 6) && b.fs.all Ed.ok && b.ss.all Ed.ok) ∧ Below w.heap.size w wx)
    case first =>
      by_cases hcmp : b.fs.length < b.ss.length
      all_goals
        by_cases hsix : b.fs.length ≤ 6 ∧ b.ss.length ≤ 6
        · have hmx : decide (max (b.fs.length : Int) (b.ss.length : Int) ≤ 6) = true := by simp; omega
          have h6a : (b.fs.length : Int) ≤ 6 := by omega
          have h6b : (b.ss.length : Int) ≤ 6 := by omega
          have HV := Lib.hid hsix
          clear hsix
          obtain ⟨c0, c1, c2, c3, c4, c5⟩ := hO
          go_wp2_with fail
          have hO : BoAt wc w.heap.size b fa sa fc sc := ⟨c0, c1, c2, c3, c4, c5⟩
          refine (containsEd fa fc b.fs _ hlf hf2).mono ?_
          rintro e w3 ⟨rfl, hb3⟩
          replace hO := hO.later hb3
          replace hs2 := hs2.below hb3 (Nat.le_refl _)
          replace hB := hB.trans (hb3.mono hB.size)
          clear hb3 c0 c1 c2 c3 c4 c5
          cases hq : b.fs.all Ed.ok
          all_goals
            have HQ := Lib.hid hq
            clear hq
            obtain ⟨c0, c1, c2, c3, c4, c5⟩ := hO
            go_wp2_with fail
          · go_meet
            exact ⟨by rw [HQ.out]; simp, hB⟩
          · refine (containsEd sa sc b.ss _ hls hs2).mono ?_
            rintro e w4 ⟨rfl, hb4⟩
            go_wp2_with fail
            go_meet
            exact ⟨by rw [HQ.out]; simp [HV.out.1, HV.out.2], hB.trans (hb4.mono hB.size)⟩
        · have HV := Lib.hid hsix
          clear hsix
          have h7 : 6 < (b.fs.length : Int) ∨ 6 < (b.ss.length : Int) := by have := HV.out; omega
          obtain ⟨c0, c1, c2, c3, c4, c5⟩ := hO
          go_wp2_with fail
          go_meet
          exact ⟨by have h8 : (decide (b.fs.length ≤ 6) && decide (b.ss.length ≤ 6)) = false := by have := HV.out; simp; omega
                    rw [h8]; rfl, hB⟩
    case rest =>
      obtain ⟨rfl, hB⟩ := hcut
      generalize hZ : (decide (b.fs.length ≤ 6) && decide (b.ss.length ≤ 6) && b.fs.all Ed.ok && b.ss.all Ed.ok) = z
      have HZ := Lib.hid hZ
      clear hZ
      have hsz : (s3 && z) = false := by
        rw [← HS.out, ← HZ.out, ← HK.out]
        unfold Bo.ok
        simp only [Bool.and_assoc]
      have H := Lib.hid hsz
      clear hsz hf2 hs2 hO
      cases s3
      · go_wp2_with (go_at_call 42; refine (must_no _ _).mono ?_; rintro e w' ⟨rfl, rfl⟩)
        exact ⟨rfl, rfl, hB⟩
      · obtain rfl : z = false := by simpa using H.out
        go_wp2_with (go_at_call 42; refine (must_no _ _).mono ?_; rintro e w' ⟨rfl, rfl⟩)
        exact ⟨rfl, rfl, hB⟩
end Go.Proofs.Ytjkegmjjhdmkiaa
