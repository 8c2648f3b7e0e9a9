/- What the laws of layer 6 ask first: is a border heavy? Are two lists of numbers the same? The sample. -/
import Derived.Test.YtjkegmjjhdmkiaaF2
namespace Go.Proofs.Ytjkegmjjhdmkiaa
open Go.RowKit Go.Shelf
set_option maxHeartbeats 1600000
set_option maxRecDepth 100000
set_option linter.unusedSimpArgs false

def Bo.many (b : Bo) : Int := max (b.fs.length : Int) (b.ss.length : Int)
def Bo.area (b : Bo) : Int := (b.e.hi - b.e.lo + 1) * (b.n.hi - b.n.lo + 1)
def heavyB (b : Bo) (stars shifts : Int) : Bool := decide (30 < b.many) || (b.ok && (decide (stars < b.many) || decide (shifts < b.area)))

/-- A border as an argument, of whatever size. -/
structure BoArg0 (w : World) (b : Bo) (fa sa : Option Addr) : Prop where
  f : EdSl w fa b.fs
  s : EdSl w sa b.ss
theorem BoArg.arg0 {w : World} {b : Bo} {fa sa : Option Addr} (h : BoArg w b fa sa) : BoArg0 w b fa sa := ⟨h.f, h.s⟩
theorem BoArg0.small {w : World} {b : Bo} {fa sa : Option Addr} {st sh : Int} (h : BoArg0 w b fa sa) (hh : heavyB b st sh = false) : BoArg w b fa sa := by
  have : b.many ≤ 30 := by
    unfold heavyB at hh
    simp only [Bool.or_eq_false_iff, decide_eq_false_iff_not] at hh
    omega
  unfold Bo.many at this
  exact ⟨h.f, h.s, by omega, by omega⟩
theorem BoArg0.below {w w' : World} {b : Bo} {fa sa : Option Addr} (h : BoArg0 w b fa sa) (hb : Below w.heap.size w w') : BoArg0 w' b fa sa := ⟨h.f.below hb (Nat.le_refl _), h.s.below hb (Nat.le_refl _)⟩

theorem heavy_any (b : Bo) (fa sa : Option Addr) (fc sc : Nat) (stars shifts : Int) (w : World) (hb : BoArg0 w b fa sa) :
    Calls Try.prog 11 #[.agg #[.int .i64 b.e.lo, .int .i64 b.e.hi, .int .i64 b.n.lo, .int .i64 b.n.hi, .slice fa b.fs.length fc, .slice sa b.ss.length sc], .int .i64 stars, .int .i64 shifts] w fun e w' => e = .returned (.bool (heavyB b stars shifts)) ∧ Below w.heap.size w w' := by
  obtain ⟨hf, hs⟩ := hb
  have hdef : heavyB b stars shifts = (decide (30 < b.many) || (b.ok && (decide (stars < b.many) || decide (shifts < b.area)))) := rfl
  have HD := Lib.hid hdef
  clear hdef
  have hmany : b.many = max (b.fs.length : Int) (b.ss.length : Int) := rfl
  go_enter Try.func11, Try.ntmps11
  by_cases h30 : 30 < b.many
  · have h1 : decide (30 < b.many) = true := by simpa using h30
    have H1 := Lib.hid h1
    clear h1
    rw [hmany] at h30
    clear hmany
    by_cases hlt : (b.fs.length : Int) < (b.ss.length : Int)
    all_goals
      go_wp2
      go_ret
      exact ⟨ret_bool (by rw [HD.out, H1.out]; rfl), (Below.refl _ _).alloc (Nat.le_refl _) _⟩
  · have h1 : decide (30 < b.many) = false := by simpa using h30
    have H1 := Lib.hid h1
    clear h1
    have h30' : b.fs.length ≤ 30 ∧ b.ss.length ≤ 30 := by rw [hmany] at h30; omega
    obtain ⟨i1, i2⟩ := h30'
    have i1' : (b.fs.length : Int) ≤ 30 := by omega
    have i2' : (b.ss.length : Int) ≤ 30 := by omega
    clear h30
    obtain ⟨N, hN⟩ : ∃ N : Int, b.many = N := ⟨_, rfl⟩
    have HN := Lib.hid hN
    have hmx : max (b.fs.length : Int) (b.ss.length : Int) = N := by rw [← hN, hmany]
    have HMX := Lib.hid hmx
    have hN30 : N ≤ 30 := by omega
    have hN0 : 0 ≤ N := by omega
    clear hmx hN hmany
    have hcut : ∀ X : Int, X = N → X = N := fun _ h => h
    clear hcut
    go_upto_if 16 with fail
    go_cut [6, 7] (fun v n wx => n = .int .i64 N ∧ v = .bool false ∧ wx.heap[w.heap.size]? = some (.cells #[.int .i64 b.e.lo, .int .i64 b.e.hi, .int .i64 b.n.lo, .int .i64 b.n.hi, .slice fa b.fs.length fc, .slice sa b.ss.length sc] 26) ∧ Below w.heap.size w wx)
    case first =>
      have hb0 := below_alloc w (.cells #[.int .i64 b.e.lo, .int .i64 b.e.hi, .int .i64 b.n.lo, .int .i64 b.n.hi, .slice fa b.fs.length fc, .slice sa b.ss.length sc] 26)
      have g0 := obj_new w (.cells #[.int .i64 b.e.lo, .int .i64 b.e.hi, .int .i64 b.n.lo, .int .i64 b.n.hi, .slice fa b.fs.length fc, .slice sa b.ss.length sc] 26)
      by_cases hlt : (b.fs.length : Int) < (b.ss.length : Int)
      all_goals
        go_wp2_with fail
        go_meet
        exact ⟨by have := HMX.out; congr 1; omega, rfl, g0, hb0⟩
    case rest =>
      obtain ⟨rfl, rfl, g0, hb0⟩ := hcut
      have c0 := cell_block g0 0
      have c1 := cell_block g0 1
      have c2 := cell_block g0 2
      have c3 := cell_block g0 3
      have c4 := cell_block g0 4
      have c5 := cell_block g0 5
      simp only [List.getElem?_toArray, List.getElem?_cons_zero, List.getElem?_cons_succ] at c0 c1 c2 c3 c4 c5
      have hbo' : BoArg wc b fa sa := ⟨hf.below hb0 (Nat.le_refl _), hs.below hb0 (Nat.le_refl _), by omega, by omega⟩
      have HBO := Lib.hid hbo'
      clear hbo'
      go_wp2_with fail
      refine (border_any b fa sa fc sc _ HBO.out).mono ?_
      rintro e w2 ⟨rfl, hb1⟩
      have g1 := obj_later hb1 g0
      replace hb0 := hb0.trans (hb1.mono hb0.size)
      clear hb1 g0 c0 c1 c2 c3 c4 c5
      cases hok : b.ok
      all_goals
        have HOK := Lib.hid hok
        clear hok
      · go_wp2
        go_ret
        exact ⟨ret_bool (by rw [HD.out, H1.out, HOK.out]; rfl), hb0⟩
      · have hbd : (-20 ≤ b.e.lo ∧ b.e.lo ≤ b.e.hi ∧ b.e.hi ≤ 20) ∧ (-20 ≤ b.n.lo ∧ b.n.lo ≤ b.n.hi ∧ b.n.hi ≤ 20) := by
          have := HOK.out
          simp only [Bo.ok, Sp.ok, Bool.and_eq_true, decide_eq_true_eq] at this
          omega
        obtain ⟨⟨b1, b2, b3⟩, b4, b5, b6⟩ := hbd
        have c0 := cell_block g1 0
        have c1 := cell_block g1 1
        have c2 := cell_block g1 2
        have c3 := cell_block g1 3
        simp only [List.getElem?_toArray, List.getElem?_cons_zero, List.getElem?_cons_succ] at c0 c1 c2 c3
        have harea : b.area = (b.e.hi - b.e.lo + 1) * (b.n.hi - b.n.lo + 1) := rfl
        have hlo : 0 ≤ (b.e.hi - b.e.lo + 1) * (b.n.hi - b.n.lo + 1) := Int.mul_nonneg (by omega) (by omega)
        have hhi : (b.e.hi - b.e.lo + 1) * (b.n.hi - b.n.lo + 1) ≤ 41 * 41 := Int.mul_le_mul (by omega) (by omega) (by omega) (by omega)
        have hwr : IntKind.i64.wrap ((b.e.hi - b.e.lo + 1) * (b.n.hi - b.n.lo + 1)) = (b.e.hi - b.e.lo + 1) * (b.n.hi - b.n.lo + 1) := by rw [IntKind.wrap_i64]; omega
        have HAR := Lib.hid harea
        clear harea
        by_cases hst : stars < N
        · have hd : decide (stars < N) = true := by simpa using hst
          go_wp2
          go_ret
          exact ⟨ret_bool (by rw [HD.out, H1.out, HOK.out, HN.out]; simp [hst]), hb0⟩
        · have hd : decide (stars < N) = false := by simpa using hst
          go_wp2
          go_ret
          refine ⟨ret_bool ?_, hb0⟩
          rw [HD.out, H1.out, HOK.out, HN.out, HAR.out]
          simp only [hd, Bool.true_and, Bool.false_or]
end Go.Proofs.Ytjkegmjjhdmkiaa
