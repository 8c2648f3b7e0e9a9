/- The document's answer: which borders are valid. What the laws of layer 6 ask first: is a border heavy? Are two lists of numbers the same? The sample. The sample of the laws of layer 6; lists of numbers. Are two lists of numbers the same? How many pairs has a joining? Plain: what is told of the sample. What the document fixes of its sample: it holds. -/
import Derived.Test.YtjkegmjjhdmkiaaBU17
import Derived.Test.YtjkegmjjhdmkiaaBU4
namespace Go.Proofs.Ytjkegmjjhdmkiaa
open Go.RowKit Go.Shelf
set_option maxHeartbeats 1600000
set_option maxRecDepth 100000
set_option linter.unusedSimpArgs false

theorem all_take_succ (p : Ed → Bool) (l : List Ed) (k : Nat) (h : k < l.length) : (l.take (k + 1)).all p = ((l.take k).all p && p l[k]) := by
  rw [List.take_succ_eq_append_getElem h, List.all_append]; simp

theorem edges_any (a : Option Addr) (c : Nat) (l : List Ed) (w : World) (hl : l.length < 9223372036854775807) (hx : EdSl w a l) :
    Calls Try.prog 64 #[.slice a l.length c] w fun e w' => e = .returned (.bool (l.all Ed.ok && decide (l.length ≤ 6))) ∧ Below w.heap.size w w' := by
  have hli : (l.length : Int) < 9223372036854775807 := by omega
  go_enter Try.func64, Try.ntmps64
  go_wp2
  go_loopw [3] (fun i wr => ∃ k : Nat, k ≤ l.length ∧ i = .int .i64 k ∧ (l.take k).all Ed.ok = true ∧ Below w.heap.size w wr) (fun i _ => l.length - (intOf i).toNat)
  case atStart => exact ⟨0, Nat.zero_le _, rfl, rfl, Below.refl _ _⟩
  case round =>
    rename_i wr
    obtain ⟨k, hk, rfl, hall, hbw⟩ := hrel
    have HALL := Lib.hid hall
    clear hall
    by_cases hlt : k < l.length
    · obtain ⟨b, o, rfl, hb, hxk⟩ := hx k hlt
      have hxk' := hxk.same (hbw.block b hb)
      have hsucc := all_take_succ Ed.ok l k hlt
      have hno : l[k].ok = false → l.all Ed.ok = false := fun h => by
        rw [List.all_eq_false]
        exact ⟨_, List.getElem_mem hlt, by simp [h]⟩
      have HS := Lib.hid hsucc
      have HNO := Lib.hid hno
      clear hsucc hno hxk
      generalize hX : l[k] = x at hxk' HS HNO
      clear hX
      have hdef : x.ok = (x.e.ok (-1048576) 1048576 && x.n.ok (-1048576) 1048576 && x.b.ok 0 2000) := rfl
      have HD := Lib.hid hdef
      clear hdef
      have hxo := hxk'
      obtain ⟨c0, c1, c2, c3, c4, c5, c6⟩ := hxk'
      go_wp2_with fail
      refine (rspan_any x.e (-1048576) 1048576 _).mono ?_
      rintro e w1 ⟨rfl, hb1⟩
      have hz1 := hb1.size
      have hx1 : EdAt w1 b (o + k * 7) x := hxo.same (hb1.block b (by have := hbw.size; omega))
      clear c0 c1 c2 c3 c4 c5 c6
      cases h1 : x.e.ok (-1048576) 1048576
      all_goals
        have H1 := Lib.hid h1
        clear h1
      · go_wp2
        go_ret
        exact ⟨ret_bool (by rw [HNO.out (by rw [HD.out, H1.out]; rfl)]; rfl), hbw.trans (hb1.mono hbw.size)⟩
      · obtain ⟨c0, c1, c2, c3, c4, c5, c6⟩ := hx1
        have hx1 : EdAt w1 b (o + k * 7) x := ⟨c0, c1, c2, c3, c4, c5, c6⟩
        go_wp2_with fail
        refine (rspan_any x.n (-1048576) 1048576 _).mono ?_
        rintro e w2 ⟨rfl, hb2⟩
        have hz2 := hb2.size
        have hx2 : EdAt w2 b (o + k * 7) x := hx1.same (hb2.block b (by have := hbw.size; omega))
        clear c0 c1 c2 c3 c4 c5 c6
        cases h2 : x.n.ok (-1048576) 1048576
        all_goals
          have H2 := Lib.hid h2
          clear h2
        · go_wp2
          go_ret
          exact ⟨ret_bool (by rw [HNO.out (by rw [HD.out, H1.out, H2.out]; rfl)]; rfl), hbw.trans ((hb1.mono hbw.size).trans (hb2.mono (Nat.le_trans hbw.size hz1)))⟩
        · obtain ⟨c0, c1, c2, c3, c4, c5, c6⟩ := hx2
          go_wp2_with fail
          refine (rspan_any x.b 0 2000 _).mono ?_
          rintro e w3 ⟨rfl, hb3⟩
          have hz3 := hb3.size
          clear c0 c1 c2 c3 c4 c5 c6
          cases h3 : x.b.ok 0 2000
          all_goals
            have H3 := Lib.hid h3
            clear h3
          · go_wp2
            go_ret
            exact ⟨ret_bool (by rw [HNO.out (by rw [HD.out, H1.out, H2.out, H3.out]; rfl)]; rfl), hbw.trans ((hb1.mono hbw.size).trans ((hb2.mono (Nat.le_trans hbw.size hz1)).trans (hb3.mono (Nat.le_trans hbw.size (Nat.le_trans hz1 hz2)))))⟩
          · go_wp2
            go_roundw
            case rel => exact ⟨k + 1, by omega, by go_num, by rw [HS.out, HALL.out, HD.out, H1.out, H2.out, H3.out]; rfl, hbw.trans ((hb1.mono hbw.size).trans ((hb2.mono (Nat.le_trans hbw.size hz1)).trans (hb3.mono (Nat.le_trans hbw.size (Nat.le_trans hz1 hz2)))))⟩
            case measure => simp [intOf]; omega
    · obtain rfl : k = l.length := by omega
      have hall := HALL.out
      rw [List.take_length] at hall
      have HA := Lib.hid hall
      clear hall
      go_wp2
      go_ret
      refine ⟨?_, hbw⟩
      rw [HA.out, Bool.true_and]
      exact ret_bool (by simp; omega)

/-- Is a border valid? -/
theorem border_any (b : Bo) (fa sa : Option Addr) (fc sc : Nat) (w : World) (hb : BoArg w b fa sa) :
    Calls Try.prog 32 #[.agg #[.int .i64 b.e.lo, .int .i64 b.e.hi, .int .i64 b.n.lo, .int .i64 b.n.hi, .slice fa b.fs.length fc, .slice sa b.ss.length sc]] w fun e w' => e = .returned (.bool b.ok) ∧ Below w.heap.size w w' := by
  obtain ⟨hf, hs, hlf, hls⟩ := hb
  have hdef : b.ok = (b.e.ok (-20) 20 && b.n.ok (-20) 20 && (b.fs.all Ed.ok && decide (b.fs.length ≤ 6)) && (b.ss.all Ed.ok && decide (b.ss.length ≤ 6))) := by
    unfold Bo.ok
    cases b.e.ok (-20) 20 <;> cases b.n.ok (-20) 20 <;> cases b.fs.all Ed.ok <;> cases b.ss.all Ed.ok <;> cases decide (b.fs.length ≤ 6) <;> cases decide (b.ss.length ≤ 6) <;> rfl
  have HD := Lib.hid hdef
  clear hdef
  go_enter Try.func32, Try.ntmps32
  go_wp2_with fail
  obtain ⟨W0, hW0⟩ : ∃ W, (w.alloc (.cells #[.int .i64 b.e.lo, .int .i64 b.e.hi, .int .i64 b.n.lo, .int .i64 b.n.hi, .slice fa b.fs.length fc, .slice sa b.ss.length sc] 26)) = W := ⟨_, rfl⟩
  rw [hW0]
  try simp only [Nat.add_assoc, Nat.reduceAdd]
  have hst_W0 : Steps (fun _ => False) w W0 := by rw [← hW0]; exact Steps.alloc _ w _
  have hz_W0 : W0.heap.size = w.heap.size + 1 := by rw [← hW0]; simp
  have g0_W0 : W0.heap[w.heap.size]? = some (.cells #[.int .i64 b.e.lo, .int .i64 b.e.hi, .int .i64 b.n.lo, .int .i64 b.n.hi, .slice fa b.fs.length fc, .slice sa b.ss.length sc] 26) := by rw [← hW0]; simp only [alloc_get, World.size_alloc]; repeat (first | exact if_pos trivial | exact if_pos (by omega) | rw [if_neg (by omega)])
  clear hW0
  have hb0 : Below w.heap.size w W0 := hst_W0.below (Nat.le_refl _) (fun _ _ h => h)
  refine (rspan_any b.e (-20) 20 _).mono ?_
  rintro e w1 ⟨rfl, hb1⟩
  have g1 := obj_later hb1 g0_W0
  replace hb0 := hb0.trans (hb1.mono hb0.size)
  clear hb1 g0_W0
  cases h1 : b.e.ok (-20) 20
  all_goals
    have H1 := Lib.hid h1
    clear h1
  · go_wp2
    go_ret
    exact ⟨ret_bool (by rw [HD.out, H1.out]; rfl), hb0⟩
  · have c2 := cell_block g1 2
    have c3 := cell_block g1 3
    simp only [List.getElem?_toArray, List.getElem?_cons_zero, List.getElem?_cons_succ] at c2 c3
    go_wp2_with fail
    refine (rspan_any b.n (-20) 20 _).mono ?_
    rintro e w2 ⟨rfl, hb1⟩
    have g2 := obj_later hb1 g1
    replace hb0 := hb0.trans (hb1.mono hb0.size)
    clear hb1 g1 c2 c3
    cases h2 : b.n.ok (-20) 20
    all_goals
      have H2 := Lib.hid h2
      clear h2
    · go_wp2
      go_ret
      exact ⟨ret_bool (by rw [HD.out, H1.out, H2.out]; rfl), hb0⟩
    · have c4 := cell_block g2 4
      simp only [List.getElem?_toArray, List.getElem?_cons_zero, List.getElem?_cons_succ] at c4
      go_wp2_with fail
      refine (edges_any fa fc b.fs _ hlf (hf.below hb0 (Nat.le_refl _))).mono ?_
      rintro e w3 ⟨rfl, hb1⟩
      have g3 := obj_later hb1 g2
      replace hb0 := hb0.trans (hb1.mono hb0.size)
      clear hb1 g2 c4
      cases h3 : (b.fs.all Ed.ok && decide (b.fs.length ≤ 6))
      all_goals
        have H3 := Lib.hid h3
        clear h3
      · go_wp2
        go_ret
        exact ⟨ret_bool (by rw [HD.out, H1.out, H2.out, H3.out]; rfl), hb0⟩
      · have c5 := cell_block g3 5
        simp only [List.getElem?_toArray, List.getElem?_cons_zero, List.getElem?_cons_succ] at c5
        go_wp2_with fail
        refine (edges_any sa sc b.ss _ hls (hs.below hb0 (Nat.le_refl _))).mono ?_
        rintro e w4 ⟨rfl, hb1⟩
        replace hb0 := hb0.trans (hb1.mono hb0.size)
        clear hb1 g3 c5
        go_wp2
        go_ret
        exact ⟨ret_bool (by rw [HD.out, H1.out, H2.out, H3.out]; rfl), hb0⟩
end Go.Proofs.Ytjkegmjjhdmkiaa
namespace Go.Proofs.Ytjkegmjjhdmkiaa
open Go.RowKit Go.Shelf
set_option maxHeartbeats 1600000
set_option maxRecDepth 100000
set_option linter.unusedSimpArgs false

def Bo.many (b : Bo) : Int := max (b.fs.length : Int) (b.ss.length : Int)
def Bo.area (b : Bo) : Int := (b.e.hi - b.e.lo + 1) * (b.n.hi - b.n.lo + 1)
def heavyB (b : Bo) (stars shifts : Int) : Bool := decide (30 < b.many) || (b.ok && (decide (stars < b.many) || decide (shifts < b.area)))

/-- A border as an argument, of whatever size. -/
structure BoArg0 (w : World) (b : Bo) (fa sa : Option Addr) : Prop where
  f : EdSl w fa b.fs
  s : EdSl w sa b.ss
theorem BoArg.arg0 {w : World} {b : Bo} {fa sa : Option Addr} (h : BoArg w b fa sa) : BoArg0 w b fa sa := ⟨h.f, h.s⟩
theorem BoArg0.small {w : World} {b : Bo} {fa sa : Option Addr} {st sh : Int} (h : BoArg0 w b fa sa) (hh : heavyB b st sh = false) : BoArg w b fa sa := by
  have : b.many ≤ 30 := by
    unfold heavyB at hh
    simp only [Bool.or_eq_false_iff, decide_eq_false_iff_not] at hh
    omega
  unfold Bo.many at this
  exact ⟨h.f, h.s, by omega, by omega⟩
theorem BoArg0.below {w w' : World} {b : Bo} {fa sa : Option Addr} (h : BoArg0 w b fa sa) (hb : Below w.heap.size w w') : BoArg0 w' b fa sa := ⟨h.f.below hb (Nat.le_refl _), h.s.below hb (Nat.le_refl _)⟩

theorem heavy_any (b : Bo) (fa sa : Option Addr) (fc sc : Nat) (stars shifts : Int) (w : World) (hb : BoArg0 w b fa sa) :
    Calls Try.prog 11 #[.agg #[.int .i64 b.e.lo, .int .i64 b.e.hi, .int .i64 b.n.lo, .int .i64 b.n.hi, .slice fa b.fs.length fc, .slice sa b.ss.length sc], .int .i64 stars, .int .i64 shifts] w fun e w' => e = .returned (.bool (heavyB b stars shifts)) ∧ Below w.heap.size w w' := by
  obtain ⟨hf, hs⟩ := hb
  have hdef : heavyB b stars shifts = (decide (30 < b.many) || (b.ok && (decide (stars < b.many) || decide (shifts < b.area)))) := rfl
  have HD := Lib.hid hdef
  clear hdef
  have hmany : b.many = max (b.fs.length : Int) (b.ss.length : Int) := rfl
  go_enter Try.func11, Try.ntmps11
  by_cases h30 : 30 < b.many
  · have h1 : decide (30 < b.many) = true := by simpa using h30
    have H1 := Lib.hid h1
    clear h1
    rw [hmany] at h30
    clear hmany
    by_cases hlt : (b.fs.length : Int) < (b.ss.length : Int)
    all_goals
      go_wp2
      go_ret
      exact ⟨ret_bool (by rw [HD.out, H1.out]; rfl), (Below.refl _ _).alloc (Nat.le_refl _) _⟩
  · have h1 : decide (30 < b.many) = false := by simpa using h30
    have H1 := Lib.hid h1
    clear h1
    have h30' : b.fs.length ≤ 30 ∧ b.ss.length ≤ 30 := by rw [hmany] at h30; omega
    obtain ⟨i1, i2⟩ := h30'
    have i1' : (b.fs.length : Int) ≤ 30 := by omega
    have i2' : (b.ss.length : Int) ≤ 30 := by omega
    clear h30
    obtain ⟨N, hN⟩ : ∃ N : Int, b.many = N := ⟨_, rfl⟩
    have HN := Lib.hid hN
    have hmx : max (b.fs.length : Int) (b.ss.length : Int) = N := by rw [← hN, hmany]
    have HMX := Lib.hid hmx
    have hN30 : N ≤ 30 := by omega
    have hN0 : 0 ≤ N := by omega
    clear hmx hN hmany
    have hcut : ∀ X : Int, X = N → X = N := fun _ h => h
    clear hcut
    go_upto_if 16 with fail
    go_cut [6, 7] (fun v n wx => n = .int .i64 N ∧ v = .bool false ∧ wx.heap[w.heap.size]? = some (.cells #[.int .i64 b.e.lo, .int .i64 b.e.hi, .int .i64 b.n.lo, .int .i64 b.n.hi, .slice fa b.fs.length fc, .slice sa b.ss.length sc] 26) ∧ Below w.heap.size w wx)
    case first =>
      have hb0 := below_alloc w (.cells #[.int .i64 b.e.lo, .int .i64 b.e.hi, .int .i64 b.n.lo, .int .i64 b.n.hi, .slice fa b.fs.length fc, .slice sa b.ss.length sc] 26)
      have g0 := obj_new w (.cells #[.int .i64 b.e.lo, .int .i64 b.e.hi, .int .i64 b.n.lo, .int .i64 b.n.hi, .slice fa b.fs.length fc, .slice sa b.ss.length sc] 26)
      by_cases hlt : (b.fs.length : Int) < (b.ss.length : Int)
      all_goals
        go_wp2_with fail
        go_meet
        exact ⟨by have := HMX.out; congr 1; omega, rfl, g0, hb0⟩
    case rest =>
      obtain ⟨rfl, rfl, g0, hb0⟩ := hcut
      have c0 := cell_block g0 0
      have c1 := cell_block g0 1
      have c2 := cell_block g0 2
      have c3 := cell_block g0 3
      have c4 := cell_block g0 4
      have c5 := cell_block g0 5
      simp only [List.getElem?_toArray, List.getElem?_cons_zero, List.getElem?_cons_succ] at c0 c1 c2 c3 c4 c5
      have hbo' : BoArg wc b fa sa := ⟨hf.below hb0 (Nat.le_refl _), hs.below hb0 (Nat.le_refl _), by omega, by omega⟩
      have HBO := Lib.hid hbo'
      clear hbo'
      go_wp2_with fail
      refine (border_any b fa sa fc sc _ HBO.out).mono ?_
      rintro e w2 ⟨rfl, hb1⟩
      have g1 := obj_later hb1 g0
      replace hb0 := hb0.trans (hb1.mono hb0.size)
      clear hb1 g0 c0 c1 c2 c3 c4 c5
      cases hok : b.ok
      all_goals
        have HOK := Lib.hid hok
        clear hok
      · go_wp2
        go_ret
        exact ⟨ret_bool (by rw [HD.out, H1.out, HOK.out]; rfl), hb0⟩
      · have hbd : (-20 ≤ b.e.lo ∧ b.e.lo ≤ b.e.hi ∧ b.e.hi ≤ 20) ∧ (-20 ≤ b.n.lo ∧ b.n.lo ≤ b.n.hi ∧ b.n.hi ≤ 20) := by
          have := HOK.out
          simp only [Bo.ok, Sp.ok, Bool.and_eq_true, decide_eq_true_eq] at this
          omega
        obtain ⟨⟨b1, b2, b3⟩, b4, b5, b6⟩ := hbd
        have c0 := cell_block g1 0
        have c1 := cell_block g1 1
        have c2 := cell_block g1 2
        have c3 := cell_block g1 3
        simp only [List.getElem?_toArray, List.getElem?_cons_zero, List.getElem?_cons_succ] at c0 c1 c2 c3
        have harea : b.area = (b.e.hi - b.e.lo + 1) * (b.n.hi - b.n.lo + 1) := rfl
        have hlo : 0 ≤ (b.e.hi - b.e.lo + 1) * (b.n.hi - b.n.lo + 1) := Int.mul_nonneg (by omega) (by omega)
        have hhi : (b.e.hi - b.e.lo + 1) * (b.n.hi - b.n.lo + 1) ≤ 41 * 41 := Int.mul_le_mul (by omega) (by omega) (by omega) (by omega)
        have hwr : IntKind.i64.wrap ((b.e.hi - b.e.lo + 1) * (b.n.hi - b.n.lo + 1)) = (b.e.hi - b.e.lo + 1) * (b.n.hi - b.n.lo + 1) := by rw [IntKind.wrap_i64]; omega
        have HAR := Lib.hid harea
        clear harea
        by_cases hst : stars < N
        · have hd : decide (stars < N) = true := by simpa using hst
          go_wp2
          go_ret
          exact ⟨ret_bool (by rw [HD.out, H1.out, HOK.out, HN.out]; simp [hst]), hb0⟩
        · have hd : decide (stars < N) = false := by simpa using hst
          go_wp2
          go_ret
          refine ⟨ret_bool ?_, hb0⟩
          rw [HD.out, H1.out, HOK.out, HN.out, HAR.out]
          simp only [hd, Bool.true_and, Bool.false_or]
end Go.Proofs.Ytjkegmjjhdmkiaa
namespace Go.Proofs.Ytjkegmjjhdmkiaa
open Go.RowKit Go.Shelf
set_option maxHeartbeats 1600000
set_option maxRecDepth 100000
set_option linter.unusedSimpArgs false

def smp : Bo := ⟨⟨-5, 5⟩, ⟨-5, 5⟩, [⟨⟨100, 101⟩, ⟨50, 50⟩, ⟨500, 520⟩, true⟩, ⟨⟨200, 201⟩, ⟨60, 61⟩, ⟨300, 310⟩, true⟩, ⟨⟨300, 300⟩, ⟨40, 40⟩, ⟨800, 810⟩, false⟩],
  [⟨⟨98, 99⟩, ⟨51, 52⟩, ⟨510, 530⟩, true⟩, ⟨⟨198, 198⟩, ⟨62, 62⟩, ⟨305, 315⟩, false⟩, ⟨⟨250, 250⟩, ⟨10, 10⟩, ⟨100, 120⟩, false⟩]⟩
/-- The sample, its third star Sure too. -/
def smp' : Bo := { smp with fs := [⟨⟨100, 101⟩, ⟨50, 50⟩, ⟨500, 520⟩, true⟩, ⟨⟨200, 201⟩, ⟨60, 61⟩, ⟨300, 310⟩, true⟩, ⟨⟨300, 300⟩, ⟨40, 40⟩, ⟨800, 810⟩, true⟩] }

def edCells (x : Ed) : List Value := [.int .i64 x.e.lo, .int .i64 x.e.hi, .int .i64 x.n.lo, .int .i64 x.n.hi, .int .i64 x.b.lo, .int .i64 x.b.hi, .bool x.sure]
def edsCells (l : List Ed) : List Value := l.flatMap edCells
theorem edsCells_len (l : List Ed) : (edsCells l).length = l.length * 7 := by
  induction l with
  | nil => rfl
  | cons x l ih => unfold edsCells at *; rw [List.flatMap_cons, List.length_append, ih]; simp [edCells]; omega
theorem edsCells_get : ∀ (l : List Ed) (k j : Nat) (h : k < l.length) (_ : j < 7), (edsCells l)[k * 7 + j]? = (edCells l[k])[j]?
  | x :: l, 0, j, _, hj => by
    unfold edsCells
    rw [List.flatMap_cons, List.getElem?_append_left (by simp [edCells]; omega)]
    simp
  | x :: l, k + 1, j, h, hj => by
    have ih := edsCells_get l k j (by simpa using h) hj
    unfold edsCells at *
    rw [List.flatMap_cons, List.getElem?_append_right (by simp [edCells]; omega)]
    have e : (k + 1) * 7 + j - (edCells x).length = k * 7 + j := by simp [edCells]; omega
    rw [e, ih]
    rfl
theorem EdSl.of_block {w : World} {q c : Nat} {l : List Ed} {T : TypeId} {fz : Nat × Nat} {cs : Array Value} (h : w.heap[q]? = some (.cells cs T fz)) (hc : ∀ i, i < l.length * 7 → cs[i]? = (edsCells l)[i]?) (_ : c = c) : EdSl w (some ⟨q, 0, none⟩) l := fun k hk => by
  have hlt := (Array.getElem?_eq_some_iff.1 h).1
  have hj : ∀ j, j < 7 → w.cell? ⟨q, 0 + k * 7 + j, none⟩ = (edCells l[k])[j]? := fun j hj => by
    rw [cell_block h, hc _ (by omega), Nat.zero_add]
    exact edsCells_get l k j hk hj
  exact ⟨q, 0, rfl, hlt, hj 0 (by omega), hj 1 (by omega), hj 2 (by omega), hj 3 (by omega), hj 4 (by omega), hj 5 (by omega), hj 6 (by omega)⟩

/-- How the sample is returned. -/
def SamplePost (w : World) (e : Ending) (w' : World) : Prop :=
  ∃ q1 q2, e = .returned (.agg #[.int .i64 (-5), .int .i64 5, .int .i64 (-5), .int .i64 5, .slice (some ⟨q1, 0, none⟩) 3 3, .slice (some ⟨q2, 0, none⟩) 3 3]) ∧
    w'.heap[q1]? = some (.cells (edsCells smp.fs).toArray 55) ∧ w'.heap[q2]? = some (.cells (edsCells smp.ss).toArray 55) ∧ w.heap.size ≤ q1 ∧ w.heap.size ≤ q2 ∧ q1 ≠ q2 ∧ Below w.heap.size w w'

theorem sample_any (w : World) : Calls Try.prog 39 #[] w (SamplePost w) := by
  go_enter Try.func39, Try.ntmps39
  go_wp2_with fail
  obtain ⟨W0, hW0⟩ : ∃ W, (w.alloc (.cells #[.int .i64 0, .int .i64 0, .int .i64 0, .int .i64 0, .slice none 0 0, .slice none 0 0] 26)) = W := ⟨_, rfl⟩
  rw [hW0]
  try simp only [Nat.add_assoc, Nat.reduceAdd]
  have hst_W0 : Steps (fun _ => False) w W0 := by rw [← hW0]; exact Steps.alloc _ w _
  have hz_W0 : W0.heap.size = w.heap.size + 1 := by rw [← hW0]; simp
  have g0_W0 : W0.heap[w.heap.size]? = some (.cells #[.int .i64 0, .int .i64 0, .int .i64 0, .int .i64 0, .slice none 0 0, .slice none 0 0] 26) := by rw [← hW0]; simp only [alloc_get, World.size_alloc]; repeat (first | exact if_pos trivial | exact if_pos (by omega) | rw [if_neg (by omega)])
  clear hW0
  have hb0 : Below w.heap.size w W0 := hst_W0.below (Nat.le_refl _) (fun _ _ h => h)
  refine (ledge_any _ _ _ _ _ _ _ _).mono ?_
  rintro r w1 ⟨rfl, hb1⟩
  have g1 := obj_later hb1 g0_W0
  replace hb0 := hb0.trans (hb1.mono hb0.size)
  clear hb1 g0_W0
  go_wp2_with fail
  refine (ledge_any _ _ _ _ _ _ _ _).mono ?_
  rintro r w2 ⟨rfl, hb1⟩
  have g2 := obj_later hb1 g1
  replace hb0 := hb0.trans (hb1.mono hb0.size)
  clear hb1 g1
  go_wp2_with fail
  refine (ledge_any _ _ _ _ _ _ _ _).mono ?_
  rintro r w3 ⟨rfl, hb1⟩
  have g3 := obj_later hb1 g2
  replace hb0 := hb0.trans (hb1.mono hb0.size)
  clear hb1 g2
  go_wp2_with fail
  obtain ⟨W3, hW3⟩ : ∃ W, (w3.alloc (.cells #[.int .i64 100, .int .i64 101, .int .i64 50, .int .i64 50, .int .i64 500, .int .i64 520, .bool true, .int .i64 200, .int .i64 201, .int .i64 60, .int .i64 61, .int .i64 300, .int .i64 310, .bool true, .int .i64 300, .int .i64 300, .int .i64 40, .int .i64 40, .int .i64 800, .int .i64 810, .bool false] 55)) = W := ⟨_, rfl⟩
  rw [hW3]
  try simp only [Nat.add_assoc, Nat.reduceAdd]
  have hst_W3 : Steps (fun _ => False) w3 W3 := by rw [← hW3]; exact Steps.alloc _ w3 _
  have hz_W3 : W3.heap.size = w3.heap.size + 1 := by rw [← hW3]; simp
  have g0_W3 : W3.heap[w3.heap.size]? = some (.cells #[.int .i64 100, .int .i64 101, .int .i64 50, .int .i64 50, .int .i64 500, .int .i64 520, .bool true, .int .i64 200, .int .i64 201, .int .i64 60, .int .i64 61, .int .i64 300, .int .i64 310, .bool true, .int .i64 300, .int .i64 300, .int .i64 40, .int .i64 40, .int .i64 800, .int .i64 810, .bool false] 55) := by rw [← hW3]; simp only [alloc_get, World.size_alloc]; repeat (first | exact if_pos trivial | exact if_pos (by omega) | rw [if_neg (by omega)])
  clear hW3
  have hf : W3.heap[w3.heap.size]? = some (.cells (edsCells smp.fs).toArray 55) := g0_W3
  have g4 := obj_later (hst_W3.below (Nat.le_refl _) (fun _ _ h => h)) g3
  have hz3 := hb0.size
  have hlt3 := (Array.getElem?_eq_some_iff.1 g3).1
  replace hb0 := hb0.trans (hst_W3.below (by omega) (fun _ _ h => h))
  clear g3 g0_W3
  refine (ledge_any _ _ _ _ _ _ _ _).mono ?_
  rintro r w4 ⟨rfl, hb1⟩
  have g5 := obj_later hb1 g4
  replace hf := obj_later hb1 hf
  have hz4 := hb1.size
  clear g4
  replace hb0 := hb0.trans (hb1.mono hb0.size)
  clear hb1
  go_wp2_with fail
  refine (ledge_any _ _ _ _ _ _ _ _).mono ?_
  rintro r w5 ⟨rfl, hb1⟩
  have g6 := obj_later hb1 g5
  replace hf := obj_later hb1 hf
  have hz5 := hb1.size
  clear g5
  replace hb0 := hb0.trans (hb1.mono hb0.size)
  clear hb1
  go_wp2_with fail
  refine (ledge_any _ _ _ _ _ _ _ _).mono ?_
  rintro r w6 ⟨rfl, hb1⟩
  have g7 := obj_later hb1 g6
  replace hf := obj_later hb1 hf
  have hz6 := hb1.size
  clear g6
  replace hb0 := hb0.trans (hb1.mono hb0.size)
  clear hb1
  go_wp2_with fail
  obtain ⟨W6, hW6⟩ : ∃ W, (w6.alloc (.cells #[.int .i64 98, .int .i64 99, .int .i64 51, .int .i64 52, .int .i64 510, .int .i64 530, .bool true, .int .i64 198, .int .i64 198, .int .i64 62, .int .i64 62, .int .i64 305, .int .i64 315, .bool false, .int .i64 250, .int .i64 250, .int .i64 10, .int .i64 10, .int .i64 100, .int .i64 120, .bool false] 55)) = W := ⟨_, rfl⟩
  rw [hW6]
  try simp only [Nat.add_assoc, Nat.reduceAdd]
  have hst_W6 : Steps (fun _ => False) w6 W6 := by rw [← hW6]; exact Steps.alloc _ w6 _
  have hz_W6 : W6.heap.size = w6.heap.size + 1 := by rw [← hW6]; simp
  have g0_W6 : W6.heap[w6.heap.size]? = some (.cells #[.int .i64 98, .int .i64 99, .int .i64 51, .int .i64 52, .int .i64 510, .int .i64 530, .bool true, .int .i64 198, .int .i64 198, .int .i64 62, .int .i64 62, .int .i64 305, .int .i64 315, .bool false, .int .i64 250, .int .i64 250, .int .i64 10, .int .i64 10, .int .i64 100, .int .i64 120, .bool false] 55) := by rw [← hW6]; simp only [alloc_get, World.size_alloc]; repeat (first | exact if_pos trivial | exact if_pos (by omega) | rw [if_neg (by omega)])
  clear hW6
  have hs : W6.heap[w6.heap.size]? = some (.cells (edsCells smp.ss).toArray 55) := g0_W6
  have hb6 := hst_W6.below (Nat.le_refl _) (fun _ _ h => h)
  have g8 := obj_later hb6 g7
  replace hf := obj_later hb6 hf
  have hz0 := hb0.size
  replace hb0 := hb0.trans (hb6.mono (by omega))
  clear g7 g0_W6 hb6
  refine (lspan_any _ _ _).mono ?_
  rintro r w7 ⟨rfl, hb1⟩
  have g9 := obj_later hb1 g8
  replace hf := obj_later hb1 hf
  replace hs := obj_later hb1 hs
  clear g8
  replace hb0 := hb0.trans (hb1.mono hb0.size)
  clear hb1
  go_wp2_with fail
  refine (lspan_any _ _ _).mono ?_
  rintro r w8 ⟨rfl, hb1⟩
  have g10 := obj_later hb1 g9
  replace hf := obj_later hb1 hf
  replace hs := obj_later hb1 hs
  replace hb0 := hb0.trans (hb1.mono hb0.size)
  clear hb1 g9
  have c0 := cell_block g10 0
  have c1 := cell_block g10 1
  have c2 := cell_block g10 2
  have c3 := cell_block g10 3
  have c4 := cell_block g10 4
  have c5 := cell_block g10 5
  simp only [List.getElem?_toArray, List.getElem?_cons_zero, List.getElem?_cons_succ] at c0 c1 c2 c3 c4 c5
  have f0 := frozen_block g10 0
  have f1 := frozen_block g10 1
  have f2 := frozen_block g10 2
  have f3 := frozen_block g10 3
  have f4 := frozen_block g10 4
  have f5 := frozen_block g10 5
  go_wp2_with fail
  have hle : ∀ k, w.heap.size ≤ (⟨w.heap.size, k, none⟩ : Addr).block := fun k => Nat.le_refl _
  have hh : ∀ {q : Nat} {o : Option Obj} {W : World}, W.heap[q]? = o → q ≠ w.heap.size → ∀ (i : Nat) (v : Value), (W.setCell ⟨w.heap.size, i, none⟩ v).heap[q]? = o := fun h hne i v => block_other h hne i v
  refine bodyPost_ret (v := .agg #[.int .i64 (-5), .int .i64 5, .int .i64 (-5), .int .i64 5, .slice (some ⟨w3.heap.size, 0, none⟩) 3 3, .slice (some ⟨w6.heap.size, 0, none⟩) 3 3]) (by simp [results, Try.results39, go_sem, c0, c1, c2, c3, c4, c5]) rfl
    ⟨w3.heap.size, w6.heap.size, rfl, ?_, ?_, by omega, by omega, by omega, ?_⟩
  · exact hh (hh (hh (hh (hh (hh hf (by omega) 0 _) (by omega) 1 _) (by omega) 2 _) (by omega) 3 _) (by omega) 4 _) (by omega) 5 _
  · exact hh (hh (hh (hh (hh (hh hs (by omega) 0 _) (by omega) 1 _) (by omega) 2 _) (by omega) 3 _) (by omega) 4 _) (by omega) 5 _
  · exact ((((((hb0.setCell (hle 0) _).setCell (hle 1) _).setCell (hle 2) _).setCell (hle 3) _).setCell (hle 4) _).setCell (hle 5) _)
end Go.Proofs.Ytjkegmjjhdmkiaa
namespace Go.Proofs.Ytjkegmjjhdmkiaa
open Go.RowKit Go.Shelf
set_option maxHeartbeats 1600000
set_option maxRecDepth 100000
set_option linter.unusedSimpArgs false

/-- A slice at a reads as these numbers. -/
def IntsV (w : World) (a : Option Addr) (xs : List Int) : Prop := ∀ k (h : k < xs.length), ∃ q o, a = some ⟨q, o, none⟩ ∧ q < w.heap.size ∧ w.cell? ⟨q, o + k, none⟩ = some (.int .i64 xs[k])
theorem IntsV.below {B : Nat} {w w' : World} {a : Option Addr} {xs : List Int} (h : IntsV w a xs) (hb : Below B w w') (hB : w.heap.size ≤ B) : IntsV w' a xs := fun k hk => by
  obtain ⟨q, o, h1, h2, h3⟩ := h k hk
  exact ⟨q, o, h1, Nat.lt_of_lt_of_le h2 hb.size, (cell_same (hb.block q (by omega))).trans h3⟩
theorem IntsAt.v {w : World} {q : Nat} {xs : List Int} (h : IntsAt w q xs) : IntsV w (some ⟨q, 0, none⟩) xs := fun k hk => ⟨q, 0, rfl, h.lt, by rw [Nat.zero_add]; exact h.cell k hk⟩
theorem IntsV.nil (w : World) (a : Option Addr) : IntsV w a [] := fun k h => absurd h (Nat.not_lt_zero k)

theorem take_eq_of {xs ys : List Int} (hl : xs.length = ys.length) (k : Nat) (h : k < xs.length) (ht : xs.take k = ys.take k) : (xs.take (k + 1) = ys.take (k + 1)) ↔ xs[k] = ys[k] := by
  rw [List.take_succ_eq_append_getElem h, List.take_succ_eq_append_getElem (l := ys) (by omega), ht, List.append_right_inj]
  simp

theorem ints_any (a a' : Option Addr) (c c' : Nat) (xs ys : List Int) (w : World) (hx : IntsV w a xs) (hy : IntsV w a' ys) (hlx : xs.length ≤ 100) (hly : ys.length ≤ 100) :
    Calls Try.prog 27 #[.slice a xs.length c, .slice a' ys.length c'] w fun e w' => e = .returned (.bool (decide (xs = ys))) ∧ Below w.heap.size w w' := by
  have i1 : (xs.length : Int) ≤ 100 := by omega
  have i2 : (ys.length : Int) ≤ 100 := by omega
  by_cases hl : xs.length = ys.length
  · have hne : (((xs.length : Int)) != (ys.length : Int)) = false := by rw [hl]; simp
    have HL := Lib.hid hl
    have hlt' : ∀ k, k < xs.length → k < ys.length := fun k h => by omega
    clear hl
    go_enter Try.func27, Try.ntmps27
    go_wp2_with fail
    go_loopw [5] (fun i wr => ∃ k : Nat, k ≤ xs.length ∧ i = .int .i64 k ∧ xs.take k = ys.take k ∧ Below w.heap.size w wr) (fun i _ => xs.length - (intOf i).toNat)
    case atStart => exact ⟨0, Nat.zero_le _, rfl, rfl, Below.refl _ _⟩
    case round =>
      rename_i wr
      obtain ⟨k, hk, rfl, htk, hbw⟩ := hrel
      have HT := Lib.hid htk
      clear htk
      by_cases hlt : k < xs.length
      · have hlty := hlt' k hlt
        obtain ⟨q, o, rfl, hq, hc⟩ := (hx.below hbw (Nat.le_refl _)) k hlt
        obtain ⟨q', o', rfl, hq', hc'⟩ := (hy.below hbw (Nat.le_refl _)) k hlty
        have htake := take_eq_of HL.out k hlt HT.out
        have hno : xs[k] ≠ ys[k] → decide (xs = ys) = false := fun h => by
          simp only [decide_eq_false_iff_not]
          intro e
          subst e
          exact h rfl
        have HK := Lib.hid htake
        have HNO := Lib.hid hno
        clear htake hno
        generalize xs[k] = x at hc HK HNO
        generalize ys[k] = y at hc' HK HNO
        have hki : (k : Int) < xs.length := by omega
        have hkj : (k : Int) < ys.length := by omega
        go_upto_region 6 with fail
        by_cases hxy : x = y
        · have hb : (x != y) = false := by simp [hxy]
          have HXY := Lib.hid hxy
          clear hxy
          go_quiet (fail)
          go_wp2
          go_roundw
          case rel => exact ⟨k + 1, by omega, by go_num, HK.out.2 HXY.out, below_drewN hbw _⟩
          case measure => simp [intOf]; omega
        · have hb : (x != y) = true := by simp [hxy]
          have HXY := Lib.hid hxy
          clear hxy
          go_quiet (fail)
          go_wp2
          go_ret
          exact ⟨ret_bool (HNO.out HXY.out).symm, below_drewN hbw _⟩
      · obtain rfl : k = xs.length := by omega
        have he : decide (xs = ys) = true := by
          have h1 := HT.out
          have h2 := HL.out
          rw [List.take_length, h2, List.take_length] at h1
          simp [h1]
        have HE := Lib.hid he
        clear he
        go_wp2
        go_ret
        exact ⟨ret_bool HE.out.symm, hbw⟩
  · have hne : (((xs.length : Int)) != (ys.length : Int)) = true := by simp; omega
    have he : decide (xs = ys) = false := by simp only [decide_eq_false_iff_not]; intro e; exact hl (by rw [e])
    have HE := Lib.hid he
    clear hl he
    go_enter Try.func27, Try.ntmps27
    go_wp2
    go_ret
    exact ⟨ret_bool HE.out.symm, Below.refl _ _⟩
end Go.Proofs.Ytjkegmjjhdmkiaa
namespace Go.Proofs.Ytjkegmjjhdmkiaa
open Go.RowKit Go.Shelf
set_option maxRecDepth 100000

theorem smp_same : bSame smp 0 0 2 (-1) = (true, 0) := by decide +kernel
theorem smp_possible : bPossible smp 2 (-1) = (1, 0) := by decide +kernel
theorem smp_shift : bShift smp = (⟨2, 3⟩, ⟨-2, -1⟩, 0) := by decide +kernel
theorem smp_pairs : bPairs smp 1 = (2, 2, 0) := by decide +kernel
theorem smp_alone : bAlone smp = (4, 4, 0) := by decide +kernel
theorem smp_best : bBest smp = (some ((2, -2), [0, 1, -1]), 0) := by decide +kernel
theorem smp_ok : smp.ok = true := by decide +kernel
theorem smp_ok' : smp'.ok = true := by decide +kernel
theorem smp_no : bCan smp' (sures smp'.fs) (sures smp'.ss) = false := by decide +kernel
theorem smp_256 : canSet smp' 256 = false := by decide +kernel
theorem smp_all : allSure smp' = 449 := by decide +kernel
theorem smp_few : ∀ i : Fin 256, andN i.val 449 = 0 → popc 12 i.val ≤ 1 → canSet smp' i.val = true := by decide +kernel
theorem smp_clash {t : Nat} (h : IsClash smp' t) : t = 256 := by
  obtain ⟨h1, h2, h3, h4, h5⟩ := h
  rw [smp_all] at h1 h2 h4 h5
  have p256 : popc 12 256 = 1 := by decide +kernel
  have s256 : andN 256 449 = 0 := by decide +kernel
  have hp : popc 12 t ≤ 1 := by
    rcases Nat.lt_or_ge 1 (popc 12 t) with h | h
    · have := h4 256 (by omega) s256 (by omega)
      rw [smp_256] at this
      cases this
    · exact h
  rcases Nat.lt_trichotomy t 256 with h | h | h
  · have := smp_few ⟨t, h⟩ h2 hp
    simp only at this
    rw [h3] at this
    cases this
  · exact h
  · rcases Nat.lt_or_ge 0 (popc 12 t) with h6 | h6
    · have := h5 256 h s256 (by omega)
      rw [smp_256] at this
      cases this
    · have := h4 0 (by omega)
      exfalso
      have hz : ∀ i : Fin 450, popc 12 i.val = 0 → i.val = 0 := by decide +kernel
      have := hz ⟨t, by omega⟩ (by simp only; omega)
      simp only at this
      omega
end Go.Proofs.Ytjkegmjjhdmkiaa
namespace Go.Proofs.Ytjkegmjjhdmkiaa
open Go.RowKit Go.Shelf
set_option maxHeartbeats 3200000
set_option maxRecDepth 100000
set_option linter.unusedSimpArgs false

theorem smp_arg {w : World} {q1 q2 : Nat} (h1 : w.heap[q1]? = some (.cells (edsCells smp.fs).toArray 55)) (h2 : w.heap[q2]? = some (.cells (edsCells smp.ss).toArray 55)) : BoArg w smp (some ⟨q1, 0, none⟩) (some ⟨q2, 0, none⟩) :=
  ⟨EdSl.of_block (c := 0) h1 (fun i hi => by simp) rfl, EdSl.of_block (c := 0) h2 (fun i hi => by simp) rfl, by decide, by decide⟩

theorem awake_any (w : World) : Calls Try.prog 12 #[] w fun e w' => e = .returned (.bool true) ∧ Below w.heap.size w w' := by
  have n1 : ∀ w, (binOp .neq 23 (.agg #[.int .i64 2, .int .i64 3]) (.agg #[.int .i64 2, .int .i64 3])).run Try.prog w = .ok (.bool false) w := fun w => by kernel_rfl
  have n2 : ∀ w, (binOp .neq 23 (.agg #[.int .i64 (-2), .int .i64 (-1)]) (.agg #[.int .i64 (-2), .int .i64 (-1)])).run Try.prog w = .ok (.bool false) w := fun w => by kernel_rfl
  go_enter Try.func12, Try.ntmps12
  -- Same
  go_wp2_with fail
  refine (sample_any _).mono ?_
  rintro e w1 ⟨q1, q2, rfl, g1, g2, _, _, _, hb0⟩
  go_wp2_with fail
  have hc := xsame_any smp 0 0 2 (-1) (some ⟨q1, 0, none⟩) (some ⟨q2, 0, none⟩) 3 3 w1 (smp_arg g1 g2)
  refine hc.mono ?_
  clear hc
  rintro e w2 ⟨he, hb1⟩
  rw [smp_same] at he
  subst he
  replace hb0 := hb0.trans (hb1.mono hb0.size)
  clear hb1 g1 g2
  -- Possible
  go_wp2_with fail
  refine (sample_any _).mono ?_
  rintro e w3 ⟨q1, q2, rfl, g1, g2, _, _, _, hb1⟩
  replace hb0 := hb0.trans (hb1.mono hb0.size)
  clear hb1
  go_wp2_with fail
  have hc := possible_any smp 2 (-1) (some ⟨q1, 0, none⟩) (some ⟨q2, 0, none⟩) 3 3 w3 (smp_arg g1 g2)
  refine hc.mono ?_
  clear hc
  rintro e w4 ⟨he, hb1⟩
  rw [smp_possible] at he
  subst he
  replace hb0 := hb0.trans (hb1.mono hb0.size)
  clear hb1 g1 g2
  -- Shift
  go_wp2_with fail
  refine (sample_any _).mono ?_
  rintro e w5 ⟨q1, q2, rfl, g1, g2, _, _, _, hb1⟩
  replace hb0 := hb0.trans (hb1.mono hb0.size)
  clear hb1
  go_wp2_with fail
  have hc := shift_any smp (some ⟨q1, 0, none⟩) (some ⟨q2, 0, none⟩) 3 3 w5 (smp_arg g1 g2)
  refine hc.mono ?_
  clear hc
  rintro e w6 ⟨he, hb1⟩
  rw [smp_shift] at he
  unfold spV at he
  simp only at he
  subst he
  replace hb0 := hb0.trans (hb1.mono hb0.size)
  clear hb1 g1 g2
  go_wp2_with fail
  obtain ⟨W6, hW6⟩ : ∃ W, ((w6.alloc (.cells #[.int .i64 2, .int .i64 3] 23)).alloc (.cells #[.int .i64 (-2), .int .i64 (-1)] 23)) = W := ⟨_, rfl⟩
  rw [hW6]
  try simp only [Nat.add_assoc, Nat.reduceAdd]
  have hst_W6 : Steps (fun _ => False) w6 W6 := by rw [← hW6]; exact (Steps.alloc _ w6 _).trans (Steps.alloc (fun _ => False) _ _) (fun _ _ h => h)
  have hz_W6 : W6.heap.size = w6.heap.size + 2 := by rw [← hW6]; simp
  have g0_W6 : W6.heap[w6.heap.size]? = some (.cells #[.int .i64 2, .int .i64 3] 23) := by rw [← hW6]; simp only [alloc_get, World.size_alloc]; repeat (first | exact if_pos trivial | exact if_pos (by omega) | rw [if_neg (by omega)])
  have g1_W6 : W6.heap[w6.heap.size + 1]? = some (.cells #[.int .i64 (-2), .int .i64 (-1)] 23) := by rw [← hW6]; simp only [alloc_get, World.size_alloc]; repeat (first | exact if_pos trivial | exact if_pos (by omega) | rw [if_neg (by omega)])
  clear hW6
  have s1 := g0_W6
  have s2 := g1_W6
  replace hb0 := hb0.trans (hst_W6.below hb0.size (fun _ _ h => h))
  clear g0_W6 g1_W6 hst_W6 hz_W6
  obtain ⟨b1, hb1⟩ : ∃ x, w6.heap.size = x := ⟨_, rfl⟩
  rw [hb1] at s1 s2 ⊢
  clear hb1
  -- Pairs
  refine (sample_any _).mono ?_
  rintro e w7 ⟨q1, q2, rfl, g1, g2, _, _, _, hb1⟩
  replace s1 := obj_later hb1 s1
  replace s2 := obj_later hb1 s2
  replace hb0 := hb0.trans (hb1.mono hb0.size)
  clear hb1
  go_wp2_with fail
  have hc := pairs_any smp 1 (some ⟨q1, 0, none⟩) (some ⟨q2, 0, none⟩) 3 3 w7 (smp_arg g1 g2)
  refine hc.mono ?_
  clear hc
  rintro e w8 ⟨he, hb1⟩
  rw [smp_pairs] at he
  subst he
  replace s1 := obj_later hb1 s1
  replace s2 := obj_later hb1 s2
  replace hb0 := hb0.trans (hb1.mono hb0.size)
  clear hb1 g1 g2
  go_wp2_with fail
  -- Alone
  refine (sample_any _).mono ?_
  rintro e w9 ⟨q1, q2, rfl, g1, g2, _, _, _, hb1⟩
  replace s1 := obj_later hb1 s1
  replace s2 := obj_later hb1 s2
  replace hb0 := hb0.trans (hb1.mono hb0.size)
  clear hb1
  go_wp2_with fail
  have hc := alone_any smp (some ⟨q1, 0, none⟩) (some ⟨q2, 0, none⟩) 3 3 w9 (smp_arg g1 g2)
  refine hc.mono ?_
  clear hc
  rintro e w10 ⟨he, hb1⟩
  rw [smp_alone] at he
  subst he
  replace s1 := obj_later hb1 s1
  replace s2 := obj_later hb1 s2
  replace hb0 := hb0.trans (hb1.mono hb0.size)
  clear hb1 g1 g2
  go_wp2_with fail
  -- Best
  refine (sample_any _).mono ?_
  rintro e w11 ⟨q1, q2, rfl, g1, g2, _, _, _, hb1⟩
  replace s1 := obj_later hb1 s1
  replace s2 := obj_later hb1 s2
  replace hb0 := hb0.trans (hb1.mono hb0.size)
  clear hb1
  go_wp2_with fail
  have hc := best_any smp (some ⟨q1, 0, none⟩) (some ⟨q2, 0, none⟩) 3 3 w11 (smp_arg g1 g2)
  refine hc.mono ?_
  clear hc
  rintro e w12 ⟨he, hb1⟩
  rw [smp_best] at he
  obtain ⟨qb, cb, rfl, hI⟩ := he
  replace s1 := obj_later hb1 s1
  replace s2 := obj_later hb1 s2
  replace hb0 := hb0.trans (hb1.mono hb0.size)
  clear hb1 g1 g2
  have hIl := hI.lt
  have hs1l := (Array.getElem?_eq_some_iff.1 s1).1
  have hs2l := (Array.getElem?_eq_some_iff.1 s2).1
  go_wp2_with fail
  -- Clash
  refine (sample_any _).mono ?_
  rintro e w13 ⟨q1, q2, rfl, g1, g2, hq1, hq2, hq12, hb1⟩
  replace s1 := obj_later hb1 s1
  replace s2 := obj_later hb1 s2
  replace hI := hI.later (hb1.block _ hIl)
  replace hb0' := hb0.trans (hb1.mono hb0.size)
  have hz1 := hb1.size
  clear hb1
  go_upto_region 8 with fail
  obtain ⟨W13, hW13⟩ : ∃ W, (w13.alloc (.cells #[.int .i64 (-5), .int .i64 5, .int .i64 (-5), .int .i64 5, .slice (some ⟨q1, 0, none⟩) 3 3, .slice (some ⟨q2, 0, none⟩) 3 3] 26)) = W := ⟨_, rfl⟩
  rw [hW13]
  try simp only [Nat.add_assoc, Nat.reduceAdd]
  have hst_W13 : Steps (fun _ => False) w13 W13 := by rw [← hW13]; exact Steps.alloc _ w13 _
  have hz_W13 : W13.heap.size = w13.heap.size + 1 := by rw [← hW13]; simp
  have g0_W13 : W13.heap[w13.heap.size]? = some (.cells #[.int .i64 (-5), .int .i64 5, .int .i64 (-5), .int .i64 5, .slice (some ⟨q1, 0, none⟩) 3 3, .slice (some ⟨q2, 0, none⟩) 3 3] 26) := by rw [← hW13]; simp only [alloc_get, World.size_alloc]; repeat (first | exact if_pos trivial | exact if_pos (by omega) | rw [if_neg (by omega)])
  clear hW13
  have hbW : Below w13.heap.size w13 W13 := hst_W13.below (Nat.le_refl _) (fun _ _ h => h)
  have hq1m := (Array.getElem?_eq_some_iff.1 g1).1
  replace g1 := obj_later hbW g1
  replace g2 := obj_later hbW g2
  replace s1 := obj_later hbW s1
  replace s2 := obj_later hbW s2
  replace hI := hI.later (hbW.block _ (by omega))
  replace hb0' := hb0'.trans (hbW.mono hb0'.size)
  have hq1l := (Array.getElem?_eq_some_iff.1 g1).1
  have hg1l := (Array.getElem?_eq_some_iff.1 g1).1
  have c4 := cell_block g0_W13 4
  have c20 := cell_block g1 20
  have e20 : (edsCells smp.fs).toArray[20]? = some (.bool false) := by rfl
  rw [e20] at c20
  simp only [List.getElem?_toArray, List.getElem?_cons_zero, List.getElem?_cons_succ] at c4
  have f20 := frozen_block g1 20
  have hsame : (edsCells smp.fs).toArray.setIfInBounds 20 (.bool true) = (edsCells smp'.fs).toArray := by rfl
  have HSM := Lib.hid hsame
  clear hsame
  go_upto_region 9 with fail
  have z1 : (W13.setCell ⟨q1, 20, none⟩ (.bool true)).heap[q1]? = some (.cells (edsCells smp'.fs).toArray 55) := by rw [← HSM.out]; exact block_set g1 20 (.bool true)
  have z2 : (W13.setCell ⟨q1, 20, none⟩ (.bool true)).heap[q2]? = some (.cells (edsCells smp'.ss).toArray 55) := block_other g2 (Ne.symm hq12) 20 (.bool true)
  have z3 : (W13.setCell ⟨q1, 20, none⟩ (.bool true)).heap[b1]? = _ := block_other s1 (by omega) 20 (.bool true)
  have z4 : (W13.setCell ⟨q1, 20, none⟩ (.bool true)).heap[b1 + 1]? = _ := block_other s2 (by omega) 20 (.bool true)
  have z5 : IntsAt (W13.setCell ⟨q1, 20, none⟩ (.bool true)) qb [0, 1, -1] := hI.later (Below.heap_setCell _ _ _ _ (by show ¬ qb = q1; omega))
  have z6 : (W13.setCell ⟨q1, 20, none⟩ (.bool true)).heap[w13.heap.size]? = _ := block_other g0_W13 (by omega) 20 (.bool true)
  have z7 : Below w.heap.size w (W13.setCell ⟨q1, 20, none⟩ (.bool true)) := hb0'.setCell (p := ⟨q1, 20, none⟩) (by have := hb0.size; show w.heap.size ≤ q1; omega) _
  generalize W13.setCell ⟨q1, 20, none⟩ (.bool true) = w14 at z1 z2 z3 z4 z5 z6 z7 ⊢
  clear hbW g1 g2 s1 s2 hI hb0' c4 c20 e20 f20 HSM g0_W13 hst_W13
  have c0 := cell_block z6 0
  have c1 := cell_block z6 1
  have c2 := cell_block z6 2
  have c3 := cell_block z6 3
  have c4 := cell_block z6 4
  have c5 := cell_block z6 5
  simp only [List.getElem?_toArray, List.getElem?_cons_zero, List.getElem?_cons_succ] at c0 c1 c2 c3 c4 c5
  go_wp2_with fail
  have hc := clash_any smp' (some ⟨q1, 0, none⟩) (some ⟨q2, 0, none⟩) 3 3 w14 ⟨EdSl.of_block (c := 0) z1 (fun i hi => by simp) rfl, EdSl.of_block (c := 0) z2 (fun i hi => by simp) rfl, by decide, by decide⟩
  refine hc.mono ?_
  clear hc
  rintro e w15 ⟨he, hb1⟩
  have he' : e = .returned (.tuple #[.int .i64 4, .int .i64 0, .int .i64 0]) := by
    unfold ClashOut at he
    rw [smp_ok', smp_no] at he
    simp only [if_true, Bool.false_eq_true, if_false] at he
    obtain ⟨t, ht, rfl⟩ := he
    rw [smp_clash ht]
    rfl
  subst he'
  clear he
  replace z3 := obj_later hb1 z3
  replace z4 := obj_later hb1 z4
  replace z5 := z5.later (hb1.block _ z5.lt)
  replace z7 := z7.trans (hb1.mono z7.size)
  clear hb1 z1 z2 z6 c0 c1 c2 c3 c4 c5
  have hz7 := z7.size
  have d0 := cell_block z3 0
  have d1 := cell_block z3 1
  have d2 := cell_block z4 0
  have d3 := cell_block z4 1
  simp only [List.getElem?_toArray, List.getElem?_cons_zero, List.getElem?_cons_succ] at d0 d1 d2 d3
  go_upto_region 10 with fail
  have k0 := held d0 (Nat.le_refl _)
  have k1 := held d1 (Nat.le_refl _)
  have k2 := held d2 (Nat.le_refl _)
  have k3 := held d3 (Nat.le_refl _)
  refine (wpIn_wide (n := 1)).1 ?_
  refine wpIn_region_Wn (S := fun W => Below w15.heap.size w15 W) 52 (by kernel_rfl) (by kernel_rfl) (Below.refl _ _).drew (fun hHeld => ?_)
  refine wpAnyW_takeD 0 68 (v := ?_) (by kernel_rfl) (by kernel_rfl) (by kernel_rfl) (by kernel_rfl) (fun _ _ _ h => h) ?_ (by assumption) ?_
  rotate_left
  · intro oi hoi w hSw; (try dsimp only at hSw); simp only [List.getElem?_toArray, List.getElem?_cons_zero, List.getElem?_cons_succ, Option.some.injEq] at hoi; subst hoi; go_simp; try with_reducible rfl
  simp only [Act.put, List.setIfInBounds_toArray, List.set_cons_zero, List.set_cons_succ]
  refine wpAnyW_takeD 1 69 (v := ?_) (by kernel_rfl) (by kernel_rfl) (by kernel_rfl) (by kernel_rfl) (fun _ _ _ h => h) ?_ (by assumption) ?_
  rotate_left
  · intro oi hoi w hSw; (try dsimp only at hSw); simp only [List.getElem?_toArray, List.getElem?_cons_zero, List.getElem?_cons_succ, Option.some.injEq] at hoi; subst hoi; go_simp; try with_reducible rfl
  simp only [Act.put, List.setIfInBounds_toArray, List.set_cons_zero, List.set_cons_succ]
  refine wpAnyW_takeD 2 70 (v := ?_) (by kernel_rfl) (by kernel_rfl) (by kernel_rfl) (by kernel_rfl) (fun _ _ _ h => h) ?_ (by assumption) ?_
  rotate_left
  · intro oi hoi w hSw; (try dsimp only at hSw); simp only [List.getElem?_toArray, List.getElem?_cons_zero, List.getElem?_cons_succ, Option.some.injEq] at hoi; subst hoi; go_simp; try with_reducible rfl
  simp only [Act.put, List.setIfInBounds_toArray, List.set_cons_zero, List.set_cons_succ]
  refine wpAnyW_takeD 3 71 (v := ?_) (by kernel_rfl) (by kernel_rfl) (by kernel_rfl) (by kernel_rfl) (fun _ _ _ h => h) ?_ (by assumption) ?_
  rotate_left
  · intro oi hoi w hSw; (try dsimp only at hSw); simp only [List.getElem?_toArray, List.getElem?_cons_zero, List.getElem?_cons_succ, Option.some.injEq] at hoi; subst hoi; go_simp; try with_reducible rfl
  simp only [Act.put, List.setIfInBounds_toArray, List.set_cons_zero, List.set_cons_succ]
  refine wpAnyW_takeD 4 72 (v := ?_) (by kernel_rfl) (by kernel_rfl) (by kernel_rfl) (by kernel_rfl) (fun _ _ _ h => h) ?_ (by assumption) ?_
  rotate_left
  · intro oi hoi w hSw; (try dsimp only at hSw); simp only [List.getElem?_toArray, List.getElem?_cons_zero, List.getElem?_cons_succ, Option.some.injEq] at hoi; subst hoi; go_simp; try with_reducible rfl
  simp only [Act.put, List.setIfInBounds_toArray, List.set_cons_zero, List.set_cons_succ]
  refine wpAnyW_takeD 5 73 (v := ?_) (by kernel_rfl) (by kernel_rfl) (by kernel_rfl) (by kernel_rfl) (fun _ _ _ h => h) ?_ (by assumption) ?_
  rotate_left
  · intro oi hoi w hSw; (try dsimp only at hSw); simp only [List.getElem?_toArray, List.getElem?_cons_zero, List.getElem?_cons_succ, Option.some.injEq] at hoi; subst hoi; go_simp; try with_reducible rfl
  simp only [Act.put, List.setIfInBounds_toArray, List.set_cons_zero, List.set_cons_succ]
  refine wpAnyW_takeD 6 74 (v := ?_) (by kernel_rfl) (by kernel_rfl) (by kernel_rfl) (by kernel_rfl) (fun _ _ _ h => h) ?_ (by assumption) ?_
  rotate_left
  · intro oi hoi w hSw; (try dsimp only at hSw); simp only [List.getElem?_toArray, List.getElem?_cons_zero, List.getElem?_cons_succ, Option.some.injEq] at hoi; subst hoi; go_simp; try with_reducible rfl
  simp only [Act.put, List.setIfInBounds_toArray, List.set_cons_zero, List.set_cons_succ]
  refine wpAnyW_takeD 7 75 (v := ?_) (by kernel_rfl) (by kernel_rfl) (by kernel_rfl) (by kernel_rfl) (fun _ _ _ h => h) ?_ (by assumption) ?_
  rotate_left
  · intro oi hoi w hSw; (try dsimp only at hSw); simp only [List.getElem?_toArray, List.getElem?_cons_zero, List.getElem?_cons_succ, Option.some.injEq] at hoi; subst hoi; go_simp; try with_reducible rfl
  simp only [Act.put, List.setIfInBounds_toArray, List.set_cons_zero, List.set_cons_succ]
  refine wpAnyW_takeD 8 76 (v := ?_) (by kernel_rfl) (by kernel_rfl) (by kernel_rfl) (by kernel_rfl) (fun _ _ _ h => h) ?_ (by assumption) ?_
  rotate_left
  · intro oi hoi w hSw; (try dsimp only at hSw); simp only [List.getElem?_toArray, List.getElem?_cons_zero, List.getElem?_cons_succ, Option.some.injEq] at hoi; subst hoi; go_simp; try with_reducible rfl
  simp only [Act.put, List.setIfInBounds_toArray, List.set_cons_zero, List.set_cons_succ]
  refine wpAnyW_takeD 9 77 (v := ?_) (by kernel_rfl) (by kernel_rfl) (by kernel_rfl) (by kernel_rfl) (fun _ _ _ h => h) ?_ (by assumption) ?_
  rotate_left
  · intro oi hoi w hSw; (try dsimp only at hSw); simp only [List.getElem?_toArray, List.getElem?_cons_zero, List.getElem?_cons_succ, Option.some.injEq] at hoi; subst hoi; go_simp; try with_reducible rfl
  simp only [Act.put, List.setIfInBounds_toArray, List.set_cons_zero, List.set_cons_succ]
  refine wpAnyW_takeD 10 78 (v := ?_) (by kernel_rfl) (by kernel_rfl) (by kernel_rfl) (by kernel_rfl) (fun _ _ _ h => h) ?_ (by assumption) ?_
  rotate_left
  · intro oi hoi w hSw; (try dsimp only at hSw); simp only [List.getElem?_toArray, List.getElem?_cons_zero, List.getElem?_cons_succ, Option.some.injEq] at hoi; subst hoi; go_simp; try with_reducible rfl
  simp only [Act.put, List.setIfInBounds_toArray, List.set_cons_zero, List.set_cons_succ]
  refine wpAnyW_takeD 11 79 (v := ?_) (by kernel_rfl) (by kernel_rfl) (by kernel_rfl) (by kernel_rfl) (fun _ _ _ h => h) ?_ (by assumption) ?_
  rotate_left
  · intro oi hoi w hSw; (try dsimp only at hSw); simp only [List.getElem?_toArray, List.getElem?_cons_zero, List.getElem?_cons_succ, Option.some.injEq] at hoi; subst hoi; go_simp; try with_reducible rfl
  simp only [Act.put, List.setIfInBounds_toArray, List.set_cons_zero, List.set_cons_succ]
  refine wpAnyW_takeD 12 80 (v := ?_) (by kernel_rfl) (by kernel_rfl) (by kernel_rfl) (by kernel_rfl) (fun _ _ _ h => h) ?_ (by assumption) ?_
  rotate_left
  · intro oi hoi w hSw; (try dsimp only at hSw); simp only [List.getElem?_toArray, List.getElem?_cons_zero, List.getElem?_cons_succ, Option.some.injEq] at hoi; subst hoi; go_simp; try with_reducible rfl
  simp only [Act.put, List.setIfInBounds_toArray, List.set_cons_zero, List.set_cons_succ]
  refine wpAnyW_takeD 13 81 (v := ?_) (by kernel_rfl) (by kernel_rfl) (by kernel_rfl) (by kernel_rfl) (fun _ _ _ h => h) ?_ (by assumption) ?_
  rotate_left
  · intro oi hoi w hSw; (try dsimp only at hSw); simp only [List.getElem?_toArray, List.getElem?_cons_zero, List.getElem?_cons_succ, Option.some.injEq] at hoi; subst hoi; go_simp; try with_reducible rfl
  simp only [Act.put, List.setIfInBounds_toArray, List.set_cons_zero, List.set_cons_succ]
  refine wpAnyW_takeD 14 82 (v := ?_) (by kernel_rfl) (by kernel_rfl) (by kernel_rfl) (by kernel_rfl) (fun _ _ _ h => h) ?_ (by assumption) ?_
  rotate_left
  · intro oi hoi w hSw; (try dsimp only at hSw); simp only [List.getElem?_toArray, List.getElem?_cons_zero, List.getElem?_cons_succ, Option.some.injEq] at hoi; subst hoi; go_simp; try with_reducible rfl
  simp only [Act.put, List.setIfInBounds_toArray, List.set_cons_zero, List.set_cons_succ]
  refine wpAnyW_takeD 15 83 (v := ?_) (by kernel_rfl) (by kernel_rfl) (by kernel_rfl) (by kernel_rfl) (fun _ _ _ h => h) ?_ (by assumption) ?_
  rotate_left
  · intro oi hoi w hSw; (try dsimp only at hSw); simp only [List.getElem?_toArray, List.getElem?_cons_zero, List.getElem?_cons_succ, Option.some.injEq] at hoi; subst hoi; go_simp; try with_reducible rfl
  simp only [Act.put, List.setIfInBounds_toArray, List.set_cons_zero, List.set_cons_succ]
  refine wpAnyW_one 16 (by kernel_rfl) (by kernel_rfl) ?_
  intro o ho K hK
  simp only [List.getElem?_toArray, List.getElem?_cons_zero, List.getElem?_cons_succ, Option.some.injEq] at ho
  subst ho
  go_simp
  refine ⟨trivial, CallsIn.mono (callsIn_wide.2 (lspan_any 2 3 _)) ?_⟩
  rintro e w16 ⟨rfl, hb1⟩
  have hH16 := hHeld.trans (hb1.mono hHeld.size)
  refine hK _ _ hH16 (fun _ => ?_)
  clear hK K
  try simp only [Act.put, List.setIfInBounds_toArray, List.set_cons_zero, List.set_cons_succ]
  refine wpAnyW_takeD 17 85 (v := ?_) (by kernel_rfl) (by kernel_rfl) (by kernel_rfl) (by kernel_rfl) (fun _ _ _ h => h) ?_ (by assumption) ?_
  rotate_left
  · intro oi hoi w hSw; (try dsimp only at hSw); simp only [List.getElem?_toArray, List.getElem?_cons_zero, List.getElem?_cons_succ, Option.some.injEq] at hoi; subst hoi; go_simp; try with_reducible rfl
  simp only [Act.put, List.setIfInBounds_toArray, List.set_cons_zero, List.set_cons_succ]
  refine wpAnyW_takeD 18 86 (v := ?_) (by kernel_rfl) (by kernel_rfl) (by kernel_rfl) (by kernel_rfl) (fun _ _ _ h => h) ?_ (by assumption) ?_
  rotate_left
  · intro oi hoi w hSw; (try dsimp only at hSw); simp only [List.getElem?_toArray, List.getElem?_cons_zero, List.getElem?_cons_succ, Option.some.injEq] at hoi; subst hoi; go_simp; try with_reducible rfl
  simp only [Act.put, List.setIfInBounds_toArray, List.set_cons_zero, List.set_cons_succ]
  refine wpAnyW_takeD 19 87 (v := ?_) (by kernel_rfl) (by kernel_rfl) (by kernel_rfl) (by kernel_rfl) (fun _ _ _ h => h) ?_ (by assumption) ?_
  rotate_left
  · intro oi hoi w hSw; (try dsimp only at hSw); simp only [List.getElem?_toArray, List.getElem?_cons_zero, List.getElem?_cons_succ, Option.some.injEq] at hoi; subst hoi; go_simp; try with_reducible rfl
  simp only [Act.put, List.setIfInBounds_toArray, List.set_cons_zero, List.set_cons_succ]
  refine wpAnyW_takeD 20 88 (v := ?_) (by kernel_rfl) (by kernel_rfl) (by kernel_rfl) (by kernel_rfl) (fun _ _ _ h => h) ?_ (by assumption) ?_
  rotate_left
  · intro oi hoi w hSw; (try dsimp only at hSw); simp only [List.getElem?_toArray, List.getElem?_cons_zero, List.getElem?_cons_succ, Option.some.injEq] at hoi; subst hoi; go_simp; try with_reducible rfl
  simp only [Act.put, List.setIfInBounds_toArray, List.set_cons_zero, List.set_cons_succ]
  refine wpAnyW_one 21 (by kernel_rfl) (by kernel_rfl) ?_
  intro o ho K hK
  simp only [List.getElem?_toArray, List.getElem?_cons_zero, List.getElem?_cons_succ, Option.some.injEq] at ho
  subst ho
  go_simp
  refine ⟨trivial, CallsIn.mono (callsIn_wide.2 (lspan_any (-2) (-1) _)) ?_⟩
  rintro e w17 ⟨rfl, hb2⟩
  have hH17 := hH16.trans (hb2.mono hH16.size)
  refine hK _ _ hH17 (fun _ => ?_)
  clear hK K
  try simp only [Act.put, List.setIfInBounds_toArray, List.set_cons_zero, List.set_cons_succ]
  refine wpAnyW_takeD 22 90 (v := ?_) (by kernel_rfl) (by kernel_rfl) (by kernel_rfl) (by kernel_rfl) (fun _ _ _ h => h) ?_ (by assumption) ?_
  rotate_left
  · intro oi hoi w hSw; (try dsimp only at hSw); simp only [List.getElem?_toArray, List.getElem?_cons_zero, List.getElem?_cons_succ, Option.some.injEq] at hoi; subst hoi; go_simp; try with_reducible rfl
  simp only [Act.put, List.setIfInBounds_toArray, List.set_cons_zero, List.set_cons_succ]
  refine wpAnyW_takeD 23 91 (v := ?_) (by kernel_rfl) (by kernel_rfl) (by kernel_rfl) (by kernel_rfl) (fun _ _ _ h => h) ?_ (by assumption) ?_
  rotate_left
  · intro oi hoi w hSw; (try dsimp only at hSw); simp only [List.getElem?_toArray, List.getElem?_cons_zero, List.getElem?_cons_succ, Option.some.injEq] at hoi; subst hoi; go_simp; try with_reducible rfl
  simp only [Act.put, List.setIfInBounds_toArray, List.set_cons_zero, List.set_cons_succ]
  refine wpAnyW_takeD 24 92 (v := ?_) (by kernel_rfl) (by kernel_rfl) (by kernel_rfl) (by kernel_rfl) (fun _ _ _ h => h) ?_ (by assumption) ?_
  rotate_left
  · intro oi hoi w hSw; (try dsimp only at hSw); simp only [List.getElem?_toArray, List.getElem?_cons_zero, List.getElem?_cons_succ, Option.some.injEq] at hoi; subst hoi; go_simp; try with_reducible rfl
  simp only [Act.put, List.setIfInBounds_toArray, List.set_cons_zero, List.set_cons_succ]
  refine wpAnyW_takeD 25 93 (v := ?_) (by kernel_rfl) (by kernel_rfl) (by kernel_rfl) (by kernel_rfl) (fun _ _ _ h => h) ?_ (by assumption) ?_
  rotate_left
  · intro oi hoi w hSw; (try dsimp only at hSw); simp only [List.getElem?_toArray, List.getElem?_cons_zero, List.getElem?_cons_succ, Option.some.injEq] at hoi; subst hoi; go_simp; try with_reducible rfl
  simp only [Act.put, List.setIfInBounds_toArray, List.set_cons_zero, List.set_cons_succ]
  refine wpAnyW_takeD 26 94 (v := ?_) (by kernel_rfl) (by kernel_rfl) (by kernel_rfl) (by kernel_rfl) (fun _ _ _ h => h) ?_ (by assumption) ?_
  rotate_left
  · intro oi hoi w hSw; (try dsimp only at hSw); simp only [List.getElem?_toArray, List.getElem?_cons_zero, List.getElem?_cons_succ, Option.some.injEq] at hoi; subst hoi; go_simp; try with_reducible rfl
  simp only [Act.put, List.setIfInBounds_toArray, List.set_cons_zero, List.set_cons_succ]
  refine wpAnyW_takeD 27 95 (v := ?_) (by kernel_rfl) (by kernel_rfl) (by kernel_rfl) (by kernel_rfl) (fun _ _ _ h => h) ?_ (by assumption) ?_
  rotate_left
  · intro oi hoi w hSw; (try dsimp only at hSw); simp only [List.getElem?_toArray, List.getElem?_cons_zero, List.getElem?_cons_succ, Option.some.injEq] at hoi; subst hoi; go_simp; try with_reducible rfl
  simp only [Act.put, List.setIfInBounds_toArray, List.set_cons_zero, List.set_cons_succ]
  refine wpAnyW_takeD 28 96 (v := ?_) (by kernel_rfl) (by kernel_rfl) (by kernel_rfl) (by kernel_rfl) (fun _ _ _ h => h) ?_ (by assumption) ?_
  rotate_left
  · intro oi hoi w hSw; (try dsimp only at hSw); simp only [List.getElem?_toArray, List.getElem?_cons_zero, List.getElem?_cons_succ, Option.some.injEq] at hoi; subst hoi; go_simp; try with_reducible rfl
  simp only [Act.put, List.setIfInBounds_toArray, List.set_cons_zero, List.set_cons_succ]
  refine wpAnyW_takeD 29 97 (v := ?_) (by kernel_rfl) (by kernel_rfl) (by kernel_rfl) (by kernel_rfl) (fun _ _ _ h => h) ?_ (by assumption) ?_
  rotate_left
  · intro oi hoi w hSw; (try dsimp only at hSw); simp only [List.getElem?_toArray, List.getElem?_cons_zero, List.getElem?_cons_succ, Option.some.injEq] at hoi; subst hoi; go_simp; try with_reducible rfl
  simp only [Act.put, List.setIfInBounds_toArray, List.set_cons_zero, List.set_cons_succ]
  refine wpAnyW_takeD 30 98 (v := ?_) (by kernel_rfl) (by kernel_rfl) (by kernel_rfl) (by kernel_rfl) (fun _ _ _ h => h) ?_ (by assumption) ?_
  rotate_left
  · intro oi hoi w hSw; (try dsimp only at hSw); simp only [List.getElem?_toArray, List.getElem?_cons_zero, List.getElem?_cons_succ, Option.some.injEq] at hoi; subst hoi; go_simp; try with_reducible rfl
  simp only [Act.put, List.setIfInBounds_toArray, List.set_cons_zero, List.set_cons_succ]
  refine wpAnyW_takeD 31 99 (v := ?_) (by kernel_rfl) (by kernel_rfl) (by kernel_rfl) (by kernel_rfl) (fun _ _ _ h => h) ?_ (by assumption) ?_
  rotate_left
  · intro oi hoi w hSw; (try dsimp only at hSw); simp only [List.getElem?_toArray, List.getElem?_cons_zero, List.getElem?_cons_succ, Option.some.injEq] at hoi; subst hoi; go_simp; try with_reducible rfl
  simp only [Act.put, List.setIfInBounds_toArray, List.set_cons_zero, List.set_cons_succ]
  refine wpAnyW_takeD 32 100 (v := ?_) (by kernel_rfl) (by kernel_rfl) (by kernel_rfl) (by kernel_rfl) (fun _ _ _ h => h) ?_ (by assumption) ?_
  rotate_left
  · intro oi hoi w hSw; (try dsimp only at hSw); simp only [List.getElem?_toArray, List.getElem?_cons_zero, List.getElem?_cons_succ, Option.some.injEq] at hoi; subst hoi; go_simp; try with_reducible rfl
  simp only [Act.put, List.setIfInBounds_toArray, List.set_cons_zero, List.set_cons_succ]
  refine wpAnyW_takeD 33 101 (v := ?_) (by kernel_rfl) (by kernel_rfl) (by kernel_rfl) (by kernel_rfl) (fun _ _ _ h => h) ?_ (by assumption) ?_
  rotate_left
  · intro oi hoi w hSw; (try dsimp only at hSw); simp only [List.getElem?_toArray, List.getElem?_cons_zero, List.getElem?_cons_succ, Option.some.injEq] at hoi; subst hoi; go_simp; try with_reducible rfl
  simp only [Act.put, List.setIfInBounds_toArray, List.set_cons_zero, List.set_cons_succ]
  refine wpAnyW_takeD 34 102 (v := ?_) (by kernel_rfl) (by kernel_rfl) (by kernel_rfl) (by kernel_rfl) (fun _ _ _ h => h) ?_ (by assumption) ?_
  rotate_left
  · intro oi hoi w hSw; (try dsimp only at hSw); simp only [List.getElem?_toArray, List.getElem?_cons_zero, List.getElem?_cons_succ, Option.some.injEq] at hoi; subst hoi; go_simp; try with_reducible rfl
  simp only [Act.put, List.setIfInBounds_toArray, List.set_cons_zero, List.set_cons_succ]
  refine wpAnyW_takeD 35 103 (v := ?_) (by kernel_rfl) (by kernel_rfl) (by kernel_rfl) (by kernel_rfl) (fun _ _ _ h => h) ?_ (by assumption) ?_
  rotate_left
  · intro oi hoi w hSw; (try dsimp only at hSw); simp only [List.getElem?_toArray, List.getElem?_cons_zero, List.getElem?_cons_succ, Option.some.injEq] at hoi; subst hoi; go_simp; try with_reducible rfl
  simp only [Act.put, List.setIfInBounds_toArray, List.set_cons_zero, List.set_cons_succ]
  refine wpAnyW_takeD 36 104 (v := ?_) (by kernel_rfl) (by kernel_rfl) (by kernel_rfl) (by kernel_rfl) (fun _ _ _ h => h) ?_ (by assumption) ?_
  rotate_left
  · intro oi hoi w hSw; (try dsimp only at hSw); simp only [List.getElem?_toArray, List.getElem?_cons_zero, List.getElem?_cons_succ, Option.some.injEq] at hoi; subst hoi; go_simp; try with_reducible rfl
  simp only [Act.put, List.setIfInBounds_toArray, List.set_cons_zero, List.set_cons_succ]
  refine wpAnyW_takeD 37 105 (v := ?_) (by kernel_rfl) (by kernel_rfl) (by kernel_rfl) (by kernel_rfl) (fun _ _ _ h => h) ?_ (by assumption) ?_
  rotate_left
  · intro oi hoi w hSw; (try dsimp only at hSw); simp only [List.getElem?_toArray, List.getElem?_cons_zero, List.getElem?_cons_succ, Option.some.injEq] at hoi; subst hoi; go_simp; try with_reducible rfl
  simp only [Act.put, List.setIfInBounds_toArray, List.set_cons_zero, List.set_cons_succ]
  refine wpAnyW_takeD 38 106 (v := ?_) (by kernel_rfl) (by kernel_rfl) (by kernel_rfl) (by kernel_rfl) (fun _ _ _ h => h) ?_ (by assumption) ?_
  rotate_left
  · intro oi hoi w hSw; (try dsimp only at hSw); simp only [List.getElem?_toArray, List.getElem?_cons_zero, List.getElem?_cons_succ, Option.some.injEq] at hoi; subst hoi; go_simp; try with_reducible rfl
  simp only [Act.put, List.setIfInBounds_toArray, List.set_cons_zero, List.set_cons_succ]
  refine wpAnyW_takeD 39 107 (v := ?_) (by kernel_rfl) (by kernel_rfl) (by kernel_rfl) (by kernel_rfl) (fun _ _ _ h => h) ?_ (by assumption) ?_
  rotate_left
  · intro oi hoi w hSw; (try dsimp only at hSw); simp only [List.getElem?_toArray, List.getElem?_cons_zero, List.getElem?_cons_succ, Option.some.injEq] at hoi; subst hoi; go_simp; try with_reducible rfl
  simp only [Act.put, List.setIfInBounds_toArray, List.set_cons_zero, List.set_cons_succ]
  refine wpAnyW_takeD 40 108 (v := ?_) (by kernel_rfl) (by kernel_rfl) (by kernel_rfl) (by kernel_rfl) (fun _ _ _ h => h) ?_ (by assumption) ?_
  rotate_left
  · intro oi hoi w hSw; (try dsimp only at hSw); simp only [List.getElem?_toArray, List.getElem?_cons_zero, List.getElem?_cons_succ, Option.some.injEq] at hoi; subst hoi; go_simp; try with_reducible rfl
  simp only [Act.put, List.setIfInBounds_toArray, List.set_cons_zero, List.set_cons_succ]
  refine wpAnyW_takeD 41 109 (v := ?_) (by kernel_rfl) (by kernel_rfl) (by kernel_rfl) (by kernel_rfl) (fun _ _ _ h => h) ?_ (by assumption) ?_
  rotate_left
  · intro oi hoi w hSw; (try dsimp only at hSw); simp only [List.getElem?_toArray, List.getElem?_cons_zero, List.getElem?_cons_succ, Option.some.injEq] at hoi; subst hoi; go_simp; try with_reducible rfl
  simp only [Act.put, List.setIfInBounds_toArray, List.set_cons_zero, List.set_cons_succ]
  refine wpAnyW_takeD 42 110 (v := ?_) (by kernel_rfl) (by kernel_rfl) (by kernel_rfl) (by kernel_rfl) (fun _ _ _ h => h) ?_ (by assumption) ?_
  rotate_left
  · intro oi hoi w hSw; (try dsimp only at hSw); simp only [List.getElem?_toArray, List.getElem?_cons_zero, List.getElem?_cons_succ, Option.some.injEq] at hoi; subst hoi; go_simp; try with_reducible rfl
  simp only [Act.put, List.setIfInBounds_toArray, List.set_cons_zero, List.set_cons_succ]
  refine wpAnyW_takeD 43 111 (v := ?_) (by kernel_rfl) (by kernel_rfl) (by kernel_rfl) (by kernel_rfl) (fun _ _ _ h => h) ?_ (by assumption) ?_
  rotate_left
  · intro oi hoi w hSw; (try dsimp only at hSw); simp only [List.getElem?_toArray, List.getElem?_cons_zero, List.getElem?_cons_succ, Option.some.injEq] at hoi; subst hoi; go_simp; try with_reducible rfl
  simp only [Act.put, List.setIfInBounds_toArray, List.set_cons_zero, List.set_cons_succ]
  refine wpAnyW_takeD 44 112 (v := ?_) (by kernel_rfl) (by kernel_rfl) (by kernel_rfl) (by kernel_rfl) (fun _ _ _ h => h) ?_ (by assumption) ?_
  rotate_left
  · intro oi hoi w hSw; (try dsimp only at hSw); simp only [List.getElem?_toArray, List.getElem?_cons_zero, List.getElem?_cons_succ, Option.some.injEq] at hoi; subst hoi; go_simp; try with_reducible rfl
  simp only [Act.put, List.setIfInBounds_toArray, List.set_cons_zero, List.set_cons_succ]
  refine wpAnyW_takeD 45 113 (v := ?_) (by kernel_rfl) (by kernel_rfl) (by kernel_rfl) (by kernel_rfl) (fun _ _ _ h => h) ?_ (by assumption) ?_
  rotate_left
  · intro oi hoi w hSw; (try dsimp only at hSw); simp only [List.getElem?_toArray, List.getElem?_cons_zero, List.getElem?_cons_succ, Option.some.injEq] at hoi; subst hoi; go_simp; try with_reducible rfl
  simp only [Act.put, List.setIfInBounds_toArray, List.set_cons_zero, List.set_cons_succ]
  refine wpAnyW_takeD 46 114 (v := ?_) (by kernel_rfl) (by kernel_rfl) (by kernel_rfl) (by kernel_rfl) (fun _ _ _ h => h) ?_ (by assumption) ?_
  rotate_left
  · intro oi hoi w hSw; (try dsimp only at hSw); simp only [List.getElem?_toArray, List.getElem?_cons_zero, List.getElem?_cons_succ, Option.some.injEq] at hoi; subst hoi; go_simp; try with_reducible rfl
  simp only [Act.put, List.setIfInBounds_toArray, List.set_cons_zero, List.set_cons_succ]
  refine wpAnyW_takeD 47 115 (v := ?_) (by kernel_rfl) (by kernel_rfl) (by kernel_rfl) (by kernel_rfl) (fun _ _ _ h => h) ?_ (by assumption) ?_
  rotate_left
  · intro oi hoi w hSw; (try dsimp only at hSw); simp only [List.getElem?_toArray, List.getElem?_cons_zero, List.getElem?_cons_succ, Option.some.injEq] at hoi; subst hoi; go_simp; try with_reducible rfl
  simp only [Act.put, List.setIfInBounds_toArray, List.set_cons_zero, List.set_cons_succ]
  refine wpAnyW_takeD 48 116 (v := ?_) (by kernel_rfl) (by kernel_rfl) (by kernel_rfl) (by kernel_rfl) (fun _ _ _ h => h) ?_ (by assumption) ?_
  rotate_left
  · intro oi hoi w hSw; (try dsimp only at hSw); simp only [List.getElem?_toArray, List.getElem?_cons_zero, List.getElem?_cons_succ, Option.some.injEq] at hoi; subst hoi; go_simp; try with_reducible rfl
  simp only [Act.put, List.setIfInBounds_toArray, List.set_cons_zero, List.set_cons_succ]
  refine wpAnyW_takeD 49 117 (v := ?_) (by kernel_rfl) (by kernel_rfl) (by kernel_rfl) (by kernel_rfl) (fun _ _ _ h => h) ?_ (by assumption) ?_
  rotate_left
  · intro oi hoi w hSw; (try dsimp only at hSw); simp only [List.getElem?_toArray, List.getElem?_cons_zero, List.getElem?_cons_succ, Option.some.injEq] at hoi; subst hoi; go_simp; try with_reducible rfl
  simp only [Act.put, List.setIfInBounds_toArray, List.set_cons_zero, List.set_cons_succ]
  refine wpAnyW_takeD 50 118 (v := ?_) (by kernel_rfl) (by kernel_rfl) (by kernel_rfl) (by kernel_rfl) (fun _ _ _ h => h) ?_ (by assumption) ?_
  rotate_left
  · intro oi hoi w hSw; (try dsimp only at hSw); simp only [List.getElem?_toArray, List.getElem?_cons_zero, List.getElem?_cons_succ, Option.some.injEq] at hoi; subst hoi; go_simp; try with_reducible rfl
  simp only [Act.put, List.setIfInBounds_toArray, List.set_cons_zero, List.set_cons_succ]
  refine wpAnyW_takeD 51 119 (v := ?_) (by kernel_rfl) (by kernel_rfl) (by kernel_rfl) (by kernel_rfl) (fun _ _ _ h => h) ?_ (by assumption) ?_
  rotate_left
  · intro oi hoi w hSw; (try dsimp only at hSw); simp only [List.getElem?_toArray, List.getElem?_cons_zero, List.getElem?_cons_succ, Option.some.injEq] at hoi; subst hoi; go_simp; try with_reducible rfl
  simp only [Act.put, List.setIfInBounds_toArray, List.set_cons_zero, List.set_cons_succ]
  refine wpAnyW_done (by kernel_rfl) ?_ _
  dsimp only [onNormal]
  replace z5 := z5.later (hH17.block _ z5.lt)
  replace z7 := z7.trans (hH17.mono hz7)
  go_wp2_with fail
  have hbl := below_alloc w17 (.cells #[.int .i64 0, .int .i64 1, .int .i64 (-1)] 3)
  have hI2 : IntsAt (w17.alloc (.cells #[.int .i64 0, .int .i64 1, .int .i64 (-1)] 3)) w17.heap.size [0, 1, -1] := ⟨_, _, obj_new _ _, fun i hi => by
    match i, hi with
    | 0, _ => rfl
    | 1, _ => rfl
    | 2, _ => rfl⟩
  have hc := ints_any (some ⟨qb, 0, none⟩) (some ⟨w17.heap.size, 0, none⟩) cb 3 [0, 1, -1] [0, 1, -1] _ (z5.later (hbl.block _ z5.lt)).v hI2.v (by decide) (by decide)
  refine hc.mono ?_
  clear hc
  rintro e w18 ⟨he, hb3⟩
  have ht : (decide (([0, 1, -1] : List Int) = [0, 1, -1])) = true := by decide
  rw [ht] at he
  subst he
  go_wp2
  go_ret
  exact ⟨rfl, z7.trans ((hbl.mono z7.size).trans (hb3.mono (Nat.le_trans z7.size hbl.size)))⟩
end Go.Proofs.Ytjkegmjjhdmkiaa
