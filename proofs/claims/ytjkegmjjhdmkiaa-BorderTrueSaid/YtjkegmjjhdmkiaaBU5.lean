/- Package border: whether two stars can be the same. -/
import Derived.Test.YtjkegmjjhdmkiaaBU3
namespace Go.Proofs.Ytjkegmjjhdmkiaa
open Go.RowKit
set_option maxHeartbeats 1600000
set_option maxRecDepth 100000
set_option linter.unusedSimpArgs false

/-- A cell of an old block, in every world that keeps what lay below B. -/
theorem held {B : Nat} {w1 : World} {b o : Nat} {v : Value} (h : w1.cell? ⟨b, o, none⟩ = some v) (hB : w1.heap.size ≤ B) : ∀ W, Below B w1 W → W.cell? ⟨b, o, none⟩ = some v :=
  fun W hW => by rw [hW.cell (p := ⟨b, o, none⟩) (Nat.lt_of_lt_of_le (World.block_lt_of_cell? w1 _ h) hB)]; exact h

/-- The bounds of what is valid. -/
structure EdBd (x : Ed) : Prop where
  e1 : -1048576 ≤ x.e.lo
  e2 : x.e.lo ≤ x.e.hi
  e3 : x.e.hi ≤ 1048576
  n1 : -1048576 ≤ x.n.lo
  n2 : x.n.lo ≤ x.n.hi
  n3 : x.n.hi ≤ 1048576
  b1 : 0 ≤ x.b.lo
  b2 : x.b.lo ≤ x.b.hi
  b3 : x.b.hi ≤ 2000
theorem Ed.bd {x : Ed} (h : x.ok = true) : EdBd x := by
  simp only [Ed.ok, Sp.ok, Bool.and_eq_true, decide_eq_true_eq] at h
  obtain ⟨⟨⟨⟨a, b⟩, c⟩, ⟨⟨d, e⟩, f⟩⟩, ⟨⟨g, i⟩, j⟩⟩ := h
  exact ⟨a, b, c, d, e, f, g, i, j⟩
theorem shift_bd {b : Bo} {s : Int × Int} (hok : b.ok = true) (hsh : b.shift s = true) : (-20 ≤ s.1 ∧ s.1 ≤ 20) ∧ (-20 ≤ s.2 ∧ s.2 ≤ 20) := by
  simp only [Bo.ok, Sp.ok, Bool.and_eq_true, decide_eq_true_eq] at hok
  simp only [Bo.shift, Sp.has, Bool.and_eq_true, decide_eq_true_eq] at hsh
  omega
theorem ok_bounds {b : Bo} {s : Int × Int} {i k : Nat} (hok : b.ok = true) (hsh : b.shift s = true) (hi : i < b.fs.length) (hk : k < b.ss.length) :
    b.fs.length ≤ 6 ∧ b.ss.length ≤ 6 ∧ EdBd b.fs[i] ∧ EdBd b.ss[k] ∧ (-20 ≤ s.1 ∧ s.1 ≤ 20) ∧ (-20 ≤ s.2 ∧ s.2 ≤ 20) := by
  have hs := shift_bd hok hsh
  simp only [Bo.ok, Bool.and_eq_true, decide_eq_true_eq, List.all_eq_true] at hok
  exact ⟨hok.1.1.1.2, hok.1.1.2, Ed.bd (hok.1.2 _ (List.getElem_mem hi)), Ed.bd (hok.2 _ (List.getElem_mem hk)), hs.1, hs.2⟩

theorem idx0 (w : World) : (Instr.index 144 traitsV (.int .i64 0)).run Try.prog w = .ok (.agg #[.func (.func 88) #[] #[], .int .i64 (-1048576), .int .i64 1048576, .func (.func 89) #[] #[]]) w := by kernel_rfl
theorem idx1 (w : World) : (Instr.index 144 traitsV (.int .i64 1)).run Try.prog w = .ok (.agg #[.func (.func 90) #[] #[], .int .i64 (-1048576), .int .i64 1048576, .func (.func 91) #[] #[]]) w := by kernel_rfl
theorem idx2 (w : World) : (Instr.index 144 traitsV (.int .i64 2)).run Try.prog w = .ok (.agg #[.func (.func 92) #[] #[], .int .i64 0, .int .i64 2000, .func (.func 93) #[] #[]]) w := by kernel_rfl

/-- What holds before round n of the loop over the traits. -/
def sameTo (x y : Ed) (s : Int × Int) (n : Nat) : Prop := (0 < n → meets x.e y.e s.1 = true) ∧ (1 < n → meets x.n y.n s.2 = true) ∧ (2 < n → meets x.b y.b 0 = true)

theorem same_any (p i k : Nat) (b : Bo) (fa sa : Option Addr) (fc sc fset sset r : Nat) (s : Int × Int) (w : World) (h : BrdAt w p b fa sa fc sc fset sset r)
    (hok : b.ok = true) (hsh : b.shift s = true) (hi : i < b.fs.length) (hk : k < b.ss.length) :
    Calls Try.prog 71 #[.pointer (some ⟨p, 0, none⟩), .int .i64 i, .int .i64 k, .agg #[.int .i64 s.1, .int .i64 s.2]] w fun e w' => e = .returned (.bool (b.fs[i].same b.ss[k] s)) ∧ Below w.heap.size w w' := by
  obtain ⟨hl, hl', hbx, hby, hs1, hs2⟩ := ok_bounds hok hsh hi hk
  obtain ⟨bf, of, rfl, hbf, hx⟩ := h.f i hi
  obtain ⟨bs, os, rfl, hbs, hy⟩ := h.s k hk
  obtain ⟨⟨_, _, _, _, c4, c5⟩, _, _, _, _, _⟩ := h
  generalize hX : b.fs[i] = x at *
  generalize hY : b.ss[k] = y at *
  clear hX hY
  go_enter Try.func71, Try.ntmps71
  go_wp2_with (go_at_call 82; refine (traits_any _).mono ?_; rintro e w1 ⟨rfl, hb⟩)
  generalize hTV : traitsV = tv
  have HTV := Lib.hid hTV
  clear hTV
  have hBx := below_alloc w (.cells #[.int .i64 s.1, .int .i64 s.2] 72)
  have hB1 := hBx.trans (hb.mono hBx.size)
  have hxs := hx.later hB1
  have hys := hy.later hB1
  have e4 := cell_later hB1 c4
  have e5 := cell_later hB1 c5
  have e6 := cell_later hb (cell_new w #[.int .i64 s.1, .int .i64 s.2] 72 0 (.int .i64 s.1) rfl)
  have e7 := cell_later hb (cell_new w #[.int .i64 s.1, .int .i64 s.2] 72 1 (.int .i64 s.2) rfl)
  clear hBx hb hx hy c4 c5
  go_loopw [8, 10, 11, 12, 13, 15] (fun _ _ _ _ _ j wr => ∃ n : Nat, n ≤ 3 ∧ j = .int .i64 n ∧ sameTo x y s n ∧ Below w1.heap.size w1 wr) (fun _ _ _ _ _ j _ => 3 - (intOf j).toNat)
  case atStart => exact ⟨0, by omega, rfl, ⟨by omega, by omega, by omega⟩, Below.refl _ _⟩
  case round =>
    rename_i wr
    obtain ⟨n, hn, rfl, hsm, hbw⟩ := hrel
    have HS := Lib.hid hsm
    clear hsm
    have hxr := hxs.later hbw
    have hyr := hys.later hbw
    have f4 := cell_later hbw e4
    have f5 := cell_later hbw e5
    have f6 := cell_later hbw e6
    have f7 := cell_later hbw e7
    by_cases k0 : n = 0
    · subst k0
      have ix := idx0
      rw [HTV.out] at ix
      go_upto_region 4 with fail
      obtain ⟨w3, hw3⟩ : ∃ w3, wr.alloc (.cells #[.func (.func 88) #[] #[], .int .i64 (-1048576), .int .i64 1048576, .func (.func 89) #[] #[]] 143) = w3 := ⟨_, rfl⟩
      rw [hw3]
      have hb3 : Below wr.heap.size wr w3 := hw3 ▸ below_alloc _ _
      have hB3 : Below w1.heap.size w1 w3 := hbw.trans (hb3.mono hbw.size)
      have t0 : w3.cell? ⟨wr.heap.size, 0, none⟩ = some (.func (.func 88) #[] #[]) := hw3 ▸ cell_new _ _ _ _ _ rfl
      have t3 : w3.cell? ⟨wr.heap.size, 3, none⟩ = some (.func (.func 89) #[] #[]) := hw3 ▸ cell_new _ _ _ _ _ rfl
      have hx3 := hxr.later hb3
      have hy3 := hyr.later hb3
      have g4 := cell_later hb3 f4
      have g5 := cell_later hb3 f5
      have g6 := cell_later hb3 f6
      have g7 := cell_later hb3 f7
      clear hw3 hxr hyr f4 f5 f6 f7 ix
      go_cut [11, 12, 13] (fun s11 s12 s13 wx => ∃ q1 q2, s11 = .pointer (some ⟨q1, 0, none⟩) ∧ s12 = .pointer (some ⟨q2, 0, none⟩) ∧ s13 = .int .i64 s.1 ∧ wx.cell? ⟨q1, 0, none⟩ = some (.int .i64 x.e.lo) ∧ wx.cell? ⟨q1, 1, none⟩ = some (.int .i64 x.e.hi) ∧
        wx.cell? ⟨q2, 0, none⟩ = some (.int .i64 y.e.lo) ∧ wx.cell? ⟨q2, 1, none⟩ = some (.int .i64 y.e.hi) ∧ Below w3.heap.size w3 wx)
      case first =>
        obtain ⟨x0, x1, x2, x3, x4, x5, x6⟩ := hx3
        obtain ⟨y0, y1, y2, y3, y4, y5, y6⟩ := hy3
        have X0 := held x0 (Nat.le_refl _)
        have X1 := held x1 (Nat.le_refl _)
        have X2 := held x2 (Nat.le_refl _)
        have X3 := held x3 (Nat.le_refl _)
        have X4 := held x4 (Nat.le_refl _)
        have X5 := held x5 (Nat.le_refl _)
        have X6 := held x6 (Nat.le_refl _)
        have Y0 := held y0 (Nat.le_refl _)
        have Y1 := held y1 (Nat.le_refl _)
        have Y2 := held y2 (Nat.le_refl _)
        have Y3 := held y3 (Nat.le_refl _)
        have Y4 := held y4 (Nat.le_refl _)
        have Y5 := held y5 (Nat.le_refl _)
        have Y6 := held y6 (Nat.le_refl _)
        have G4 := held g4 (Nat.le_refl _)
        have G5 := held g5 (Nat.le_refl _)
        have G6 := held g6 (Nat.le_refl _)
        have G7 := held g7 (Nat.le_refl _)
        have T0 := held t0 (Nat.le_refl _)
        have T3 := held t3 (Nat.le_refl _)
        clear x0 x1 x2 x3 x4 x5 x6 y0 y1 y2 y3 y4 y5 y6 g4 g5 g6 g7 t0 t3 hbw hB3 hb3 hB1 hxs hys e4 e5 e6 e7 hbf hbs
        refine wp_region_mix (S := fun W => Below w3.heap.size w3 W) 31 (by kernel_rfl) (by kernel_rfl) (Below.refl _ _).drew (fun hHeld => ?_)
        refine wpAnyH_takeD 0 18 (v := ?_) (by kernel_rfl) (by kernel_rfl) (by kernel_rfl) (by kernel_rfl) (fun _ _ _ h => h) ?_ (by assumption) ?_
        rotate_left
        · intro oi hoi w hSw; (try dsimp only at hSw); simp only [List.getElem?_toArray, List.getElem?_cons_zero, List.getElem?_cons_succ, Option.some.injEq] at hoi; subst hoi; go_simp; try with_reducible rfl
        simp only [Act.put, List.setIfInBounds_toArray, List.set_cons_zero, List.set_cons_succ]
        refine wpAnyH_takeD 1 19 (v := ?_) (by kernel_rfl) (by kernel_rfl) (by kernel_rfl) (by kernel_rfl) (fun _ _ _ h => h) ?_ (by assumption) ?_
        rotate_left
        · intro oi hoi w hSw; (try dsimp only at hSw); simp only [List.getElem?_toArray, List.getElem?_cons_zero, List.getElem?_cons_succ, Option.some.injEq] at hoi; subst hoi; go_simp; try with_reducible rfl
        simp only [Act.put, List.setIfInBounds_toArray, List.set_cons_zero, List.set_cons_succ]
        refine wpAnyH_takeD 2 20 (v := ?_) (by kernel_rfl) (by kernel_rfl) (by kernel_rfl) (by kernel_rfl) (fun _ _ _ h => h) ?_ (by assumption) ?_
        rotate_left
        · intro oi hoi w hSw; (try dsimp only at hSw); simp only [List.getElem?_toArray, List.getElem?_cons_zero, List.getElem?_cons_succ, Option.some.injEq] at hoi; subst hoi; go_simp; try with_reducible rfl
        simp only [Act.put, List.setIfInBounds_toArray, List.set_cons_zero, List.set_cons_succ]
        refine wpAnyH_takeD 3 21 (v := ?_) (by kernel_rfl) (by kernel_rfl) (by kernel_rfl) (by kernel_rfl) (fun _ _ _ h => h) ?_ (by assumption) ?_
        rotate_left
        · intro oi hoi w hSw; (try dsimp only at hSw); simp only [List.getElem?_toArray, List.getElem?_cons_zero, List.getElem?_cons_succ, Option.some.injEq] at hoi; subst hoi; go_simp; try with_reducible rfl
        simp only [Act.put, List.setIfInBounds_toArray, List.set_cons_zero, List.set_cons_succ]
        refine wpAnyH_takeD 4 22 (v := ?_) (by kernel_rfl) (by kernel_rfl) (by kernel_rfl) (by kernel_rfl) (fun _ _ _ h => h) ?_ (by assumption) ?_
        rotate_left
        · intro oi hoi w hSw; (try dsimp only at hSw); simp only [List.getElem?_toArray, List.getElem?_cons_zero, List.getElem?_cons_succ, Option.some.injEq] at hoi; subst hoi; go_simp; try with_reducible rfl
        simp only [Act.put, List.setIfInBounds_toArray, List.set_cons_zero, List.set_cons_succ]
        refine wpAnyH_takeD 5 23 (v := ?_) (by kernel_rfl) (by kernel_rfl) (by kernel_rfl) (by kernel_rfl) (fun _ _ _ h => h) ?_ (by assumption) ?_
        rotate_left
        · intro oi hoi w hSw; (try dsimp only at hSw); simp only [List.getElem?_toArray, List.getElem?_cons_zero, List.getElem?_cons_succ, Option.some.injEq] at hoi; subst hoi; go_simp; try with_reducible rfl
        simp only [Act.put, List.setIfInBounds_toArray, List.set_cons_zero, List.set_cons_succ]
        refine wpAnyH_takeD 6 24 (v := ?_) (by kernel_rfl) (by kernel_rfl) (by kernel_rfl) (by kernel_rfl) (fun _ _ _ h => h) ?_ (by assumption) ?_
        rotate_left
        · intro oi hoi w hSw; (try dsimp only at hSw); simp only [List.getElem?_toArray, List.getElem?_cons_zero, List.getElem?_cons_succ, Option.some.injEq] at hoi; subst hoi; go_simp; try with_reducible rfl
        simp only [Act.put, List.setIfInBounds_toArray, List.set_cons_zero, List.set_cons_succ]
        refine wpAnyH_takeD 7 25 (v := ?_) (by kernel_rfl) (by kernel_rfl) (by kernel_rfl) (by kernel_rfl) (fun _ _ _ h => h) ?_ (by assumption) ?_
        rotate_left
        · intro oi hoi w hSw; (try dsimp only at hSw); simp only [List.getElem?_toArray, List.getElem?_cons_zero, List.getElem?_cons_succ, Option.some.injEq] at hoi; subst hoi; go_simp; try with_reducible rfl
        simp only [Act.put, List.setIfInBounds_toArray, List.set_cons_zero, List.set_cons_succ]
        refine wpAnyH_takeD 8 26 (v := ?_) (by kernel_rfl) (by kernel_rfl) (by kernel_rfl) (by kernel_rfl) (fun _ _ _ h => h) ?_ (by assumption) ?_
        rotate_left
        · intro oi hoi w hSw; (try dsimp only at hSw); simp only [List.getElem?_toArray, List.getElem?_cons_zero, List.getElem?_cons_succ, Option.some.injEq] at hoi; subst hoi; go_simp; try with_reducible rfl
        simp only [Act.put, List.setIfInBounds_toArray, List.set_cons_zero, List.set_cons_succ]
        refine wpAnyH_takeD 9 27 (v := ?_) (by kernel_rfl) (by kernel_rfl) (by kernel_rfl) (by kernel_rfl) (fun _ _ _ h => h) ?_ (by assumption) ?_
        rotate_left
        · intro oi hoi w hSw; (try dsimp only at hSw); simp only [List.getElem?_toArray, List.getElem?_cons_zero, List.getElem?_cons_succ, Option.some.injEq] at hoi; subst hoi; go_simp; try with_reducible rfl
        simp only [Act.put, List.setIfInBounds_toArray, List.set_cons_zero, List.set_cons_succ]
        refine wpAnyH_takeD 11 29 (v := ?_) (by kernel_rfl) (by kernel_rfl) (by kernel_rfl) (by kernel_rfl) (fun _ _ _ h => h) ?_ (by assumption) ?_
        rotate_left
        · intro oi hoi w hSw; (try dsimp only at hSw); simp only [List.getElem?_toArray, List.getElem?_cons_zero, List.getElem?_cons_succ, Option.some.injEq] at hoi; subst hoi; go_simp; try with_reducible rfl
        simp only [Act.put, List.setIfInBounds_toArray, List.set_cons_zero, List.set_cons_succ]
        refine wpAnyH_takeD 12 30 (v := ?_) (by kernel_rfl) (by kernel_rfl) (by kernel_rfl) (by kernel_rfl) (fun _ _ _ h => h) ?_ (by assumption) ?_
        rotate_left
        · intro oi hoi w hSw; (try dsimp only at hSw); simp only [List.getElem?_toArray, List.getElem?_cons_zero, List.getElem?_cons_succ, Option.some.injEq] at hoi; subst hoi; go_simp; try with_reducible rfl
        simp only [Act.put, List.setIfInBounds_toArray, List.set_cons_zero, List.set_cons_succ]
        refine wpAnyH_takeD 13 31 (v := ?_) (by kernel_rfl) (by kernel_rfl) (by kernel_rfl) (by kernel_rfl) (fun _ _ _ h => h) ?_ (by assumption) ?_
        rotate_left
        · intro oi hoi w hSw; (try dsimp only at hSw); simp only [List.getElem?_toArray, List.getElem?_cons_zero, List.getElem?_cons_succ, Option.some.injEq] at hoi; subst hoi; go_simp; try with_reducible rfl
        simp only [Act.put, List.setIfInBounds_toArray, List.set_cons_zero, List.set_cons_succ]
        refine wpAnyH_takeD 14 32 (v := ?_) (by kernel_rfl) (by kernel_rfl) (by kernel_rfl) (by kernel_rfl) (fun _ _ _ h => h) ?_ (by assumption) ?_
        rotate_left
        · intro oi hoi w hSw; (try dsimp only at hSw); simp only [List.getElem?_toArray, List.getElem?_cons_zero, List.getElem?_cons_succ, Option.some.injEq] at hoi; subst hoi; go_simp; try with_reducible rfl
        simp only [Act.put, List.setIfInBounds_toArray, List.set_cons_zero, List.set_cons_succ]
        refine wpAnyH_takeD 15 33 (v := ?_) (by kernel_rfl) (by kernel_rfl) (by kernel_rfl) (by kernel_rfl) (fun _ _ _ h => h) ?_ (by assumption) ?_
        rotate_left
        · intro oi hoi w hSw; (try dsimp only at hSw); simp only [List.getElem?_toArray, List.getElem?_cons_zero, List.getElem?_cons_succ, Option.some.injEq] at hoi; subst hoi; go_simp; try with_reducible rfl
        simp only [Act.put, List.setIfInBounds_toArray, List.set_cons_zero, List.set_cons_succ]
        refine wpAnyH_takeD 16 34 (v := ?_) (by kernel_rfl) (by kernel_rfl) (by kernel_rfl) (by kernel_rfl) (fun _ _ _ h => h) ?_ (by assumption) ?_
        rotate_left
        · intro oi hoi w hSw; (try dsimp only at hSw); simp only [List.getElem?_toArray, List.getElem?_cons_zero, List.getElem?_cons_succ, Option.some.injEq] at hoi; subst hoi; go_simp; try with_reducible rfl
        simp only [Act.put, List.setIfInBounds_toArray, List.set_cons_zero, List.set_cons_succ]
        refine wpAnyH_takeD 17 35 (v := ?_) (by kernel_rfl) (by kernel_rfl) (by kernel_rfl) (by kernel_rfl) (fun _ _ _ h => h) ?_ (by assumption) ?_
        rotate_left
        · intro oi hoi w hSw; (try dsimp only at hSw); simp only [List.getElem?_toArray, List.getElem?_cons_zero, List.getElem?_cons_succ, Option.some.injEq] at hoi; subst hoi; go_simp; try with_reducible rfl
        simp only [Act.put, List.setIfInBounds_toArray, List.set_cons_zero, List.set_cons_succ]
        refine wpAnyH_takeD 18 36 (v := ?_) (by kernel_rfl) (by kernel_rfl) (by kernel_rfl) (by kernel_rfl) (fun _ _ _ h => h) ?_ (by assumption) ?_
        rotate_left
        · intro oi hoi w hSw; (try dsimp only at hSw); simp only [List.getElem?_toArray, List.getElem?_cons_zero, List.getElem?_cons_succ, Option.some.injEq] at hoi; subst hoi; go_simp; try with_reducible rfl
        simp only [Act.put, List.setIfInBounds_toArray, List.set_cons_zero, List.set_cons_succ]
        refine wpAnyH_takeD 19 37 (v := ?_) (by kernel_rfl) (by kernel_rfl) (by kernel_rfl) (by kernel_rfl) (fun _ _ _ h => h) ?_ (by assumption) ?_
        rotate_left
        · intro oi hoi w hSw; (try dsimp only at hSw); simp only [List.getElem?_toArray, List.getElem?_cons_zero, List.getElem?_cons_succ, Option.some.injEq] at hoi; subst hoi; go_simp; try with_reducible rfl
        simp only [Act.put, List.setIfInBounds_toArray, List.set_cons_zero, List.set_cons_succ]
        refine wpAnyH_takeD 20 38 (v := ?_) (by kernel_rfl) (by kernel_rfl) (by kernel_rfl) (by kernel_rfl) (fun _ _ _ h => h) ?_ (by assumption) ?_
        rotate_left
        · intro oi hoi w hSw; (try dsimp only at hSw); simp only [List.getElem?_toArray, List.getElem?_cons_zero, List.getElem?_cons_succ, Option.some.injEq] at hoi; subst hoi; go_simp; try with_reducible rfl
        simp only [Act.put, List.setIfInBounds_toArray, List.set_cons_zero, List.set_cons_succ]
        refine wpAnyH_takeD 22 40 (v := ?_) (by kernel_rfl) (by kernel_rfl) (by kernel_rfl) (by kernel_rfl) (fun _ _ _ h => h) ?_ (by assumption) ?_
        rotate_left
        · intro oi hoi w hSw; (try dsimp only at hSw); simp only [List.getElem?_toArray, List.getElem?_cons_zero, List.getElem?_cons_succ, Option.some.injEq] at hoi; subst hoi; go_simp; try with_reducible rfl
        simp only [Act.put, List.setIfInBounds_toArray, List.set_cons_zero, List.set_cons_succ]
        refine wpAnyH_takeD 23 41 (v := ?_) (by kernel_rfl) (by kernel_rfl) (by kernel_rfl) (by kernel_rfl) (fun _ _ _ h => h) ?_ (by assumption) ?_
        rotate_left
        · intro oi hoi w hSw; (try dsimp only at hSw); simp only [List.getElem?_toArray, List.getElem?_cons_zero, List.getElem?_cons_succ, Option.some.injEq] at hoi; subst hoi; go_simp; try with_reducible rfl
        simp only [Act.put, List.setIfInBounds_toArray, List.set_cons_zero, List.set_cons_succ]
        refine wpAnyH_takeD 24 42 (v := ?_) (by kernel_rfl) (by kernel_rfl) (by kernel_rfl) (by kernel_rfl) (fun _ _ _ h => h) ?_ (by assumption) ?_
        rotate_left
        · intro oi hoi w hSw; (try dsimp only at hSw); simp only [List.getElem?_toArray, List.getElem?_cons_zero, List.getElem?_cons_succ, Option.some.injEq] at hoi; subst hoi; go_simp; try with_reducible rfl
        simp only [Act.put, List.setIfInBounds_toArray, List.set_cons_zero, List.set_cons_succ]
        refine wpAnyH_mix
          [⟨10, 28, 88, #[.agg #[.int .i64 x.e.lo, .int .i64 x.e.hi, .int .i64 x.n.lo, .int .i64 x.n.hi, .int .i64 x.b.lo, .int .i64 x.b.hi, .bool x.sure]], .agg #[.int .i64 x.e.lo, .int .i64 x.e.hi]⟩,
           ⟨21, 39, 88, #[.agg #[.int .i64 y.e.lo, .int .i64 y.e.hi, .int .i64 y.n.lo, .int .i64 y.n.hi, .int .i64 y.b.lo, .int .i64 y.b.hi, .bool y.sure]], .agg #[.int .i64 y.e.lo, .int .i64 y.e.hi]⟩,
           ⟨25, 43, 89, #[.agg #[.int .i64 s.1, .int .i64 s.2]], .int .i64 s.1⟩]
          [⟨26, 11, .cells #[.int .i64 0, .int .i64 0] 23⟩, ⟨27, 12, .cells #[.int .i64 0, .int .i64 0] 23⟩] _ _ _ w3.heap.size 3 (by kernel_rfl) (by decide) (by kernel_rfl) (by kernel_rfl) ?mcall ?mnew hHeld (fun W h => h.size) ?mrest
        case mcall =>
          intro k c hk
          match k, hk with
          | 0, hk =>
            cases hk
            exact ⟨fun o ho W => (by simp only [List.getElem?_toArray, List.getElem?_cons_zero, List.getElem?_cons_succ, Option.some.injEq] at ho; subst ho; simp only [callPuts, List.take_succ_cons, List.take_zero, List.foldl_cons, List.foldl_nil, Act.put, List.setIfInBounds_toArray, List.set_cons_zero, List.set_cons_succ]; go_simp), fun W hW => (trait1 _ _ _ _ _ _ _ W).mono fun _ _ ⟨he, hb⟩ => ⟨he, hW.trans (hb.mono hW.size), hb⟩⟩
          | 1, hk =>
            cases hk
            exact ⟨fun o ho W => (by simp only [List.getElem?_toArray, List.getElem?_cons_zero, List.getElem?_cons_succ, Option.some.injEq] at ho; subst ho; simp only [callPuts, List.take_succ_cons, List.take_zero, List.foldl_cons, List.foldl_nil, Act.put, List.setIfInBounds_toArray, List.set_cons_zero, List.set_cons_succ]; go_simp), fun W hW => (trait1 _ _ _ _ _ _ _ W).mono fun _ _ ⟨he, hb⟩ => ⟨he, hW.trans (hb.mono hW.size), hb⟩⟩
          | 2, hk =>
            cases hk
            exact ⟨fun o ho W => (by simp only [List.getElem?_toArray, List.getElem?_cons_zero, List.getElem?_cons_succ, Option.some.injEq] at ho; subst ho; simp only [callPuts, List.take_succ_cons, List.take_zero, List.foldl_cons, List.foldl_nil, Act.put, List.setIfInBounds_toArray, List.set_cons_zero, List.set_cons_succ]; go_simp), fun W hW => (trait2x _ _ W).mono fun _ _ ⟨he, hb⟩ => ⟨he, by rw [hb]; exact ⟨hW.alloc hW.size _, below_alloc _ _⟩⟩⟩
          | n + 3, hk => simp at hk
        case mnew =>
          intro z hz
          simp only [List.mem_cons, List.not_mem_nil, or_false] at hz
          rcases hz with rfl | rfl <;> exact ⟨fun o ho a W => (by simp only [List.getElem?_toArray, List.getElem?_cons_zero, List.getElem?_cons_succ, Option.some.injEq] at ho; subst ho; go_simp), fun W hW => hW.alloc hW.size _⟩
        case mrest =>
          intro qs W hl hS hF
          match qs, hl with
          | [q1, q2], _ =>
            obtain ⟨b1, z1⟩ := hF.at' 0 _ q1 rfl rfl
            obtain ⟨b2, z2⟩ := hF.at' 1 _ q2 rfl rfl
            have hne : q1 ≠ q2 := fun e => absurd (hF.apart 0 1 q1 rfl (by rw [e]; rfl)) (by omega)
            have k1 := cell_block z1 0
            have k2 := cell_block z1 1
            have k3 := cell_block z2 0
            have k4 := cell_block z2 1
            have j1 := frozen_block z1 0
            have j2 := frozen_block z1 1
            have j3 := frozen_block z2 0
            have j4 := frozen_block z2 1
            simp only [List.getElem?_toArray, List.getElem?_cons_zero, List.getElem?_cons_succ] at k1 k2 k3 k4
            simp only [newPuts, callPuts, List.map_cons, List.map_nil, List.foldl_cons, List.foldl_nil, Act.put, List.setIfInBounds_toArray, List.set_cons_zero, List.set_cons_succ]
            have hne1 : ¬ q1 = q2 := hne
            have hne2 : ¬ q2 = q1 := fun e => hne e.symm
            refine wpAnyH_one 28 (by kernel_rfl) (by kernel_rfl) ?_
            intro o ho K hK
            simp only [List.getElem?_toArray, List.getElem?_cons_zero, List.getElem?_cons_succ, Option.some.injEq] at ho
            subst ho
            go_simp
            refine hK _ _ ((hS.setCell b1 _).setCell b1 _) (fun hS => ?_)
            clear hK K
            try simp only [Act.put, List.setIfInBounds_toArray, List.set_cons_zero, List.set_cons_succ]
            refine wpAnyH_one 29 (by kernel_rfl) (by kernel_rfl) ?_
            intro o ho K hK
            simp only [List.getElem?_toArray, List.getElem?_cons_zero, List.getElem?_cons_succ, Option.some.injEq] at ho
            subst ho
            go_simp
            refine hK _ _ ((hS.setCell b2 _).setCell b2 _) (fun hS => ?_)
            clear hK K
            try simp only [Act.put, List.setIfInBounds_toArray, List.set_cons_zero, List.set_cons_succ]
            refine wpAnyH_one 30 (by kernel_rfl) (by kernel_rfl) ?_
            intro o ho K hK
            simp only [List.getElem?_toArray, List.getElem?_cons_zero, List.getElem?_cons_succ, Option.some.injEq] at ho
            subst ho
            go_simp
            refine hK _ _ (hS) (fun hS => ?_)
            clear hK K
            try simp only [Act.put, List.setIfInBounds_toArray, List.set_cons_zero, List.set_cons_succ]
            refine wpAnyH_done (by kernel_rfl) ?_ _
            go_wp2_with fail
            go_meet
            have u1 := block_other (block_other (block_set (block_set z1 0 (.int .i64 x.e.lo)) 1 (.int .i64 x.e.hi)) hne1 0 (.int .i64 y.e.lo)) hne1 1 (.int .i64 y.e.hi)
            have u2 := block_set (block_set (block_other (block_other z2 hne2 0 (.int .i64 x.e.lo)) hne2 1 (.int .i64 x.e.hi)) 0 (.int .i64 y.e.lo)) 1 (.int .i64 y.e.hi)
            exact ⟨q1, q2, rfl, rfl, rfl, cell_block u1 0, cell_block u1 1, cell_block u2 0, cell_block u2 1, hS⟩
      case rest =>
        obtain ⟨q1, q2, rfl, rfl, rfl, v1, v2, v3, v4, hBc⟩ := hcut
        have hlx : x.e.lo ≤ x.e.hi := hbx.e2
        have hly : y.e.lo ≤ y.e.hi := hby.e2
        have hx1 := hbx.e1
        have hx2 := hbx.e3
        have hy1 := hby.e1
        have hy2 := hby.e3
        cases hq : meets x.e y.e s.1
        · have HQ := Lib.hid hq
          clear hq hx3 hy3 g4 g5 g6 g7 t0 t3 hxs hys e4 e5 e6 e7
          have hm : y.e.hi + s.1 < x.e.lo ∨ x.e.hi < y.e.lo + s.1 := by
            have := HQ.out
            simp only [meets, Bool.and_eq_false_iff, decide_eq_false_iff_not] at this
            omega
          have hfin : Below w.heap.size w wc := hB1.trans ((hbw.trans ((hb3.trans (hBc.mono hb3.size)).mono hbw.size)).mono hB1.size)
          rcases hm with hm | hm
          all_goals
            go_wp2_with fail
            all_goals (go_ret; exact ⟨ret_bool (by simp [Ed.same, HQ.out]), hfin⟩)
        · have HQ := Lib.hid hq
          clear hq hx3 hy3 g4 g5 g6 g7 t0 t3 hxs hys e4 e5 e6 e7
          have hm1 : x.e.lo ≤ y.e.hi + s.1 ∧ y.e.lo + s.1 ≤ x.e.hi := by
            have := HQ.out
            simpa only [meets, Bool.and_eq_true, decide_eq_true_eq] using this
          obtain ⟨hm1, hm2⟩ := hm1
          go_wp2_with fail
          all_goals
            go_roundw
            case rel => exact ⟨1, by omega, by go_num, ⟨fun _ => HQ.out, by omega, by omega⟩, hbw.trans ((hb3.trans (hBc.mono hb3.size)).mono hbw.size)⟩
            case measure => simp [intOf]
    -- END OF ROUND 0
    by_cases k1 : n = 1
    · subst k1
      have ix := idx1
      rw [HTV.out] at ix
      go_upto_region 4 with fail
      obtain ⟨w3, hw3⟩ : ∃ w3, wr.alloc (.cells #[.func (.func 90) #[] #[], .int .i64 (-1048576), .int .i64 1048576, .func (.func 91) #[] #[]] 143) = w3 := ⟨_, rfl⟩
      rw [hw3]
      have hb3 : Below wr.heap.size wr w3 := hw3 ▸ below_alloc _ _
      have hB3 : Below w1.heap.size w1 w3 := hbw.trans (hb3.mono hbw.size)
      have t0 : w3.cell? ⟨wr.heap.size, 0, none⟩ = some (.func (.func 90) #[] #[]) := hw3 ▸ cell_new _ _ _ _ _ rfl
      have t3 : w3.cell? ⟨wr.heap.size, 3, none⟩ = some (.func (.func 91) #[] #[]) := hw3 ▸ cell_new _ _ _ _ _ rfl
      have hx3 := hxr.later hb3
      have hy3 := hyr.later hb3
      have g4 := cell_later hb3 f4
      have g5 := cell_later hb3 f5
      have g6 := cell_later hb3 f6
      have g7 := cell_later hb3 f7
      clear hw3 hxr hyr f4 f5 f6 f7 ix
      go_cut [11, 12, 13] (fun s11 s12 s13 wx => ∃ q1 q2, s11 = .pointer (some ⟨q1, 0, none⟩) ∧ s12 = .pointer (some ⟨q2, 0, none⟩) ∧ s13 = .int .i64 s.2 ∧ wx.cell? ⟨q1, 0, none⟩ = some (.int .i64 x.n.lo) ∧ wx.cell? ⟨q1, 1, none⟩ = some (.int .i64 x.n.hi) ∧
        wx.cell? ⟨q2, 0, none⟩ = some (.int .i64 y.n.lo) ∧ wx.cell? ⟨q2, 1, none⟩ = some (.int .i64 y.n.hi) ∧ Below w3.heap.size w3 wx)
      case first =>
        obtain ⟨x0, x1, x2, x3, x4, x5, x6⟩ := hx3
        obtain ⟨y0, y1, y2, y3, y4, y5, y6⟩ := hy3
        have X0 := held x0 (Nat.le_refl _)
        have X1 := held x1 (Nat.le_refl _)
        have X2 := held x2 (Nat.le_refl _)
        have X3 := held x3 (Nat.le_refl _)
        have X4 := held x4 (Nat.le_refl _)
        have X5 := held x5 (Nat.le_refl _)
        have X6 := held x6 (Nat.le_refl _)
        have Y0 := held y0 (Nat.le_refl _)
        have Y1 := held y1 (Nat.le_refl _)
        have Y2 := held y2 (Nat.le_refl _)
        have Y3 := held y3 (Nat.le_refl _)
        have Y4 := held y4 (Nat.le_refl _)
        have Y5 := held y5 (Nat.le_refl _)
        have Y6 := held y6 (Nat.le_refl _)
        have G4 := held g4 (Nat.le_refl _)
        have G5 := held g5 (Nat.le_refl _)
        have G6 := held g6 (Nat.le_refl _)
        have G7 := held g7 (Nat.le_refl _)
        have T0 := held t0 (Nat.le_refl _)
        have T3 := held t3 (Nat.le_refl _)
        clear x0 x1 x2 x3 x4 x5 x6 y0 y1 y2 y3 y4 y5 y6 g4 g5 g6 g7 t0 t3 hbw hB3 hb3 hB1 hxs hys e4 e5 e6 e7 hbf hbs
        refine wp_region_mix (S := fun W => Below w3.heap.size w3 W) 31 (by kernel_rfl) (by kernel_rfl) (Below.refl _ _).drew (fun hHeld => ?_)
        refine wpAnyH_takeD 0 18 (v := ?_) (by kernel_rfl) (by kernel_rfl) (by kernel_rfl) (by kernel_rfl) (fun _ _ _ h => h) ?_ (by assumption) ?_
        rotate_left
        · intro oi hoi w hSw; (try dsimp only at hSw); simp only [List.getElem?_toArray, List.getElem?_cons_zero, List.getElem?_cons_succ, Option.some.injEq] at hoi; subst hoi; go_simp; try with_reducible rfl
        simp only [Act.put, List.setIfInBounds_toArray, List.set_cons_zero, List.set_cons_succ]
        refine wpAnyH_takeD 1 19 (v := ?_) (by kernel_rfl) (by kernel_rfl) (by kernel_rfl) (by kernel_rfl) (fun _ _ _ h => h) ?_ (by assumption) ?_
        rotate_left
        · intro oi hoi w hSw; (try dsimp only at hSw); simp only [List.getElem?_toArray, List.getElem?_cons_zero, List.getElem?_cons_succ, Option.some.injEq] at hoi; subst hoi; go_simp; try with_reducible rfl
        simp only [Act.put, List.setIfInBounds_toArray, List.set_cons_zero, List.set_cons_succ]
        refine wpAnyH_takeD 2 20 (v := ?_) (by kernel_rfl) (by kernel_rfl) (by kernel_rfl) (by kernel_rfl) (fun _ _ _ h => h) ?_ (by assumption) ?_
        rotate_left
        · intro oi hoi w hSw; (try dsimp only at hSw); simp only [List.getElem?_toArray, List.getElem?_cons_zero, List.getElem?_cons_succ, Option.some.injEq] at hoi; subst hoi; go_simp; try with_reducible rfl
        simp only [Act.put, List.setIfInBounds_toArray, List.set_cons_zero, List.set_cons_succ]
        refine wpAnyH_takeD 3 21 (v := ?_) (by kernel_rfl) (by kernel_rfl) (by kernel_rfl) (by kernel_rfl) (fun _ _ _ h => h) ?_ (by assumption) ?_
        rotate_left
        · intro oi hoi w hSw; (try dsimp only at hSw); simp only [List.getElem?_toArray, List.getElem?_cons_zero, List.getElem?_cons_succ, Option.some.injEq] at hoi; subst hoi; go_simp; try with_reducible rfl
        simp only [Act.put, List.setIfInBounds_toArray, List.set_cons_zero, List.set_cons_succ]
        refine wpAnyH_takeD 4 22 (v := ?_) (by kernel_rfl) (by kernel_rfl) (by kernel_rfl) (by kernel_rfl) (fun _ _ _ h => h) ?_ (by assumption) ?_
        rotate_left
        · intro oi hoi w hSw; (try dsimp only at hSw); simp only [List.getElem?_toArray, List.getElem?_cons_zero, List.getElem?_cons_succ, Option.some.injEq] at hoi; subst hoi; go_simp; try with_reducible rfl
        simp only [Act.put, List.setIfInBounds_toArray, List.set_cons_zero, List.set_cons_succ]
        refine wpAnyH_takeD 5 23 (v := ?_) (by kernel_rfl) (by kernel_rfl) (by kernel_rfl) (by kernel_rfl) (fun _ _ _ h => h) ?_ (by assumption) ?_
        rotate_left
        · intro oi hoi w hSw; (try dsimp only at hSw); simp only [List.getElem?_toArray, List.getElem?_cons_zero, List.getElem?_cons_succ, Option.some.injEq] at hoi; subst hoi; go_simp; try with_reducible rfl
        simp only [Act.put, List.setIfInBounds_toArray, List.set_cons_zero, List.set_cons_succ]
        refine wpAnyH_takeD 6 24 (v := ?_) (by kernel_rfl) (by kernel_rfl) (by kernel_rfl) (by kernel_rfl) (fun _ _ _ h => h) ?_ (by assumption) ?_
        rotate_left
        · intro oi hoi w hSw; (try dsimp only at hSw); simp only [List.getElem?_toArray, List.getElem?_cons_zero, List.getElem?_cons_succ, Option.some.injEq] at hoi; subst hoi; go_simp; try with_reducible rfl
        simp only [Act.put, List.setIfInBounds_toArray, List.set_cons_zero, List.set_cons_succ]
        refine wpAnyH_takeD 7 25 (v := ?_) (by kernel_rfl) (by kernel_rfl) (by kernel_rfl) (by kernel_rfl) (fun _ _ _ h => h) ?_ (by assumption) ?_
        rotate_left
        · intro oi hoi w hSw; (try dsimp only at hSw); simp only [List.getElem?_toArray, List.getElem?_cons_zero, List.getElem?_cons_succ, Option.some.injEq] at hoi; subst hoi; go_simp; try with_reducible rfl
        simp only [Act.put, List.setIfInBounds_toArray, List.set_cons_zero, List.set_cons_succ]
        refine wpAnyH_takeD 8 26 (v := ?_) (by kernel_rfl) (by kernel_rfl) (by kernel_rfl) (by kernel_rfl) (fun _ _ _ h => h) ?_ (by assumption) ?_
        rotate_left
        · intro oi hoi w hSw; (try dsimp only at hSw); simp only [List.getElem?_toArray, List.getElem?_cons_zero, List.getElem?_cons_succ, Option.some.injEq] at hoi; subst hoi; go_simp; try with_reducible rfl
        simp only [Act.put, List.setIfInBounds_toArray, List.set_cons_zero, List.set_cons_succ]
        refine wpAnyH_takeD 9 27 (v := ?_) (by kernel_rfl) (by kernel_rfl) (by kernel_rfl) (by kernel_rfl) (fun _ _ _ h => h) ?_ (by assumption) ?_
        rotate_left
        · intro oi hoi w hSw; (try dsimp only at hSw); simp only [List.getElem?_toArray, List.getElem?_cons_zero, List.getElem?_cons_succ, Option.some.injEq] at hoi; subst hoi; go_simp; try with_reducible rfl
        simp only [Act.put, List.setIfInBounds_toArray, List.set_cons_zero, List.set_cons_succ]
        refine wpAnyH_takeD 11 29 (v := ?_) (by kernel_rfl) (by kernel_rfl) (by kernel_rfl) (by kernel_rfl) (fun _ _ _ h => h) ?_ (by assumption) ?_
        rotate_left
        · intro oi hoi w hSw; (try dsimp only at hSw); simp only [List.getElem?_toArray, List.getElem?_cons_zero, List.getElem?_cons_succ, Option.some.injEq] at hoi; subst hoi; go_simp; try with_reducible rfl
        simp only [Act.put, List.setIfInBounds_toArray, List.set_cons_zero, List.set_cons_succ]
        refine wpAnyH_takeD 12 30 (v := ?_) (by kernel_rfl) (by kernel_rfl) (by kernel_rfl) (by kernel_rfl) (fun _ _ _ h => h) ?_ (by assumption) ?_
        rotate_left
        · intro oi hoi w hSw; (try dsimp only at hSw); simp only [List.getElem?_toArray, List.getElem?_cons_zero, List.getElem?_cons_succ, Option.some.injEq] at hoi; subst hoi; go_simp; try with_reducible rfl
        simp only [Act.put, List.setIfInBounds_toArray, List.set_cons_zero, List.set_cons_succ]
        refine wpAnyH_takeD 13 31 (v := ?_) (by kernel_rfl) (by kernel_rfl) (by kernel_rfl) (by kernel_rfl) (fun _ _ _ h => h) ?_ (by assumption) ?_
        rotate_left
        · intro oi hoi w hSw; (try dsimp only at hSw); simp only [List.getElem?_toArray, List.getElem?_cons_zero, List.getElem?_cons_succ, Option.some.injEq] at hoi; subst hoi; go_simp; try with_reducible rfl
        simp only [Act.put, List.setIfInBounds_toArray, List.set_cons_zero, List.set_cons_succ]
        refine wpAnyH_takeD 14 32 (v := ?_) (by kernel_rfl) (by kernel_rfl) (by kernel_rfl) (by kernel_rfl) (fun _ _ _ h => h) ?_ (by assumption) ?_
        rotate_left
        · intro oi hoi w hSw; (try dsimp only at hSw); simp only [List.getElem?_toArray, List.getElem?_cons_zero, List.getElem?_cons_succ, Option.some.injEq] at hoi; subst hoi; go_simp; try with_reducible rfl
        simp only [Act.put, List.setIfInBounds_toArray, List.set_cons_zero, List.set_cons_succ]
        refine wpAnyH_takeD 15 33 (v := ?_) (by kernel_rfl) (by kernel_rfl) (by kernel_rfl) (by kernel_rfl) (fun _ _ _ h => h) ?_ (by assumption) ?_
        rotate_left
        · intro oi hoi w hSw; (try dsimp only at hSw); simp only [List.getElem?_toArray, List.getElem?_cons_zero, List.getElem?_cons_succ, Option.some.injEq] at hoi; subst hoi; go_simp; try with_reducible rfl
        simp only [Act.put, List.setIfInBounds_toArray, List.set_cons_zero, List.set_cons_succ]
        refine wpAnyH_takeD 16 34 (v := ?_) (by kernel_rfl) (by kernel_rfl) (by kernel_rfl) (by kernel_rfl) (fun _ _ _ h => h) ?_ (by assumption) ?_
        rotate_left
        · intro oi hoi w hSw; (try dsimp only at hSw); simp only [List.getElem?_toArray, List.getElem?_cons_zero, List.getElem?_cons_succ, Option.some.injEq] at hoi; subst hoi; go_simp; try with_reducible rfl
        simp only [Act.put, List.setIfInBounds_toArray, List.set_cons_zero, List.set_cons_succ]
        refine wpAnyH_takeD 17 35 (v := ?_) (by kernel_rfl) (by kernel_rfl) (by kernel_rfl) (by kernel_rfl) (fun _ _ _ h => h) ?_ (by assumption) ?_
        rotate_left
        · intro oi hoi w hSw; (try dsimp only at hSw); simp only [List.getElem?_toArray, List.getElem?_cons_zero, List.getElem?_cons_succ, Option.some.injEq] at hoi; subst hoi; go_simp; try with_reducible rfl
        simp only [Act.put, List.setIfInBounds_toArray, List.set_cons_zero, List.set_cons_succ]
        refine wpAnyH_takeD 18 36 (v := ?_) (by kernel_rfl) (by kernel_rfl) (by kernel_rfl) (by kernel_rfl) (fun _ _ _ h => h) ?_ (by assumption) ?_
        rotate_left
        · intro oi hoi w hSw; (try dsimp only at hSw); simp only [List.getElem?_toArray, List.getElem?_cons_zero, List.getElem?_cons_succ, Option.some.injEq] at hoi; subst hoi; go_simp; try with_reducible rfl
        simp only [Act.put, List.setIfInBounds_toArray, List.set_cons_zero, List.set_cons_succ]
        refine wpAnyH_takeD 19 37 (v := ?_) (by kernel_rfl) (by kernel_rfl) (by kernel_rfl) (by kernel_rfl) (fun _ _ _ h => h) ?_ (by assumption) ?_
        rotate_left
        · intro oi hoi w hSw; (try dsimp only at hSw); simp only [List.getElem?_toArray, List.getElem?_cons_zero, List.getElem?_cons_succ, Option.some.injEq] at hoi; subst hoi; go_simp; try with_reducible rfl
        simp only [Act.put, List.setIfInBounds_toArray, List.set_cons_zero, List.set_cons_succ]
        refine wpAnyH_takeD 20 38 (v := ?_) (by kernel_rfl) (by kernel_rfl) (by kernel_rfl) (by kernel_rfl) (fun _ _ _ h => h) ?_ (by assumption) ?_
        rotate_left
        · intro oi hoi w hSw; (try dsimp only at hSw); simp only [List.getElem?_toArray, List.getElem?_cons_zero, List.getElem?_cons_succ, Option.some.injEq] at hoi; subst hoi; go_simp; try with_reducible rfl
        simp only [Act.put, List.setIfInBounds_toArray, List.set_cons_zero, List.set_cons_succ]
        refine wpAnyH_takeD 22 40 (v := ?_) (by kernel_rfl) (by kernel_rfl) (by kernel_rfl) (by kernel_rfl) (fun _ _ _ h => h) ?_ (by assumption) ?_
        rotate_left
        · intro oi hoi w hSw; (try dsimp only at hSw); simp only [List.getElem?_toArray, List.getElem?_cons_zero, List.getElem?_cons_succ, Option.some.injEq] at hoi; subst hoi; go_simp; try with_reducible rfl
        simp only [Act.put, List.setIfInBounds_toArray, List.set_cons_zero, List.set_cons_succ]
        refine wpAnyH_takeD 23 41 (v := ?_) (by kernel_rfl) (by kernel_rfl) (by kernel_rfl) (by kernel_rfl) (fun _ _ _ h => h) ?_ (by assumption) ?_
        rotate_left
        · intro oi hoi w hSw; (try dsimp only at hSw); simp only [List.getElem?_toArray, List.getElem?_cons_zero, List.getElem?_cons_succ, Option.some.injEq] at hoi; subst hoi; go_simp; try with_reducible rfl
        simp only [Act.put, List.setIfInBounds_toArray, List.set_cons_zero, List.set_cons_succ]
        refine wpAnyH_takeD 24 42 (v := ?_) (by kernel_rfl) (by kernel_rfl) (by kernel_rfl) (by kernel_rfl) (fun _ _ _ h => h) ?_ (by assumption) ?_
        rotate_left
        · intro oi hoi w hSw; (try dsimp only at hSw); simp only [List.getElem?_toArray, List.getElem?_cons_zero, List.getElem?_cons_succ, Option.some.injEq] at hoi; subst hoi; go_simp; try with_reducible rfl
        simp only [Act.put, List.setIfInBounds_toArray, List.set_cons_zero, List.set_cons_succ]
        refine wpAnyH_mix
          [⟨10, 28, 90, #[.agg #[.int .i64 x.e.lo, .int .i64 x.e.hi, .int .i64 x.n.lo, .int .i64 x.n.hi, .int .i64 x.b.lo, .int .i64 x.b.hi, .bool x.sure]], .agg #[.int .i64 x.n.lo, .int .i64 x.n.hi]⟩,
           ⟨21, 39, 90, #[.agg #[.int .i64 y.e.lo, .int .i64 y.e.hi, .int .i64 y.n.lo, .int .i64 y.n.hi, .int .i64 y.b.lo, .int .i64 y.b.hi, .bool y.sure]], .agg #[.int .i64 y.n.lo, .int .i64 y.n.hi]⟩,
           ⟨25, 43, 91, #[.agg #[.int .i64 s.1, .int .i64 s.2]], .int .i64 s.2⟩]
          [⟨26, 11, .cells #[.int .i64 0, .int .i64 0] 23⟩, ⟨27, 12, .cells #[.int .i64 0, .int .i64 0] 23⟩] _ _ _ w3.heap.size 3 (by kernel_rfl) (by decide) (by kernel_rfl) (by kernel_rfl) ?mcall ?mnew hHeld (fun W h => h.size) ?mrest
        case mcall =>
          intro k c hk
          match k, hk with
          | 0, hk =>
            cases hk
            exact ⟨fun o ho W => (by simp only [List.getElem?_toArray, List.getElem?_cons_zero, List.getElem?_cons_succ, Option.some.injEq] at ho; subst ho; simp only [callPuts, List.take_succ_cons, List.take_zero, List.foldl_cons, List.foldl_nil, Act.put, List.setIfInBounds_toArray, List.set_cons_zero, List.set_cons_succ]; go_simp), fun W hW => (trait3 _ _ _ _ _ _ _ W).mono fun _ _ ⟨he, hb⟩ => ⟨he, hW.trans (hb.mono hW.size), hb⟩⟩
          | 1, hk =>
            cases hk
            exact ⟨fun o ho W => (by simp only [List.getElem?_toArray, List.getElem?_cons_zero, List.getElem?_cons_succ, Option.some.injEq] at ho; subst ho; simp only [callPuts, List.take_succ_cons, List.take_zero, List.foldl_cons, List.foldl_nil, Act.put, List.setIfInBounds_toArray, List.set_cons_zero, List.set_cons_succ]; go_simp), fun W hW => (trait3 _ _ _ _ _ _ _ W).mono fun _ _ ⟨he, hb⟩ => ⟨he, hW.trans (hb.mono hW.size), hb⟩⟩
          | 2, hk =>
            cases hk
            exact ⟨fun o ho W => (by simp only [List.getElem?_toArray, List.getElem?_cons_zero, List.getElem?_cons_succ, Option.some.injEq] at ho; subst ho; simp only [callPuts, List.take_succ_cons, List.take_zero, List.foldl_cons, List.foldl_nil, Act.put, List.setIfInBounds_toArray, List.set_cons_zero, List.set_cons_succ]; go_simp), fun W hW => (trait4x _ _ W).mono fun _ _ ⟨he, hb⟩ => ⟨he, by rw [hb]; exact ⟨hW.alloc hW.size _, below_alloc _ _⟩⟩⟩
          | n + 3, hk => simp at hk
        case mnew =>
          intro z hz
          simp only [List.mem_cons, List.not_mem_nil, or_false] at hz
          rcases hz with rfl | rfl <;> exact ⟨fun o ho a W => (by simp only [List.getElem?_toArray, List.getElem?_cons_zero, List.getElem?_cons_succ, Option.some.injEq] at ho; subst ho; go_simp), fun W hW => hW.alloc hW.size _⟩
        case mrest =>
          intro qs W hl hS hF
          match qs, hl with
          | [q1, q2], _ =>
            obtain ⟨b1, z1⟩ := hF.at' 0 _ q1 rfl rfl
            obtain ⟨b2, z2⟩ := hF.at' 1 _ q2 rfl rfl
            have hne : q1 ≠ q2 := fun e => absurd (hF.apart 0 1 q1 rfl (by rw [e]; rfl)) (by omega)
            have k1 := cell_block z1 0
            have k2 := cell_block z1 1
            have k3 := cell_block z2 0
            have k4 := cell_block z2 1
            have j1 := frozen_block z1 0
            have j2 := frozen_block z1 1
            have j3 := frozen_block z2 0
            have j4 := frozen_block z2 1
            simp only [List.getElem?_toArray, List.getElem?_cons_zero, List.getElem?_cons_succ] at k1 k2 k3 k4
            simp only [newPuts, callPuts, List.map_cons, List.map_nil, List.foldl_cons, List.foldl_nil, Act.put, List.setIfInBounds_toArray, List.set_cons_zero, List.set_cons_succ]
            have hne1 : ¬ q1 = q2 := hne
            have hne2 : ¬ q2 = q1 := fun e => hne e.symm
            refine wpAnyH_one 28 (by kernel_rfl) (by kernel_rfl) ?_
            intro o ho K hK
            simp only [List.getElem?_toArray, List.getElem?_cons_zero, List.getElem?_cons_succ, Option.some.injEq] at ho
            subst ho
            go_simp
            refine hK _ _ ((hS.setCell b1 _).setCell b1 _) (fun hS => ?_)
            clear hK K
            try simp only [Act.put, List.setIfInBounds_toArray, List.set_cons_zero, List.set_cons_succ]
            refine wpAnyH_one 29 (by kernel_rfl) (by kernel_rfl) ?_
            intro o ho K hK
            simp only [List.getElem?_toArray, List.getElem?_cons_zero, List.getElem?_cons_succ, Option.some.injEq] at ho
            subst ho
            go_simp
            refine hK _ _ ((hS.setCell b2 _).setCell b2 _) (fun hS => ?_)
            clear hK K
            try simp only [Act.put, List.setIfInBounds_toArray, List.set_cons_zero, List.set_cons_succ]
            refine wpAnyH_one 30 (by kernel_rfl) (by kernel_rfl) ?_
            intro o ho K hK
            simp only [List.getElem?_toArray, List.getElem?_cons_zero, List.getElem?_cons_succ, Option.some.injEq] at ho
            subst ho
            go_simp
            refine hK _ _ (hS) (fun hS => ?_)
            clear hK K
            try simp only [Act.put, List.setIfInBounds_toArray, List.set_cons_zero, List.set_cons_succ]
            refine wpAnyH_done (by kernel_rfl) ?_ _
            go_wp2_with fail
            go_meet
            have u1 := block_other (block_other (block_set (block_set z1 0 (.int .i64 x.n.lo)) 1 (.int .i64 x.n.hi)) hne1 0 (.int .i64 y.n.lo)) hne1 1 (.int .i64 y.n.hi)
            have u2 := block_set (block_set (block_other (block_other z2 hne2 0 (.int .i64 x.n.lo)) hne2 1 (.int .i64 x.n.hi)) 0 (.int .i64 y.n.lo)) 1 (.int .i64 y.n.hi)
            exact ⟨q1, q2, rfl, rfl, rfl, cell_block u1 0, cell_block u1 1, cell_block u2 0, cell_block u2 1, hS⟩
      case rest =>
        obtain ⟨q1, q2, rfl, rfl, rfl, v1, v2, v3, v4, hBc⟩ := hcut
        have hlx : x.n.lo ≤ x.n.hi := hbx.n2
        have hly : y.n.lo ≤ y.n.hi := hby.n2
        have hx1 := hbx.n1
        have hx2 := hbx.n3
        have hy1 := hby.n1
        have hy2 := hby.n3
        cases hq : meets x.n y.n s.2
        · have HQ := Lib.hid hq
          clear hq hx3 hy3 g4 g5 g6 g7 t0 t3 hxs hys e4 e5 e6 e7
          have hm : y.n.hi + s.2 < x.n.lo ∨ x.n.hi < y.n.lo + s.2 := by
            have := HQ.out
            simp only [meets, Bool.and_eq_false_iff, decide_eq_false_iff_not] at this
            omega
          have hfin : Below w.heap.size w wc := hB1.trans ((hbw.trans ((hb3.trans (hBc.mono hb3.size)).mono hbw.size)).mono hB1.size)
          rcases hm with hm | hm
          all_goals
            go_wp2_with fail
            all_goals (go_ret; exact ⟨ret_bool (by simp [Ed.same, HQ.out]), hfin⟩)
        · have HQ := Lib.hid hq
          clear hq hx3 hy3 g4 g5 g6 g7 t0 t3 hxs hys e4 e5 e6 e7
          have hm1 : x.n.lo ≤ y.n.hi + s.2 ∧ y.n.lo + s.2 ≤ x.n.hi := by
            have := HQ.out
            simpa only [meets, Bool.and_eq_true, decide_eq_true_eq] using this
          obtain ⟨hm1, hm2⟩ := hm1
          go_wp2_with fail
          all_goals
            go_roundw
            case rel => exact ⟨2, by omega, by go_num, ⟨fun _ => HS.out.1 (by omega), fun _ => HQ.out, by omega⟩, hbw.trans ((hb3.trans (hBc.mono hb3.size)).mono hbw.size)⟩
            case measure => simp [intOf]
    by_cases k2 : n = 2
    · subst k2
      have ix := idx2
      rw [HTV.out] at ix
      go_upto_region 4 with fail
      obtain ⟨w3, hw3⟩ : ∃ w3, wr.alloc (.cells #[.func (.func 92) #[] #[], .int .i64 0, .int .i64 2000, .func (.func 93) #[] #[]] 143) = w3 := ⟨_, rfl⟩
      rw [hw3]
      have hb3 : Below wr.heap.size wr w3 := hw3 ▸ below_alloc _ _
      have hB3 : Below w1.heap.size w1 w3 := hbw.trans (hb3.mono hbw.size)
      have t0 : w3.cell? ⟨wr.heap.size, 0, none⟩ = some (.func (.func 92) #[] #[]) := hw3 ▸ cell_new _ _ _ _ _ rfl
      have t3 : w3.cell? ⟨wr.heap.size, 3, none⟩ = some (.func (.func 93) #[] #[]) := hw3 ▸ cell_new _ _ _ _ _ rfl
      have hx3 := hxr.later hb3
      have hy3 := hyr.later hb3
      have g4 := cell_later hb3 f4
      have g5 := cell_later hb3 f5
      have g6 := cell_later hb3 f6
      have g7 := cell_later hb3 f7
      clear hw3 hxr hyr f4 f5 f6 f7 ix
      go_cut [11, 12, 13] (fun s11 s12 s13 wx => ∃ q1 q2, s11 = .pointer (some ⟨q1, 0, none⟩) ∧ s12 = .pointer (some ⟨q2, 0, none⟩) ∧ s13 = .int .i64 0 ∧ wx.cell? ⟨q1, 0, none⟩ = some (.int .i64 x.b.lo) ∧ wx.cell? ⟨q1, 1, none⟩ = some (.int .i64 x.b.hi) ∧
        wx.cell? ⟨q2, 0, none⟩ = some (.int .i64 y.b.lo) ∧ wx.cell? ⟨q2, 1, none⟩ = some (.int .i64 y.b.hi) ∧ Below w3.heap.size w3 wx)
      case first =>
        obtain ⟨x0, x1, x2, x3, x4, x5, x6⟩ := hx3
        obtain ⟨y0, y1, y2, y3, y4, y5, y6⟩ := hy3
        have X0 := held x0 (Nat.le_refl _)
        have X1 := held x1 (Nat.le_refl _)
        have X2 := held x2 (Nat.le_refl _)
        have X3 := held x3 (Nat.le_refl _)
        have X4 := held x4 (Nat.le_refl _)
        have X5 := held x5 (Nat.le_refl _)
        have X6 := held x6 (Nat.le_refl _)
        have Y0 := held y0 (Nat.le_refl _)
        have Y1 := held y1 (Nat.le_refl _)
        have Y2 := held y2 (Nat.le_refl _)
        have Y3 := held y3 (Nat.le_refl _)
        have Y4 := held y4 (Nat.le_refl _)
        have Y5 := held y5 (Nat.le_refl _)
        have Y6 := held y6 (Nat.le_refl _)
        have G4 := held g4 (Nat.le_refl _)
        have G5 := held g5 (Nat.le_refl _)
        have G6 := held g6 (Nat.le_refl _)
        have G7 := held g7 (Nat.le_refl _)
        have T0 := held t0 (Nat.le_refl _)
        have T3 := held t3 (Nat.le_refl _)
        clear x0 x1 x2 x3 x4 x5 x6 y0 y1 y2 y3 y4 y5 y6 g4 g5 g6 g7 t0 t3 hbw hB3 hb3 hB1 hxs hys e4 e5 e6 e7 hbf hbs
        refine wp_region_mix (S := fun W => Below w3.heap.size w3 W) 31 (by kernel_rfl) (by kernel_rfl) (Below.refl _ _).drew (fun hHeld => ?_)
        refine wpAnyH_takeD 0 18 (v := ?_) (by kernel_rfl) (by kernel_rfl) (by kernel_rfl) (by kernel_rfl) (fun _ _ _ h => h) ?_ (by assumption) ?_
        rotate_left
        · intro oi hoi w hSw; (try dsimp only at hSw); simp only [List.getElem?_toArray, List.getElem?_cons_zero, List.getElem?_cons_succ, Option.some.injEq] at hoi; subst hoi; go_simp; try with_reducible rfl
        simp only [Act.put, List.setIfInBounds_toArray, List.set_cons_zero, List.set_cons_succ]
        refine wpAnyH_takeD 1 19 (v := ?_) (by kernel_rfl) (by kernel_rfl) (by kernel_rfl) (by kernel_rfl) (fun _ _ _ h => h) ?_ (by assumption) ?_
        rotate_left
        · intro oi hoi w hSw; (try dsimp only at hSw); simp only [List.getElem?_toArray, List.getElem?_cons_zero, List.getElem?_cons_succ, Option.some.injEq] at hoi; subst hoi; go_simp; try with_reducible rfl
        simp only [Act.put, List.setIfInBounds_toArray, List.set_cons_zero, List.set_cons_succ]
        refine wpAnyH_takeD 2 20 (v := ?_) (by kernel_rfl) (by kernel_rfl) (by kernel_rfl) (by kernel_rfl) (fun _ _ _ h => h) ?_ (by assumption) ?_
        rotate_left
        · intro oi hoi w hSw; (try dsimp only at hSw); simp only [List.getElem?_toArray, List.getElem?_cons_zero, List.getElem?_cons_succ, Option.some.injEq] at hoi; subst hoi; go_simp; try with_reducible rfl
        simp only [Act.put, List.setIfInBounds_toArray, List.set_cons_zero, List.set_cons_succ]
        refine wpAnyH_takeD 3 21 (v := ?_) (by kernel_rfl) (by kernel_rfl) (by kernel_rfl) (by kernel_rfl) (fun _ _ _ h => h) ?_ (by assumption) ?_
        rotate_left
        · intro oi hoi w hSw; (try dsimp only at hSw); simp only [List.getElem?_toArray, List.getElem?_cons_zero, List.getElem?_cons_succ, Option.some.injEq] at hoi; subst hoi; go_simp; try with_reducible rfl
        simp only [Act.put, List.setIfInBounds_toArray, List.set_cons_zero, List.set_cons_succ]
        refine wpAnyH_takeD 4 22 (v := ?_) (by kernel_rfl) (by kernel_rfl) (by kernel_rfl) (by kernel_rfl) (fun _ _ _ h => h) ?_ (by assumption) ?_
        rotate_left
        · intro oi hoi w hSw; (try dsimp only at hSw); simp only [List.getElem?_toArray, List.getElem?_cons_zero, List.getElem?_cons_succ, Option.some.injEq] at hoi; subst hoi; go_simp; try with_reducible rfl
        simp only [Act.put, List.setIfInBounds_toArray, List.set_cons_zero, List.set_cons_succ]
        refine wpAnyH_takeD 5 23 (v := ?_) (by kernel_rfl) (by kernel_rfl) (by kernel_rfl) (by kernel_rfl) (fun _ _ _ h => h) ?_ (by assumption) ?_
        rotate_left
        · intro oi hoi w hSw; (try dsimp only at hSw); simp only [List.getElem?_toArray, List.getElem?_cons_zero, List.getElem?_cons_succ, Option.some.injEq] at hoi; subst hoi; go_simp; try with_reducible rfl
        simp only [Act.put, List.setIfInBounds_toArray, List.set_cons_zero, List.set_cons_succ]
        refine wpAnyH_takeD 6 24 (v := ?_) (by kernel_rfl) (by kernel_rfl) (by kernel_rfl) (by kernel_rfl) (fun _ _ _ h => h) ?_ (by assumption) ?_
        rotate_left
        · intro oi hoi w hSw; (try dsimp only at hSw); simp only [List.getElem?_toArray, List.getElem?_cons_zero, List.getElem?_cons_succ, Option.some.injEq] at hoi; subst hoi; go_simp; try with_reducible rfl
        simp only [Act.put, List.setIfInBounds_toArray, List.set_cons_zero, List.set_cons_succ]
        refine wpAnyH_takeD 7 25 (v := ?_) (by kernel_rfl) (by kernel_rfl) (by kernel_rfl) (by kernel_rfl) (fun _ _ _ h => h) ?_ (by assumption) ?_
        rotate_left
        · intro oi hoi w hSw; (try dsimp only at hSw); simp only [List.getElem?_toArray, List.getElem?_cons_zero, List.getElem?_cons_succ, Option.some.injEq] at hoi; subst hoi; go_simp; try with_reducible rfl
        simp only [Act.put, List.setIfInBounds_toArray, List.set_cons_zero, List.set_cons_succ]
        refine wpAnyH_takeD 8 26 (v := ?_) (by kernel_rfl) (by kernel_rfl) (by kernel_rfl) (by kernel_rfl) (fun _ _ _ h => h) ?_ (by assumption) ?_
        rotate_left
        · intro oi hoi w hSw; (try dsimp only at hSw); simp only [List.getElem?_toArray, List.getElem?_cons_zero, List.getElem?_cons_succ, Option.some.injEq] at hoi; subst hoi; go_simp; try with_reducible rfl
        simp only [Act.put, List.setIfInBounds_toArray, List.set_cons_zero, List.set_cons_succ]
        refine wpAnyH_takeD 9 27 (v := ?_) (by kernel_rfl) (by kernel_rfl) (by kernel_rfl) (by kernel_rfl) (fun _ _ _ h => h) ?_ (by assumption) ?_
        rotate_left
        · intro oi hoi w hSw; (try dsimp only at hSw); simp only [List.getElem?_toArray, List.getElem?_cons_zero, List.getElem?_cons_succ, Option.some.injEq] at hoi; subst hoi; go_simp; try with_reducible rfl
        simp only [Act.put, List.setIfInBounds_toArray, List.set_cons_zero, List.set_cons_succ]
        refine wpAnyH_takeD 11 29 (v := ?_) (by kernel_rfl) (by kernel_rfl) (by kernel_rfl) (by kernel_rfl) (fun _ _ _ h => h) ?_ (by assumption) ?_
        rotate_left
        · intro oi hoi w hSw; (try dsimp only at hSw); simp only [List.getElem?_toArray, List.getElem?_cons_zero, List.getElem?_cons_succ, Option.some.injEq] at hoi; subst hoi; go_simp; try with_reducible rfl
        simp only [Act.put, List.setIfInBounds_toArray, List.set_cons_zero, List.set_cons_succ]
        refine wpAnyH_takeD 12 30 (v := ?_) (by kernel_rfl) (by kernel_rfl) (by kernel_rfl) (by kernel_rfl) (fun _ _ _ h => h) ?_ (by assumption) ?_
        rotate_left
        · intro oi hoi w hSw; (try dsimp only at hSw); simp only [List.getElem?_toArray, List.getElem?_cons_zero, List.getElem?_cons_succ, Option.some.injEq] at hoi; subst hoi; go_simp; try with_reducible rfl
        simp only [Act.put, List.setIfInBounds_toArray, List.set_cons_zero, List.set_cons_succ]
        refine wpAnyH_takeD 13 31 (v := ?_) (by kernel_rfl) (by kernel_rfl) (by kernel_rfl) (by kernel_rfl) (fun _ _ _ h => h) ?_ (by assumption) ?_
        rotate_left
        · intro oi hoi w hSw; (try dsimp only at hSw); simp only [List.getElem?_toArray, List.getElem?_cons_zero, List.getElem?_cons_succ, Option.some.injEq] at hoi; subst hoi; go_simp; try with_reducible rfl
        simp only [Act.put, List.setIfInBounds_toArray, List.set_cons_zero, List.set_cons_succ]
        refine wpAnyH_takeD 14 32 (v := ?_) (by kernel_rfl) (by kernel_rfl) (by kernel_rfl) (by kernel_rfl) (fun _ _ _ h => h) ?_ (by assumption) ?_
        rotate_left
        · intro oi hoi w hSw; (try dsimp only at hSw); simp only [List.getElem?_toArray, List.getElem?_cons_zero, List.getElem?_cons_succ, Option.some.injEq] at hoi; subst hoi; go_simp; try with_reducible rfl
        simp only [Act.put, List.setIfInBounds_toArray, List.set_cons_zero, List.set_cons_succ]
        refine wpAnyH_takeD 15 33 (v := ?_) (by kernel_rfl) (by kernel_rfl) (by kernel_rfl) (by kernel_rfl) (fun _ _ _ h => h) ?_ (by assumption) ?_
        rotate_left
        · intro oi hoi w hSw; (try dsimp only at hSw); simp only [List.getElem?_toArray, List.getElem?_cons_zero, List.getElem?_cons_succ, Option.some.injEq] at hoi; subst hoi; go_simp; try with_reducible rfl
        simp only [Act.put, List.setIfInBounds_toArray, List.set_cons_zero, List.set_cons_succ]
        refine wpAnyH_takeD 16 34 (v := ?_) (by kernel_rfl) (by kernel_rfl) (by kernel_rfl) (by kernel_rfl) (fun _ _ _ h => h) ?_ (by assumption) ?_
        rotate_left
        · intro oi hoi w hSw; (try dsimp only at hSw); simp only [List.getElem?_toArray, List.getElem?_cons_zero, List.getElem?_cons_succ, Option.some.injEq] at hoi; subst hoi; go_simp; try with_reducible rfl
        simp only [Act.put, List.setIfInBounds_toArray, List.set_cons_zero, List.set_cons_succ]
        refine wpAnyH_takeD 17 35 (v := ?_) (by kernel_rfl) (by kernel_rfl) (by kernel_rfl) (by kernel_rfl) (fun _ _ _ h => h) ?_ (by assumption) ?_
        rotate_left
        · intro oi hoi w hSw; (try dsimp only at hSw); simp only [List.getElem?_toArray, List.getElem?_cons_zero, List.getElem?_cons_succ, Option.some.injEq] at hoi; subst hoi; go_simp; try with_reducible rfl
        simp only [Act.put, List.setIfInBounds_toArray, List.set_cons_zero, List.set_cons_succ]
        refine wpAnyH_takeD 18 36 (v := ?_) (by kernel_rfl) (by kernel_rfl) (by kernel_rfl) (by kernel_rfl) (fun _ _ _ h => h) ?_ (by assumption) ?_
        rotate_left
        · intro oi hoi w hSw; (try dsimp only at hSw); simp only [List.getElem?_toArray, List.getElem?_cons_zero, List.getElem?_cons_succ, Option.some.injEq] at hoi; subst hoi; go_simp; try with_reducible rfl
        simp only [Act.put, List.setIfInBounds_toArray, List.set_cons_zero, List.set_cons_succ]
        refine wpAnyH_takeD 19 37 (v := ?_) (by kernel_rfl) (by kernel_rfl) (by kernel_rfl) (by kernel_rfl) (fun _ _ _ h => h) ?_ (by assumption) ?_
        rotate_left
        · intro oi hoi w hSw; (try dsimp only at hSw); simp only [List.getElem?_toArray, List.getElem?_cons_zero, List.getElem?_cons_succ, Option.some.injEq] at hoi; subst hoi; go_simp; try with_reducible rfl
        simp only [Act.put, List.setIfInBounds_toArray, List.set_cons_zero, List.set_cons_succ]
        refine wpAnyH_takeD 20 38 (v := ?_) (by kernel_rfl) (by kernel_rfl) (by kernel_rfl) (by kernel_rfl) (fun _ _ _ h => h) ?_ (by assumption) ?_
        rotate_left
        · intro oi hoi w hSw; (try dsimp only at hSw); simp only [List.getElem?_toArray, List.getElem?_cons_zero, List.getElem?_cons_succ, Option.some.injEq] at hoi; subst hoi; go_simp; try with_reducible rfl
        simp only [Act.put, List.setIfInBounds_toArray, List.set_cons_zero, List.set_cons_succ]
        refine wpAnyH_takeD 22 40 (v := ?_) (by kernel_rfl) (by kernel_rfl) (by kernel_rfl) (by kernel_rfl) (fun _ _ _ h => h) ?_ (by assumption) ?_
        rotate_left
        · intro oi hoi w hSw; (try dsimp only at hSw); simp only [List.getElem?_toArray, List.getElem?_cons_zero, List.getElem?_cons_succ, Option.some.injEq] at hoi; subst hoi; go_simp; try with_reducible rfl
        simp only [Act.put, List.setIfInBounds_toArray, List.set_cons_zero, List.set_cons_succ]
        refine wpAnyH_takeD 23 41 (v := ?_) (by kernel_rfl) (by kernel_rfl) (by kernel_rfl) (by kernel_rfl) (fun _ _ _ h => h) ?_ (by assumption) ?_
        rotate_left
        · intro oi hoi w hSw; (try dsimp only at hSw); simp only [List.getElem?_toArray, List.getElem?_cons_zero, List.getElem?_cons_succ, Option.some.injEq] at hoi; subst hoi; go_simp; try with_reducible rfl
        simp only [Act.put, List.setIfInBounds_toArray, List.set_cons_zero, List.set_cons_succ]
        refine wpAnyH_takeD 24 42 (v := ?_) (by kernel_rfl) (by kernel_rfl) (by kernel_rfl) (by kernel_rfl) (fun _ _ _ h => h) ?_ (by assumption) ?_
        rotate_left
        · intro oi hoi w hSw; (try dsimp only at hSw); simp only [List.getElem?_toArray, List.getElem?_cons_zero, List.getElem?_cons_succ, Option.some.injEq] at hoi; subst hoi; go_simp; try with_reducible rfl
        simp only [Act.put, List.setIfInBounds_toArray, List.set_cons_zero, List.set_cons_succ]
        refine wpAnyH_mix
          [⟨10, 28, 92, #[.agg #[.int .i64 x.e.lo, .int .i64 x.e.hi, .int .i64 x.n.lo, .int .i64 x.n.hi, .int .i64 x.b.lo, .int .i64 x.b.hi, .bool x.sure]], .agg #[.int .i64 x.b.lo, .int .i64 x.b.hi]⟩,
           ⟨21, 39, 92, #[.agg #[.int .i64 y.e.lo, .int .i64 y.e.hi, .int .i64 y.n.lo, .int .i64 y.n.hi, .int .i64 y.b.lo, .int .i64 y.b.hi, .bool y.sure]], .agg #[.int .i64 y.b.lo, .int .i64 y.b.hi]⟩,
           ⟨25, 43, 93, #[.agg #[.int .i64 s.1, .int .i64 s.2]], .int .i64 0⟩]
          [⟨26, 11, .cells #[.int .i64 0, .int .i64 0] 23⟩, ⟨27, 12, .cells #[.int .i64 0, .int .i64 0] 23⟩] _ _ _ w3.heap.size 3 (by kernel_rfl) (by decide) (by kernel_rfl) (by kernel_rfl) ?mcall ?mnew hHeld (fun W h => h.size) ?mrest
        case mcall =>
          intro k c hk
          match k, hk with
          | 0, hk =>
            cases hk
            exact ⟨fun o ho W => (by simp only [List.getElem?_toArray, List.getElem?_cons_zero, List.getElem?_cons_succ, Option.some.injEq] at ho; subst ho; simp only [callPuts, List.take_succ_cons, List.take_zero, List.foldl_cons, List.foldl_nil, Act.put, List.setIfInBounds_toArray, List.set_cons_zero, List.set_cons_succ]; go_simp), fun W hW => (trait5 _ _ _ _ _ _ _ W).mono fun _ _ ⟨he, hb⟩ => ⟨he, hW.trans (hb.mono hW.size), hb⟩⟩
          | 1, hk =>
            cases hk
            exact ⟨fun o ho W => (by simp only [List.getElem?_toArray, List.getElem?_cons_zero, List.getElem?_cons_succ, Option.some.injEq] at ho; subst ho; simp only [callPuts, List.take_succ_cons, List.take_zero, List.foldl_cons, List.foldl_nil, Act.put, List.setIfInBounds_toArray, List.set_cons_zero, List.set_cons_succ]; go_simp), fun W hW => (trait5 _ _ _ _ _ _ _ W).mono fun _ _ ⟨he, hb⟩ => ⟨he, hW.trans (hb.mono hW.size), hb⟩⟩
          | 2, hk =>
            cases hk
            exact ⟨fun o ho W => (by simp only [List.getElem?_toArray, List.getElem?_cons_zero, List.getElem?_cons_succ, Option.some.injEq] at ho; subst ho; simp only [callPuts, List.take_succ_cons, List.take_zero, List.foldl_cons, List.foldl_nil, Act.put, List.setIfInBounds_toArray, List.set_cons_zero, List.set_cons_succ]; go_simp), fun W hW => (trait6x _ _ W).mono fun _ _ ⟨he, hb⟩ => ⟨he, by rw [hb]; exact ⟨hW.alloc hW.size _, below_alloc _ _⟩⟩⟩
          | n + 3, hk => simp at hk
        case mnew =>
          intro z hz
          simp only [List.mem_cons, List.not_mem_nil, or_false] at hz
          rcases hz with rfl | rfl <;> exact ⟨fun o ho a W => (by simp only [List.getElem?_toArray, List.getElem?_cons_zero, List.getElem?_cons_succ, Option.some.injEq] at ho; subst ho; go_simp), fun W hW => hW.alloc hW.size _⟩
        case mrest =>
          intro qs W hl hS hF
          match qs, hl with
          | [q1, q2], _ =>
            obtain ⟨b1, z1⟩ := hF.at' 0 _ q1 rfl rfl
            obtain ⟨b2, z2⟩ := hF.at' 1 _ q2 rfl rfl
            have hne : q1 ≠ q2 := fun e => absurd (hF.apart 0 1 q1 rfl (by rw [e]; rfl)) (by omega)
            have k1 := cell_block z1 0
            have k2 := cell_block z1 1
            have k3 := cell_block z2 0
            have k4 := cell_block z2 1
            have j1 := frozen_block z1 0
            have j2 := frozen_block z1 1
            have j3 := frozen_block z2 0
            have j4 := frozen_block z2 1
            simp only [List.getElem?_toArray, List.getElem?_cons_zero, List.getElem?_cons_succ] at k1 k2 k3 k4
            simp only [newPuts, callPuts, List.map_cons, List.map_nil, List.foldl_cons, List.foldl_nil, Act.put, List.setIfInBounds_toArray, List.set_cons_zero, List.set_cons_succ]
            have hne1 : ¬ q1 = q2 := hne
            have hne2 : ¬ q2 = q1 := fun e => hne e.symm
            refine wpAnyH_one 28 (by kernel_rfl) (by kernel_rfl) ?_
            intro o ho K hK
            simp only [List.getElem?_toArray, List.getElem?_cons_zero, List.getElem?_cons_succ, Option.some.injEq] at ho
            subst ho
            go_simp
            refine hK _ _ ((hS.setCell b1 _).setCell b1 _) (fun hS => ?_)
            clear hK K
            try simp only [Act.put, List.setIfInBounds_toArray, List.set_cons_zero, List.set_cons_succ]
            refine wpAnyH_one 29 (by kernel_rfl) (by kernel_rfl) ?_
            intro o ho K hK
            simp only [List.getElem?_toArray, List.getElem?_cons_zero, List.getElem?_cons_succ, Option.some.injEq] at ho
            subst ho
            go_simp
            refine hK _ _ ((hS.setCell b2 _).setCell b2 _) (fun hS => ?_)
            clear hK K
            try simp only [Act.put, List.setIfInBounds_toArray, List.set_cons_zero, List.set_cons_succ]
            refine wpAnyH_one 30 (by kernel_rfl) (by kernel_rfl) ?_
            intro o ho K hK
            simp only [List.getElem?_toArray, List.getElem?_cons_zero, List.getElem?_cons_succ, Option.some.injEq] at ho
            subst ho
            go_simp
            refine hK _ _ (hS) (fun hS => ?_)
            clear hK K
            try simp only [Act.put, List.setIfInBounds_toArray, List.set_cons_zero, List.set_cons_succ]
            refine wpAnyH_done (by kernel_rfl) ?_ _
            go_wp2_with fail
            go_meet
            have u1 := block_other (block_other (block_set (block_set z1 0 (.int .i64 x.b.lo)) 1 (.int .i64 x.b.hi)) hne1 0 (.int .i64 y.b.lo)) hne1 1 (.int .i64 y.b.hi)
            have u2 := block_set (block_set (block_other (block_other z2 hne2 0 (.int .i64 x.b.lo)) hne2 1 (.int .i64 x.b.hi)) 0 (.int .i64 y.b.lo)) 1 (.int .i64 y.b.hi)
            exact ⟨q1, q2, rfl, rfl, rfl, cell_block u1 0, cell_block u1 1, cell_block u2 0, cell_block u2 1, hS⟩
      case rest =>
        obtain ⟨q1, q2, rfl, rfl, rfl, v1, v2, v3, v4, hBc⟩ := hcut
        have hlx : x.b.lo ≤ x.b.hi := hbx.b2
        have hly : y.b.lo ≤ y.b.hi := hby.b2
        have hx1 := hbx.b1
        have hx2 := hbx.b3
        have hy1 := hby.b1
        have hy2 := hby.b3
        cases hq : meets x.b y.b 0
        · have HQ := Lib.hid hq
          clear hq hx3 hy3 g4 g5 g6 g7 t0 t3 hxs hys e4 e5 e6 e7
          have hm : y.b.hi + 0 < x.b.lo ∨ x.b.hi < y.b.lo + 0 := by
            have := HQ.out
            simp only [meets, Bool.and_eq_false_iff, decide_eq_false_iff_not] at this
            omega
          have hfin : Below w.heap.size w wc := hB1.trans ((hbw.trans ((hb3.trans (hBc.mono hb3.size)).mono hbw.size)).mono hB1.size)
          rcases hm with hm | hm
          all_goals
            go_wp2_with fail
            all_goals (go_ret; exact ⟨ret_bool (by simp [Ed.same, HQ.out]), hfin⟩)
        · have HQ := Lib.hid hq
          clear hq hx3 hy3 g4 g5 g6 g7 t0 t3 hxs hys e4 e5 e6 e7
          have hm1 : x.b.lo ≤ y.b.hi + 0 ∧ y.b.lo + 0 ≤ x.b.hi := by
            have := HQ.out
            simpa only [meets, Bool.and_eq_true, decide_eq_true_eq] using this
          obtain ⟨hm1, hm2⟩ := hm1
          go_wp2_with fail
          all_goals
            go_roundw
            case rel => exact ⟨3, by omega, by go_num, ⟨fun _ => HS.out.1 (by omega), fun _ => HS.out.2.1 (by omega), fun _ => HQ.out⟩, hbw.trans ((hb3.trans (hBc.mono hb3.size)).mono hbw.size)⟩
            case measure => simp [intOf]
    -- END OF ROUND 2
    obtain rfl : n = 3 := by omega
    go_wp2_with fail
    go_ret
    exact ⟨ret_bool (by simp [Ed.same, HS.out.1 (by omega), HS.out.2.1 (by omega), HS.out.2.2 (by omega)]), hB1.trans (hbw.mono hB1.size)⟩
end Go.Proofs.Ytjkegmjjhdmkiaa
