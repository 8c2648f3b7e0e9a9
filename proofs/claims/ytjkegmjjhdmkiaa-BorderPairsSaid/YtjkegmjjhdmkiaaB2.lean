/- Package border: which stars are bad. -/
import Derived.Test.YtjkegmjjhdmkiaaB1
namespace Go.Proofs.Ytjkegmjjhdmkiaa
open Go.RowKit
set_option maxHeartbeats 800000

/-- A star in a box, and a trait in a box, still there. -/
abbrev BadS (bx bt : Nat) (x : Ed) (f : Value) (lo hi : Int) (w0 : World) (w : World) : Prop :=
  w.cell? ⟨bx, 0, none⟩ = some (.int .i64 x.e.lo) ∧ w.cell? ⟨bx, 1, none⟩ = some (.int .i64 x.e.hi) ∧ w.cell? ⟨bx, 2, none⟩ = some (.int .i64 x.n.lo) ∧ w.cell? ⟨bx, 3, none⟩ = some (.int .i64 x.n.hi) ∧
  w.cell? ⟨bx, 4, none⟩ = some (.int .i64 x.b.lo) ∧ w.cell? ⟨bx, 5, none⟩ = some (.int .i64 x.b.hi) ∧ w.cell? ⟨bx, 6, none⟩ = some (.bool x.sure) ∧
  w.cell? ⟨bt, 0, none⟩ = some f ∧ w.cell? ⟨bt, 1, none⟩ = some (.int .i64 lo) ∧ w.cell? ⟨bt, 2, none⟩ = some (.int .i64 hi) ∧ Below w0.heap.size w0 w

theorem BadS.keep {bx bt : Nat} {x : Ed} {f : Value} {lo hi : Int} {w0 w w' : World} (h : BadS bx bt x f lo hi w0 w) (hb : Below w.heap.size w w') : BadS bx bt x f lo hi w0 w' := by
  obtain ⟨h0, h1, h2, h3, h4, h5, h6, h7, h8, h9, h10⟩ := h
  exact ⟨cell_later hb h0, cell_later hb h1, cell_later hb h2, cell_later hb h3, cell_later hb h4, cell_later hb h5, cell_later hb h6, cell_later hb h7, cell_later hb h8, cell_later hb h9, h10.trans (hb.mono h10.size)⟩

theorem isBad1_1 (x : Ed) (bx : Nat) (w : World) (hx : EdAt w bx 0 x) :
    Calls Try.prog 84 #[.agg #[.func (.func 88) #[] #[], Value.int .i64 (-1048576), Value.int .i64 1048576, .func (.func 89) #[] #[]], .pointer (some ⟨bx, 0, none⟩)] w
      fun e w' => e = .returned (.bool (!x.e.ok (-1048576) 1048576)) ∧ Below w.heap.size w w' := by
  obtain ⟨c0, c1, c2, c3, c4, c5, c6⟩ := hx
  go_enter Try.func84, Try.ntmps84
  go_wp2
  go_region_held3 (BadS bx w.heap.size x (.func (.func 88) #[] #[]) (-1048576) 1048576 w)
    (first | exact BadS.keep (by assumption) (by assumption) | (have hB0 := ((Below.refl w.heap.size w).alloc (Nat.le_refl _) (.cells #[.func (.func 88) #[] #[], Value.int .i64 (-1048576), Value.int .i64 1048576, .func (.func 89) #[] #[]] 143)).drew; refine ⟨?_, ?_, ?_, ?_, ?_, ?_, ?_, ?_, ?_, ?_, hB0⟩ <;> go_keep))
    (first | (go_at_call 88; refine (trait1 _ _ _ _ _ _ _ _).mono ?_; rintro e w' ⟨rfl, hb⟩) | (go_at_call 67; refine (isSpan_any x.e _ _ _).mono ?_; rintro e w' ⟨rfl, hb⟩))
  rename_i hS
  have hB := hS.2.2.2.2.2.2.2.2.2.2
  clear hS
  go_wp2
  go_ret
  exact ⟨rfl, hB⟩

theorem isBad1_2 (x : Ed) (bx : Nat) (w : World) (hx : EdAt w bx 0 x) :
    Calls Try.prog 84 #[.agg #[.func (.func 90) #[] #[], Value.int .i64 (-1048576), Value.int .i64 1048576, .func (.func 91) #[] #[]], .pointer (some ⟨bx, 0, none⟩)] w
      fun e w' => e = .returned (.bool (!x.n.ok (-1048576) 1048576)) ∧ Below w.heap.size w w' := by
  obtain ⟨c0, c1, c2, c3, c4, c5, c6⟩ := hx
  go_enter Try.func84, Try.ntmps84
  go_wp2
  go_region_held3 (BadS bx w.heap.size x (.func (.func 90) #[] #[]) (-1048576) 1048576 w)
    (first | exact BadS.keep (by assumption) (by assumption) | (have hB0 := ((Below.refl w.heap.size w).alloc (Nat.le_refl _) (.cells #[.func (.func 90) #[] #[], Value.int .i64 (-1048576), Value.int .i64 1048576, .func (.func 91) #[] #[]] 143)).drew; refine ⟨?_, ?_, ?_, ?_, ?_, ?_, ?_, ?_, ?_, ?_, hB0⟩ <;> go_keep))
    (first | (go_at_call 90; refine (trait3 _ _ _ _ _ _ _ _).mono ?_; rintro e w' ⟨rfl, hb⟩) | (go_at_call 67; refine (isSpan_any x.n _ _ _).mono ?_; rintro e w' ⟨rfl, hb⟩))
  rename_i hS
  have hB := hS.2.2.2.2.2.2.2.2.2.2
  clear hS
  go_wp2
  go_ret
  exact ⟨rfl, hB⟩

theorem isBad1_3 (x : Ed) (bx : Nat) (w : World) (hx : EdAt w bx 0 x) :
    Calls Try.prog 84 #[.agg #[.func (.func 92) #[] #[], Value.int .i64 0, Value.int .i64 2000, .func (.func 93) #[] #[]], .pointer (some ⟨bx, 0, none⟩)] w
      fun e w' => e = .returned (.bool (!x.b.ok 0 2000)) ∧ Below w.heap.size w w' := by
  obtain ⟨c0, c1, c2, c3, c4, c5, c6⟩ := hx
  go_enter Try.func84, Try.ntmps84
  go_wp2
  go_region_held3 (BadS bx w.heap.size x (.func (.func 92) #[] #[]) 0 2000 w)
    (first | exact BadS.keep (by assumption) (by assumption) | (have hB0 := ((Below.refl w.heap.size w).alloc (Nat.le_refl _) (.cells #[.func (.func 92) #[] #[], Value.int .i64 0, Value.int .i64 2000, .func (.func 93) #[] #[]] 143)).drew; refine ⟨?_, ?_, ?_, ?_, ?_, ?_, ?_, ?_, ?_, ?_, hB0⟩ <;> go_keep))
    (first | (go_at_call 92; refine (trait5 _ _ _ _ _ _ _ _).mono ?_; rintro e w' ⟨rfl, hb⟩) | (go_at_call 67; refine (isSpan_any x.b _ _ _).mono ?_; rintro e w' ⟨rfl, hb⟩))
  rename_i hS
  have hB := hS.2.2.2.2.2.2.2.2.2.2
  clear hS
  go_wp2
  go_ret
  exact ⟨rfl, hB⟩

/-- The cells of a trait. -/
structure TrAt (w : World) (b o : Nat) (f g : Value) (lo hi : Int) : Prop where
  c0 : w.cell? ⟨b, o, none⟩ = some f
  c1 : w.cell? ⟨b, o+1, none⟩ = some (.int .i64 lo)
  c2 : w.cell? ⟨b, o+2, none⟩ = some (.int .i64 hi)
  c3 : w.cell? ⟨b, o+3, none⟩ = some g
theorem TrAt.later {w w' : World} {b o : Nat} {f g : Value} {lo hi : Int} (h : TrAt w b o f g lo hi) (hb : Below w.heap.size w w') : TrAt w' b o f g lo hi :=
  ⟨cell_later hb h.c0, cell_later hb h.c1, cell_later hb h.c2, cell_later hb h.c3⟩
theorem EdAt.later {w w' : World} {b o : Nat} {x : Ed} (h : EdAt w b o x) (hb : Below w.heap.size w w') : EdAt w' b o x :=
  ⟨cell_later hb h.c0, cell_later hb h.c1, cell_later hb h.c2, cell_later hb h.c3, cell_later hb h.c4, cell_later hb h.c5, cell_later hb h.c6⟩
structure TrsAt (w : World) (bt : Nat) : Prop where
  t0 : TrAt w bt 0 (.func (.func 88) #[] #[]) (.func (.func 89) #[] #[]) (-1048576) 1048576
  t1 : TrAt w bt 4 (.func (.func 90) #[] #[]) (.func (.func 91) #[] #[]) (-1048576) 1048576
  t2 : TrAt w bt 8 (.func (.func 92) #[] #[]) (.func (.func 93) #[] #[]) 0 2000
theorem TrsAt.later {w w' : World} {bt : Nat} (h : TrsAt w bt) (hb : Below w.heap.size w w') : TrsAt w' bt := ⟨h.t0.later hb, h.t1.later hb, h.t2.later hb⟩

/-- Which trait is bad first. -/
def badTrait (x : Ed) : Int := if x.e.ok (-1048576) 1048576 then if x.n.ok (-1048576) 1048576 then if x.b.ok 0 2000 then -1 else 2 else 1 else 0

theorem indexTr (x : Ed) (bt bx : Nat) (w : World) (ht : TrsAt w bt) (hx : EdAt w bx 0 x) :
    Calls Try.prog 94 #[.slice (some ⟨bt, 0, none⟩) 3 3, .func (.func 84) #[] #[.pointer (some ⟨bx, 0, none⟩)]] w
      fun e w' => e = .returned (.int .i64 (badTrait x)) ∧ Below w.heap.size w w' := by
  go_enter Try.func94, Try.ntmps94
  go_wp2
  go_loopw [4, 5, 8] (fun _ _ i wr => ∃ k : Nat, k ≤ 3 ∧ i = .int .i64 k ∧ (0 < k → x.e.ok (-1048576) 1048576 = true) ∧ (1 < k → x.n.ok (-1048576) 1048576 = true) ∧ (2 < k → x.b.ok 0 2000 = true) ∧ Below w.heap.size w wr) (fun _ _ i _ => 3 - (intOf i).toNat)
  case atStart => exact ⟨0, by omega, rfl, by omega, by omega, by omega, Below.refl _ _⟩
  case round =>
    rename_i wr
    obtain ⟨k, hk, rfl, h0, h1, h2, hbw⟩ := hrel
    have H0 := Lib.hid h0
    have H1 := Lib.hid h1
    have H2 := Lib.hid h2
    clear h0 h1 h2
    have hx' := hx.later hbw
    have ht' := ht.later hbw
    by_cases k0 : k = 0
    · subst k0
      obtain ⟨d0, d1, d2, d3⟩ := ht'.t0
      cases hq : x.e.ok (-1048576) 1048576
      all_goals
        have Hq := Lib.hid hq
        clear hq
        go_wp2_with (go_at_call 84; refine (isBad1_1 x bx _ hx').mono ?_; rintro e w' ⟨rfl, hb⟩; rw [Hq.out]; dsimp only [Bool.not_false, Bool.not_true])
      · go_ret
        exact ⟨ret_int (by simp [badTrait, Hq.out]), hbw.trans (hb.mono hbw.size)⟩
      · go_roundw
        case rel => exact ⟨1, by omega, by go_num, by simp, by omega, by omega, hbw.trans (hb.mono hbw.size)⟩
        case measure => simp [intOf]
    by_cases k1 : k = 1
    · subst k1
      obtain ⟨d0, d1, d2, d3⟩ := ht'.t1
      cases hq : x.n.ok (-1048576) 1048576
      all_goals
        have Hq := Lib.hid hq
        clear hq
        go_wp2_with (go_at_call 84; refine (isBad1_2 x bx _ hx').mono ?_; rintro e w' ⟨rfl, hb⟩; rw [Hq.out]; dsimp only [Bool.not_false, Bool.not_true])
      · go_ret
        exact ⟨ret_int (by simp [badTrait, Hq.out, H0.out]), hbw.trans (hb.mono hbw.size)⟩
      · go_roundw
        case rel => exact ⟨2, by omega, by go_num, fun _ => H0.out (by omega), by simp, by omega, hbw.trans (hb.mono hbw.size)⟩
        case measure => simp [intOf]
    by_cases k2 : k = 2
    · subst k2
      obtain ⟨d0, d1, d2, d3⟩ := ht'.t2
      cases hq : x.b.ok 0 2000
      all_goals
        have Hq := Lib.hid hq
        clear hq
        go_wp2_with (go_at_call 84; refine (isBad1_3 x bx _ hx').mono ?_; rintro e w' ⟨rfl, hb⟩; rw [Hq.out]; dsimp only [Bool.not_false, Bool.not_true])
      · go_ret
        exact ⟨ret_int (by simp [badTrait, Hq.out, H0.out, H1.out]), hbw.trans (hb.mono hbw.size)⟩
      · go_roundw
        case rel => exact ⟨3, by omega, by go_num, fun _ => H0.out (by omega), fun _ => H1.out (by omega), by simp, hbw.trans (hb.mono hbw.size)⟩
        case measure => simp [intOf]
    obtain rfl : k = 3 := by omega
    go_wp2
    go_ret
    exact ⟨ret_int (by simp [badTrait, H0.out, H1.out, H2.out]), hbw⟩

end Go.Proofs.Ytjkegmjjhdmkiaa
