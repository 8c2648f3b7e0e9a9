/- Package border: shifts; whether two stars can be the same. -/
import Derived.Test.YtjkegmjjhdmkiaaB4
namespace Go.Proofs.Ytjkegmjjhdmkiaa
open Go.RowKit
set_option maxHeartbeats 1600000
set_option maxRecDepth 100000

theorem below_drew (w : World) : Below w.heap.size w w.drew := (Below.refl _ _).drew

theorem within_q (n lo hi : Int) (q : Bool) (h : (decide (lo ≤ n) && decide (n ≤ hi)) = q) (w : World) :
    Calls Try.prog 43 #[.int .i64 n, .int .i64 lo, .int .i64 hi] w fun e w' => e = .returned (.bool q) ∧ w' = w := by
  refine (within_any n lo hi w).mono ?_
  rintro e w' ⟨rfl, rfl⟩
  exact ⟨by rw [h], rfl⟩

abbrev ShS (p bs : Nat) (b : Bo) (s : Int × Int) (w0 w : World) : Prop :=
  w.cell? ⟨p, 0, none⟩ = some (.int .i64 b.e.lo) ∧ w.cell? ⟨p, 1, none⟩ = some (.int .i64 b.e.hi) ∧ w.cell? ⟨p, 2, none⟩ = some (.int .i64 b.n.lo) ∧ w.cell? ⟨p, 3, none⟩ = some (.int .i64 b.n.hi) ∧
  w.cell? ⟨bs, 0, none⟩ = some (.int .i64 s.1) ∧ w.cell? ⟨bs, 1, none⟩ = some (.int .i64 s.2) ∧ Below w0.heap.size w0 w
theorem ShS.keep {p bs : Nat} {b : Bo} {s : Int × Int} {w0 w w' : World} (h : ShS p bs b s w0 w) (hb : Below w.heap.size w w') : ShS p bs b s w0 w' := by
  obtain ⟨h0, h1, h2, h3, h4, h5, h8⟩ := h
  exact ⟨cell_later hb h0, cell_later hb h1, cell_later hb h2, cell_later hb h3, cell_later hb h4, cell_later hb h5, h8.trans (hb.mono h8.size)⟩

theorem isShift_any (p : Nat) (b : Bo) (fa sa : Option Addr) (fc sc : Nat) (s : Int × Int) (w : World) (h : BoAt w p b fa sa fc sc) :
    Calls Try.prog 44 #[.pointer (some ⟨p, 0, none⟩), .agg #[.int .i64 s.1, .int .i64 s.2]] w fun e w' => e = .returned (.bool (b.shift s)) ∧ Below w.heap.size w w' := by
  have hbs : b.shift s = (b.e.has s.1 && b.n.has s.2) := rfl
  have HB := Lib.hid hbs
  clear hbs
  go_enter Try.func44, Try.ntmps44
  go_wp2
  have hS0 : ShS p w.heap.size b s w (w.alloc (.cells #[.int .i64 s.1, .int .i64 s.2] 72)) :=
    have hb := below_alloc w (.cells #[.int .i64 s.1, .int .i64 s.2] 72)
    ⟨cell_later hb h.c0, cell_later hb h.c1, cell_later hb h.c2, cell_later hb h.c3, cell_new _ _ _ _ _ rfl, cell_new _ _ _ _ _ rfl, hb⟩
  obtain ⟨d0, d1, d2, d3, d4, d5, hB⟩ := hS0
  cases hq : (decide (b.e.lo ≤ s.1) && decide (s.1 ≤ b.e.hi))
  all_goals
    have HQ := Lib.hid hq
    clear hq
    go_quiet ((go_at_call 43; (first | (with_reducible exact Calls.quiet_of_same (within_q _ _ _ _ HQ.out _)) | (exact Calls.quiet_of_same (within_q _ _ _ _ rfl _)))))
    go_wp2
    go_ret
    exact ⟨ret_bool (by rw [HB.out]; unfold Sp.has; rw [HQ.out]; rfl), below_drewN hB _⟩
end Go.Proofs.Ytjkegmjjhdmkiaa
