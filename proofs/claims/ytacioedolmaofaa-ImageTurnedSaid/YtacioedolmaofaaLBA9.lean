/- The reference's Sheet. The closure that takes a fade back; traits. -/
import Derived.Test.YtacioedolmaofaaLBA8
import Derived.Test.YtacioedolmaofaaLBA7
import Derived.BigRegion
namespace Go.Proofs.Ytacioedolmaofaa
open Go.RowKit Go.Shelf
set_option maxHeartbeats 6400000
set_option maxRecDepth 100000
set_option linter.unusedSimpArgs false
set_option linter.unusedVariables false

def okTo (l : List ISpot) (k : Nat) : Prop := ∀ x ∈ l.take k, x.ok = true
theorem okTo_succ {l : List ISpot} {k : Nat} (h : k < l.length) (ho : okTo l k) (hx : l[k].ok = true) : okTo l (k + 1) := by
  unfold okTo at *
  rw [List.take_succ_eq_append_getElem h]
  intro x hm
  rcases List.mem_append.1 hm with hm | hm
  · exact ho x hm
  · rw [List.mem_singleton] at hm; rw [hm]; exact hx
theorem not_all {l : List ISpot} {k : Nat} (h : k < l.length) (hx : l[k].ok = false) : l.all ISpot.ok = false := by
  rw [List.all_eq_false]
  exact ⟨l[k], List.getElem_mem h, by rw [hx]; simp⟩

theorem irSheet_any (s : ISheet) (fa : Option Addr) (fc : Nat) (w : World) (hl : ImSl w fa s.l) (hlen : s.l.length < 9223372036854775807) :
    Calls Try.prog 35 #[.agg #[.int .i64 s.ax.lo, .int .i64 s.ax.hi, .int .i64 s.ay.lo, .int .i64 s.ay.hi, .int .i64 s.bx.lo, .int .i64 s.bx.hi, .int .i64 s.by'.lo, .int .i64 s.by'.hi, .int .i64 s.f.lo, .int .i64 s.f.hi, .int .i64 s.g.lo, .int .i64 s.g.hi, .int .i64 s.limit, .int .i64 s.flaws, .slice fa s.l.length fc]] w fun e w' => e = .returned (.bool s.ok) ∧ Below w.heap.size w w' := by
  obtain ⟨p0, hp0⟩ : ∃ p, s.ax.ok (-1048576) 1048576 = p := ⟨_, rfl⟩
  obtain ⟨p1, hp1⟩ : ∃ p, s.ay.ok (-1048576) 1048576 = p := ⟨_, rfl⟩
  obtain ⟨p2, hp2⟩ : ∃ p, s.f.ok 0 1000 = p := ⟨_, rfl⟩
  obtain ⟨p3, hp3⟩ : ∃ p, s.bx.ok (-1048576) 1048576 = p := ⟨_, rfl⟩
  obtain ⟨p4, hp4⟩ : ∃ p, s.by'.ok (-1048576) 1048576 = p := ⟨_, rfl⟩
  obtain ⟨p5, hp5⟩ : ∃ p, s.g.ok 0 1000 = p := ⟨_, rfl⟩
  obtain ⟨pl, hpl⟩ : ∃ p, s.l.all ISpot.ok = p := ⟨_, rfl⟩
  have hok : s.ok = (p0 && p1 && p2 && (p3 && p4 && p5) && pl && (decide (0 ≤ s.limit) && decide (s.limit ≤ 1000)) && (decide (0 ≤ s.flaws) && decide (s.flaws ≤ 9)) && decide (s.l.length ≤ 9)) := by rw [← hp0, ← hp1, ← hp2, ← hp3, ← hp4, ← hp5, ← hpl]; rfl
  have HOK := Lib.hid hok
  have Hp0 := Lib.hid hp0
  have Hp1 := Lib.hid hp1
  have Hp2 := Lib.hid hp2
  have Hp3 := Lib.hid hp3
  have Hp4 := Lib.hid hp4
  have Hp5 := Lib.hid hp5
  have Hpl := Lib.hid hpl
  clear hok hp0 hp1 hp2 hp3 hp4 hp5 hpl
  have hli : (s.l.length : Int) < 9223372036854775807 := by omega
  go_enter Try.func35, Try.ntmps35
  go_wp2_with fail
  obtain ⟨W0, hW0⟩ : ∃ W, (w.alloc (.cells #[.int .i64 s.ax.lo, .int .i64 s.ax.hi, .int .i64 s.ay.lo, .int .i64 s.ay.hi, .int .i64 s.bx.lo, .int .i64 s.bx.hi, .int .i64 s.by'.lo, .int .i64 s.by'.hi, .int .i64 s.f.lo, .int .i64 s.f.hi, .int .i64 s.g.lo, .int .i64 s.g.hi, .int .i64 s.limit, .int .i64 s.flaws, .slice fa s.l.length fc] 30)) = W := ⟨_, rfl⟩
  rw [hW0]
  try simp only [Nat.add_assoc, Nat.reduceAdd]
  have hst_W0 : Steps (fun _ => False) w W0 := by rw [← hW0]; exact Steps.alloc _ w _
  have hz_W0 : W0.heap.size = w.heap.size + 1 := by rw [← hW0]; simp
  have g0_W0 : W0.heap[w.heap.size]? = some (.cells #[.int .i64 s.ax.lo, .int .i64 s.ax.hi, .int .i64 s.ay.lo, .int .i64 s.ay.hi, .int .i64 s.bx.lo, .int .i64 s.bx.hi, .int .i64 s.by'.lo, .int .i64 s.by'.hi, .int .i64 s.f.lo, .int .i64 s.f.hi, .int .i64 s.g.lo, .int .i64 s.g.hi, .int .i64 s.limit, .int .i64 s.flaws, .slice fa s.l.length fc] 30) := by rw [← hW0]; simp only [alloc_get, World.size_alloc]; repeat (first | exact if_pos trivial | exact if_pos (by omega) | rw [if_neg (by omega)])
  clear hW0
  have hB0 : Below w.heap.size w W0 := hst_W0.below (Nat.le_refl _) (fun _ _ h => h)
  have HL := Lib.hid hl
  obtain ⟨z, hz⟩ : ∃ z, w.heap.size = z := ⟨_, rfl⟩
  rw [hz] at g0_W0
  try rw [hz]
  have HZ := Lib.hid hz
  clear hst_W0 hz_W0 hz hl
  go_loopw [2, 3] (fun _ i w1 => ∃ k : Nat, k ≤ 2 ∧ i = .int .i64 k ∧ (0 < k → p0 = true ∧ p1 = true ∧ p2 = true) ∧ (1 < k → p3 = true ∧ p4 = true ∧ p5 = true) ∧ w1.heap[z]? = some (.cells #[.int .i64 s.ax.lo, .int .i64 s.ax.hi, .int .i64 s.ay.lo, .int .i64 s.ay.hi, .int .i64 s.bx.lo, .int .i64 s.bx.hi, .int .i64 s.by'.lo, .int .i64 s.by'.hi, .int .i64 s.f.lo, .int .i64 s.f.hi, .int .i64 s.g.lo, .int .i64 s.g.hi, .int .i64 s.limit, .int .i64 s.flaws, .slice fa s.l.length fc] 30) ∧ Below w.heap.size w w1) (fun _ i _ => 2 - (intOf i).toNat)
  case atStart => exact ⟨0, by omega, rfl, by omega, by omega, g0_W0, hB0⟩
  case round =>
    obtain ⟨w1, rfl⟩ : ∃ x, x = wr := ⟨_, rfl⟩
    obtain ⟨k, hk, rfl, h0, h1, hx1, hB1⟩ := hrel
    have c0 := cell_block hx1 0
    have c1 := cell_block hx1 1
    have c2 := cell_block hx1 2
    have c3 := cell_block hx1 3
    have c4 := cell_block hx1 4
    have c5 := cell_block hx1 5
    have c6 := cell_block hx1 6
    have c7 := cell_block hx1 7
    have c8 := cell_block hx1 8
    have c9 := cell_block hx1 9
    have c10 := cell_block hx1 10
    have c11 := cell_block hx1 11
    have c12 := cell_block hx1 12
    have c13 := cell_block hx1 13
    have c14 := cell_block hx1 14
    simp only [gA, gB, gC] at c0 c1 c2 c3 c4 c5 c6 c7 c8 c9 c10 c11 c12 c13 c14
    by_cases k0 : k = 0
    · subst k0
      go_wp2_with fail
      refine (irspan_any s.ax (-1048576) 1048576 w1).mono ?_
      rintro e w2 ⟨rfl, hb2⟩
      have hB2 := hB1.trans (hb2.mono hB1.size)
      have hx2 := obj_later hb2 hx1
      clear hx1 hb2 c0 c1 c2 c3 c4 c5 c6 c7 c8 c9 c10 c11 c12 c13 c14
      have c0 := cell_block hx2 0
      have c1 := cell_block hx2 1
      have c2 := cell_block hx2 2
      have c3 := cell_block hx2 3
      have c4 := cell_block hx2 4
      have c5 := cell_block hx2 5
      have c6 := cell_block hx2 6
      have c7 := cell_block hx2 7
      have c8 := cell_block hx2 8
      have c9 := cell_block hx2 9
      have c10 := cell_block hx2 10
      have c11 := cell_block hx2 11
      have c12 := cell_block hx2 12
      have c13 := cell_block hx2 13
      have c14 := cell_block hx2 14
      simp only [gA, gB, gC] at c0 c1 c2 c3 c4 c5 c6 c7 c8 c9 c10 c11 c12 c13 c14
      -- p0
      rw [show s.ax.ok (-1048576) 1048576 = p0 from Hp0.out]
      cases p0
      ·
        go_wp2_with fail
        go_ret
        exact ⟨by rw [HOK.out]; simp, hB2⟩
      ·
        go_wp2_with fail
        refine (irspan_any s.ay (-1048576) 1048576 w2).mono ?_
        rintro e w3 ⟨rfl, hb3⟩
        have hB3 := hB2.trans (hb3.mono hB2.size)
        have hx3 := obj_later hb3 hx2
        clear hx2 hb3 c0 c1 c2 c3 c4 c5 c6 c7 c8 c9 c10 c11 c12 c13 c14
        have c0 := cell_block hx3 0
        have c1 := cell_block hx3 1
        have c2 := cell_block hx3 2
        have c3 := cell_block hx3 3
        have c4 := cell_block hx3 4
        have c5 := cell_block hx3 5
        have c6 := cell_block hx3 6
        have c7 := cell_block hx3 7
        have c8 := cell_block hx3 8
        have c9 := cell_block hx3 9
        have c10 := cell_block hx3 10
        have c11 := cell_block hx3 11
        have c12 := cell_block hx3 12
        have c13 := cell_block hx3 13
        have c14 := cell_block hx3 14
        simp only [gA, gB, gC] at c0 c1 c2 c3 c4 c5 c6 c7 c8 c9 c10 c11 c12 c13 c14
        -- p1
        rw [show s.ay.ok (-1048576) 1048576 = p1 from Hp1.out]
        cases p1
        ·
          go_wp2_with fail
          go_ret
          exact ⟨by rw [HOK.out]; simp, hB3⟩
        ·
          go_wp2_with fail
          refine (irspan_any s.f (0) 1000 w3).mono ?_
          rintro e w4 ⟨rfl, hb4⟩
          have hB4 := hB3.trans (hb4.mono hB3.size)
          have hx4 := obj_later hb4 hx3
          clear hx3 hb4 c0 c1 c2 c3 c4 c5 c6 c7 c8 c9 c10 c11 c12 c13 c14
          have c0 := cell_block hx4 0
          have c1 := cell_block hx4 1
          have c2 := cell_block hx4 2
          have c3 := cell_block hx4 3
          have c4 := cell_block hx4 4
          have c5 := cell_block hx4 5
          have c6 := cell_block hx4 6
          have c7 := cell_block hx4 7
          have c8 := cell_block hx4 8
          have c9 := cell_block hx4 9
          have c10 := cell_block hx4 10
          have c11 := cell_block hx4 11
          have c12 := cell_block hx4 12
          have c13 := cell_block hx4 13
          have c14 := cell_block hx4 14
          simp only [gA, gB, gC] at c0 c1 c2 c3 c4 c5 c6 c7 c8 c9 c10 c11 c12 c13 c14
          -- p2
          rw [show s.f.ok (0) 1000 = p2 from Hp2.out]
          cases p2
          ·
            go_wp2_with fail
            go_ret
            exact ⟨by rw [HOK.out]; simp, hB4⟩
          ·
            go_wp2_with fail
            go_roundw
            case rel => exact ⟨1, by omega, rfl, by intro h; simp, by intro h; omega, hx4, hB4⟩
            case measure => simp [intOf]
    by_cases k1 : k = 1
    · subst k1
      obtain ⟨rfl, rfl, rfl⟩ := h0 (by omega)
      go_wp2_with fail
      refine (irspan_any s.bx (-1048576) 1048576 w1).mono ?_
      rintro e w2 ⟨rfl, hb2⟩
      have hB2 := hB1.trans (hb2.mono hB1.size)
      have hx2 := obj_later hb2 hx1
      clear hx1 hb2 c0 c1 c2 c3 c4 c5 c6 c7 c8 c9 c10 c11 c12 c13 c14
      have c0 := cell_block hx2 0
      have c1 := cell_block hx2 1
      have c2 := cell_block hx2 2
      have c3 := cell_block hx2 3
      have c4 := cell_block hx2 4
      have c5 := cell_block hx2 5
      have c6 := cell_block hx2 6
      have c7 := cell_block hx2 7
      have c8 := cell_block hx2 8
      have c9 := cell_block hx2 9
      have c10 := cell_block hx2 10
      have c11 := cell_block hx2 11
      have c12 := cell_block hx2 12
      have c13 := cell_block hx2 13
      have c14 := cell_block hx2 14
      simp only [gA, gB, gC] at c0 c1 c2 c3 c4 c5 c6 c7 c8 c9 c10 c11 c12 c13 c14
      -- p3
      rw [show s.bx.ok (-1048576) 1048576 = p3 from Hp3.out]
      cases p3
      ·
        go_wp2_with fail
        go_ret
        exact ⟨by rw [HOK.out]; simp, hB2⟩
      ·
        go_wp2_with fail
        refine (irspan_any s.by' (-1048576) 1048576 w2).mono ?_
        rintro e w3 ⟨rfl, hb3⟩
        have hB3 := hB2.trans (hb3.mono hB2.size)
        have hx3 := obj_later hb3 hx2
        clear hx2 hb3 c0 c1 c2 c3 c4 c5 c6 c7 c8 c9 c10 c11 c12 c13 c14
        have c0 := cell_block hx3 0
        have c1 := cell_block hx3 1
        have c2 := cell_block hx3 2
        have c3 := cell_block hx3 3
        have c4 := cell_block hx3 4
        have c5 := cell_block hx3 5
        have c6 := cell_block hx3 6
        have c7 := cell_block hx3 7
        have c8 := cell_block hx3 8
        have c9 := cell_block hx3 9
        have c10 := cell_block hx3 10
        have c11 := cell_block hx3 11
        have c12 := cell_block hx3 12
        have c13 := cell_block hx3 13
        have c14 := cell_block hx3 14
        simp only [gA, gB, gC] at c0 c1 c2 c3 c4 c5 c6 c7 c8 c9 c10 c11 c12 c13 c14
        -- p4
        rw [show s.by'.ok (-1048576) 1048576 = p4 from Hp4.out]
        cases p4
        ·
          go_wp2_with fail
          go_ret
          exact ⟨by rw [HOK.out]; simp, hB3⟩
        ·
          go_wp2_with fail
          refine (irspan_any s.g (0) 1000 w3).mono ?_
          rintro e w4 ⟨rfl, hb4⟩
          have hB4 := hB3.trans (hb4.mono hB3.size)
          have hx4 := obj_later hb4 hx3
          clear hx3 hb4 c0 c1 c2 c3 c4 c5 c6 c7 c8 c9 c10 c11 c12 c13 c14
          have c0 := cell_block hx4 0
          have c1 := cell_block hx4 1
          have c2 := cell_block hx4 2
          have c3 := cell_block hx4 3
          have c4 := cell_block hx4 4
          have c5 := cell_block hx4 5
          have c6 := cell_block hx4 6
          have c7 := cell_block hx4 7
          have c8 := cell_block hx4 8
          have c9 := cell_block hx4 9
          have c10 := cell_block hx4 10
          have c11 := cell_block hx4 11
          have c12 := cell_block hx4 12
          have c13 := cell_block hx4 13
          have c14 := cell_block hx4 14
          simp only [gA, gB, gC] at c0 c1 c2 c3 c4 c5 c6 c7 c8 c9 c10 c11 c12 c13 c14
          -- p5
          rw [show s.g.ok (0) 1000 = p5 from Hp5.out]
          cases p5
          ·
            go_wp2_with fail
            go_ret
            exact ⟨by rw [HOK.out]; simp, hB4⟩
          ·
            go_wp2_with fail
            go_roundw
            case rel => exact ⟨2, by omega, rfl, by intro h; simp, by intro h; simp, hx4, hB4⟩
            case measure => simp [intOf]
    obtain rfl : k = 2 := by omega
    obtain ⟨rfl, rfl, rfl⟩ := h0 (by omega)
    obtain ⟨rfl, rfl, rfl⟩ := h1 (by omega)
    go_wp2_with fail
    go_loopw [2, 4] (fun _ i w2 => ∃ k : Nat, k ≤ s.l.length ∧ i = .int .i64 k ∧ okTo s.l k ∧ w2.heap[z]? = some (.cells #[.int .i64 s.ax.lo, .int .i64 s.ax.hi, .int .i64 s.ay.lo, .int .i64 s.ay.hi, .int .i64 s.bx.lo, .int .i64 s.bx.hi, .int .i64 s.by'.lo, .int .i64 s.by'.hi, .int .i64 s.f.lo, .int .i64 s.f.hi, .int .i64 s.g.lo, .int .i64 s.g.hi, .int .i64 s.limit, .int .i64 s.flaws, .slice fa s.l.length fc] 30) ∧ Below w.heap.size w w2) (fun _ i _ => s.l.length - (intOf i).toNat)
    case atStart => exact ⟨0, Nat.zero_le _, rfl, by simp [okTo], hx1, hB1⟩
    case round =>
      clear c0 c1 c2 c3 c4 c5 c6 c7 c8 c9 c10 c11 c12 c13 c14 hx1 hB1
      obtain ⟨w1, rfl⟩ : ∃ x, x = wr := ⟨_, rfl⟩
      obtain ⟨k, hk, rfl, hok, hx1, hB1⟩ := hrel
      have c14 := cell_block hx1 14
      simp only [gA, gB, gC] at c14
      by_cases hlt : k < s.l.length
      · have hki : (k : Int) < s.l.length := by omega
        obtain ⟨bf, of, rfl, hbf, -⟩ := HL.out k hlt
        obtain ⟨x, hxk⟩ : ∃ x, s.l[k] = x := ⟨_, rfl⟩
        have hE : ∀ W, Below w.heap.size w W → ImAt W bf (of + k * 6) x := fun W h => by
          obtain ⟨b', o', e, _, hh⟩ := HL.out.below h (Nat.le_refl _) k hlt
          cases e
          rw [hxk] at hh
          exact hh
        have HE := Lib.hid hE
        have hxo : x.ok = (x.x.ok 0 1048576 && x.y.ok 0 1048576 && x.s.ok 0 1000) := rfl
        obtain ⟨q0, hq0⟩ : ∃ q, x.x.ok 0 1048576 = q := ⟨_, rfl⟩
        obtain ⟨q1, hq1⟩ : ∃ q, x.y.ok 0 1048576 = q := ⟨_, rfl⟩
        obtain ⟨q2, hq2⟩ : ∃ q, x.s.ok 0 1000 = q := ⟨_, rfl⟩
        rw [hq0, hq1, hq2] at hxo
        have Hq0 := Lib.hid hq0
        have Hq1 := Lib.hid hq1
        have Hq2 := Lib.hid hq2
        have HXO := Lib.hid hxo
        have hno : (q0 && q1 && q2) = false → s.ok = false := fun h => by
          have := not_all hlt (by rw [hxk, HXO.out]; exact h)
          rw [HOK.out, ← Hpl.out, this]
          simp
        have HNO := Lib.hid hno
        have hyes : (q0 && q1 && q2) = true → okTo s.l (k + 1) := fun h => okTo_succ hlt hok (by rw [hxk, HXO.out]; exact h)
        have HYES := Lib.hid hyes
        clear hE hxo hq0 hq1 hq2 hno hyes hxk hok
        obtain ⟨e0, e1, e2, e3, e4, e5⟩ := HE.out w1 hB1
        go_wp2_with fail
        refine (irspan_any x.x 0 1048576 w1).mono ?_
        rintro e w2 ⟨rfl, hb2⟩
        rw [Hq0.out]
        have hB2 := hB1.trans (hb2.mono hB1.size)
        have hx2 := obj_later hb2 hx1
        clear hx1 hb2 c14 e0 e1 e2 e3 e4 e5
        have c14 := cell_block hx2 14
        simp only [gA, gB, gC] at c14
        cases q0
        · go_wp2_with fail
          go_ret
          exact ⟨by rw [HNO.out (by simp)]; rfl, hB2⟩
        ·
          obtain ⟨e0, e1, e2, e3, e4, e5⟩ := HE.out w2 hB2
          go_wp2_with fail
          refine (irspan_any x.y 0 1048576 w2).mono ?_
          rintro e w3 ⟨rfl, hb3⟩
          rw [Hq1.out]
          have hB3 := hB2.trans (hb3.mono hB2.size)
          have hx3 := obj_later hb3 hx2
          clear hx2 hb3 c14 e0 e1 e2 e3 e4 e5
          have c14 := cell_block hx3 14
          simp only [gA, gB, gC] at c14
          cases q1
          · go_wp2_with fail
            go_ret
            exact ⟨by rw [HNO.out (by simp)]; rfl, hB3⟩
          ·
            obtain ⟨e0, e1, e2, e3, e4, e5⟩ := HE.out w3 hB3
            go_wp2_with fail
            refine (irspan_any x.s 0 1000 w3).mono ?_
            rintro e w4 ⟨rfl, hb4⟩
            rw [Hq2.out]
            have hB4 := hB3.trans (hb4.mono hB3.size)
            have hx4 := obj_later hb4 hx3
            clear hx3 hb4 c14 e0 e1 e2 e3 e4 e5
            have c14 := cell_block hx4 14
            simp only [gA, gB, gC] at c14
            cases q2
            · go_wp2_with fail
              go_ret
              exact ⟨by rw [HNO.out (by simp)]; rfl, hB4⟩
            ·
              go_wp2_with fail
              go_roundw
              case rel => exact ⟨k + 1, hlt, by go_num, HYES.out rfl, hx4, hB4⟩
              case measure => simp [intOf]; omega
      · obtain rfl : k = s.l.length := by omega
        have hall : pl = true := by
          rw [← Hpl.out, List.all_eq_true]
          intro x hx
          have := hok x (by rw [List.take_length]; exact hx)
          exact this
        subst hall
        have c12 := cell_block hx1 12
        have c13 := cell_block hx1 13
        simp only [gA, gB, gC] at c12 c13
        obtain ⟨ra, hra⟩ : ∃ ra, (decide (0 ≤ s.limit) && decide (s.limit ≤ 1000)) = ra := ⟨_, rfl⟩
        obtain ⟨rb, hrb⟩ : ∃ rb, (decide (0 ≤ s.flaws) && decide (s.flaws ≤ 9)) = rb := ⟨_, rfl⟩
        obtain ⟨rc, hrc⟩ : ∃ rc, decide ((s.l.length : Int) ≤ 9) = rc := ⟨_, rfl⟩
        have hko := HOK.out
        rw [hra, hrb, show decide (s.l.length ≤ 9) = rc by rw [← hrc]; exact decide_eq_decide.2 (by omega)] at hko
        have HKO := Lib.hid hko
        have HRA := Lib.hid hra
        have HRB := Lib.hid hrb
        clear hko HOK hok
        go_wp2_with fail
        refine (irin_any s.limit 0 1000 w1).mono ?_
        rintro e w2 ⟨rfl, hww⟩
        rw [← hww, HRA.out]
        clear hww w2 hra
        cases ra
        · go_wp2_with fail
          go_ret
          exact ⟨by rw [HKO.out]; simp, hB1⟩
        · go_wp2_with fail
          refine (irin_any s.flaws 0 9 w1).mono ?_
          rintro e w2 ⟨rfl, hww⟩
          rw [← hww, HRB.out]
          clear hww w2 hrb
          cases rb
          · go_wp2_with fail
            go_ret
            exact ⟨by rw [HKO.out]; simp, hB1⟩
          · go_wp2_with fail
            go_ret
            exact ⟨by rw [HKO.out]; simp, hB1⟩
end Go.Proofs.Ytacioedolmaofaa
namespace Go.Proofs.Ytacioedolmaofaa
open Go.RowKit Go.Shelf
set_option maxHeartbeats 3200000
set_option maxRecDepth 100000
set_option linter.unusedSimpArgs false
set_option linter.unusedVariables false

theorem itr_moved7_1 (p fc : Nat) (fa : Option Addr) (s : ISheet) (x : Sp) (w : World) (hs : ShAt w p s fa fc) (hx : x.small) (hd : s.f.small) (hl : -4000000 ≤ s.limit ∧ s.limit ≤ 4000000) :
    Calls Try.prog 90 #[.pointer (some ⟨p, 0, none⟩), .int .i64 1, .agg #[.int .i64 x.lo, .int .i64 x.hi]] w fun e w' => e = .returned (.agg #[.int .i64 (sizeBack s x s.f).lo, .int .i64 (sizeBack s x s.f).hi]) ∧ Below w.heap.size w w' := by
  have hp := hs.lt
  obtain ⟨⟨x1, x2⟩, ⟨x3, x4⟩⟩ := hx
  obtain ⟨⟨d1, d2⟩, ⟨d3, d4⟩⟩ := hd
  obtain ⟨l1, l2⟩ := hl
  have hsb : sizeBack s x s.f = if x.hi < max x.lo s.limit then ⟨max x.lo s.limit, x.hi⟩ else ⟨max x.lo s.limit + s.f.lo, x.hi + s.f.hi⟩ := by
    unfold sizeBack
    by_cases h : x.hi < max x.lo s.limit <;> simp [Sp.none, h]
  obtain ⟨m, hm⟩ : ∃ m, max x.lo s.limit = m := ⟨_, rfl⟩
  rw [hm] at hsb
  have hm1 : -4000000 ≤ m := by omega
  have hm2 : m ≤ 4000000 := by omega
  have HSB := Lib.hid hsb
  have HM := Lib.hid hm
  have c12 := hs.c12
  have c8 := hs.c8
  have c9 := hs.c9
  clear hsb hm hs
  go_enter Try.func90, Try.ntmps90
  go_upto_region 1 with fail
  obtain ⟨W0, hW0⟩ : ∃ W, ((w.alloc (.cells #[.int .i64 x.lo, .int .i64 x.hi] 82)).alloc (.cells #[.int .i64 0, .int .i64 0] 82)) = W := ⟨_, rfl⟩
  rw [hW0]
  try simp only [Nat.add_assoc, Nat.reduceAdd]
  have hst_W0 : Steps (fun _ => False) w W0 := by rw [← hW0]; exact (Steps.alloc _ w _).trans (Steps.alloc (fun _ => False) _ _) (fun _ _ h => h)
  have hz_W0 : W0.heap.size = w.heap.size + 2 := by rw [← hW0]; simp
  have g0_W0 : W0.heap[w.heap.size]? = some (.cells #[.int .i64 x.lo, .int .i64 x.hi] 82) := by rw [← hW0]; simp only [alloc_get, World.size_alloc]; repeat (first | exact if_pos trivial | exact if_pos (by omega) | rw [if_neg (by omega)])
  have g1_W0 : W0.heap[w.heap.size + 1]? = some (.cells #[.int .i64 0, .int .i64 0] 82) := by rw [← hW0]; simp only [alloc_get, World.size_alloc]; repeat (first | exact if_pos trivial | exact if_pos (by omega) | rw [if_neg (by omega)])
  clear hW0
  have hb0 : Below w.heap.size w W0 := hst_W0.below (Nat.le_refl _) (fun _ _ h => h)
  replace c12 := cell_later hb0 c12
  replace c8 := cell_later hb0 c8
  replace c9 := cell_later hb0 c9
  obtain ⟨b, hb⟩ : ∃ b, w.heap.size = b := ⟨_, rfl⟩
  have hpb : p < b := by rw [← hb]; exact hp
  have hW0 : b + 2 = W0.heap.size := by rw [hz_W0, hb]
  rw [hb] at g0_W0 g1_W0 hb0
  try rw [hb]
  clear hst_W0 hz_W0 hp
  have HW := Lib.hid hW0
  have HBS := Lib.hid hb
  clear hW0 hb
  go_cut [] (fun wx => wx.heap[b]? = some (.cells #[.int .i64 m, .int .i64 x.hi] 82) ∧ wx.heap[b + 1]? = some (.cells #[.int .i64 0, .int .i64 0] 82) ∧ Below b W0 wx)
  case first =>
    have k0 := cell_block g0_W0 0
    have k1 := cell_block g0_W0 1
    have f0 := frozen_block g0_W0 0
    have f1 := frozen_block g0_W0 1
    simp only [gA, gB, gC] at k0 k1
    by_cases hlt : x.lo < s.limit
    · have em : m = s.limit := by have := HM.out; omega
      go_region
      go_wp2_with fail
      go_meet
      have zz := block_set g0_W0 0 (.int .i64 s.limit)
      simp only [List.setIfInBounds_toArray, List.set_cons_zero] at zz
      exact ⟨by rw [em]; exact zz, block_other g1_W0 (by omega : b + 1 ≠ b) 0 _, ((Below.refl b W0).setCell (p := ⟨b, 0, none⟩) (Nat.le_refl _) _).drew⟩
    · have em : m = x.lo := by have := HM.out; omega
      have hge : s.limit ≤ x.lo := by omega
      go_region
      go_wp2_with fail
      go_meet
      have zz := block_set g0_W0 0 (.int .i64 x.lo)
      simp only [List.setIfInBounds_toArray, List.set_cons_zero] at zz
      exact ⟨by rw [em]; exact zz, block_other g1_W0 (by omega : b + 1 ≠ b) 0 _, ((Below.refl b W0).setCell (p := ⟨b, 0, none⟩) (Nat.le_refl _) _).drew⟩
  case rest =>
    obtain ⟨z0, z1, hB⟩ := hcut
    replace c12 := (hB.cell (p := ⟨p, 12, none⟩) hpb).trans c12
    replace c8 := (hB.cell (p := ⟨p, 8, none⟩) hpb).trans c8
    replace c9 := (hB.cell (p := ⟨p, 9, none⟩) hpb).trans c9
    have hB1 := hb0.trans hB
    clear hB hb0 g0_W0 g1_W0
    have k0 := cell_block z0 0
    have k1 := cell_block z0 1
    simp only [gA, gB, gC] at k0 k1
    have hbl := (Array.getElem?_eq_some_iff.1 z1).1
    go_wp2_with fail
    refine (inone_any ⟨m, x.hi⟩ _).mono ?_
    rintro e w2 ⟨rfl, hb2⟩
    have y0 := obj_later hb2 z0
    have y1 := obj_later hb2 z1
    replace c12 := cell_later hb2 c12
    replace c8 := cell_later hb2 c8
    replace c9 := cell_later hb2 c9
    have hB2 := hB1.trans (hb2.mono (by omega))
    clear hB1 hb2 z0 z1 k0 k1
    have k0 := cell_block y0 0
    have k1 := cell_block y0 1
    have r0 := cell_block y1 0
    have r1 := cell_block y1 1
    have f0 := frozen_block y1 0
    have f1 := frozen_block y1 1
    simp only [gA, gB, gC] at k0 k1 r0 r1
    by_cases hn : x.hi < m
    · have hnn : Sp.none ⟨m, x.hi⟩ = true := by simp [Sp.none, hn]
      rw [hnn]
      have e1 := HSB.out
      rw [if_pos hn] at e1
      have E1 := Lib.hid e1
      clear e1 hnn HSB
      go_wp2_with fail
      have z2 := block_set (block_set y1 0 (.int .i64 (m))) 1 (.int .i64 (x.hi))
      have hB3 := ((hB2.setCell (p := ⟨b + 1, 0, none⟩) (Nat.le_succ _) (.int .i64 (m))).setCell (p := ⟨b + 1, 1, none⟩) (Nat.le_succ _) (.int .i64 (x.hi)))
      have m0 := cell_block z2 0
      have m1 := cell_block z2 1
      simp only [gD, gE, gF, gA, gB, gC] at m0 m1
      exact bodyPost_ret (v := .agg #[.int .i64 (m), .int .i64 (x.hi)]) (by simp [results, Try.results90, go_sem, m0, m1]) rfl ⟨by rw [E1.out], by rw [HBS.out]; exact hB3⟩
    · have hnn : Sp.none ⟨m, x.hi⟩ = false := by simp [Sp.none]; omega
      rw [hnn]
      have e1 := HSB.out
      rw [if_neg hn] at e1
      have E1 := Lib.hid e1
      clear e1 hnn HSB
      have hw0 : IntKind.i64.wrap 0 = 0 := by decide
      have hw1 : IntKind.i64.wrap 1 = 1 := by decide
      have e2 : IntKind.i64.wrap (m + s.f.lo) = m + s.f.lo := by rw [IntKind.wrap_i64]; omega
      have e3 : IntKind.i64.wrap (x.hi + s.f.hi) = x.hi + s.f.hi := by rw [IntKind.wrap_i64]; omega
      go_upto_region 4 with fail
      go_region
      go_wp2_with fail
      have z2 := block_set (block_set y1 0 (.int .i64 (m + s.f.lo))) 1 (.int .i64 (x.hi + s.f.hi))
      have hB3 := ((hB2.setCell (p := ⟨b + 1, 0, none⟩) (Nat.le_succ _) (.int .i64 (m + s.f.lo))).setCell (p := ⟨b + 1, 1, none⟩) (Nat.le_succ _) (.int .i64 (x.hi + s.f.hi))).drew
      have m0 := cell_block z2 0
      have m1 := cell_block z2 1
      simp only [gD, gE, gF, gA, gB, gC] at m0 m1
      replace m0 : (((w2.setCell ⟨b + 1, 0, none⟩ (.int .i64 (m + s.f.lo))).setCell ⟨b + 1, 1, none⟩ (.int .i64 (x.hi + s.f.hi))).drew).cell? ⟨b + 1, 0, none⟩ = some (.int .i64 (m + s.f.lo)) := m0
      replace m1 : (((w2.setCell ⟨b + 1, 0, none⟩ (.int .i64 (m + s.f.lo))).setCell ⟨b + 1, 1, none⟩ (.int .i64 (x.hi + s.f.hi))).drew).cell? ⟨b + 1, 1, none⟩ = some (.int .i64 (x.hi + s.f.hi)) := m1
      exact bodyPost_ret (v := .agg #[.int .i64 (m + s.f.lo), .int .i64 (x.hi + s.f.hi)]) (by simp [results, Try.results90, go_sem, m0, m1]) rfl ⟨by rw [E1.out], by rw [HBS.out]; exact hB3⟩

theorem itr_moved7_2 (p fc : Nat) (fa : Option Addr) (s : ISheet) (x : Sp) (w : World) (hs : ShAt w p s fa fc) (hx : x.small) (hd : s.g.small) (hl : -4000000 ≤ s.limit ∧ s.limit ≤ 4000000) :
    Calls Try.prog 90 #[.pointer (some ⟨p, 0, none⟩), .int .i64 2, .agg #[.int .i64 x.lo, .int .i64 x.hi]] w fun e w' => e = .returned (.agg #[.int .i64 (sizeBack s x s.g).lo, .int .i64 (sizeBack s x s.g).hi]) ∧ Below w.heap.size w w' := by
  have hp := hs.lt
  obtain ⟨⟨x1, x2⟩, ⟨x3, x4⟩⟩ := hx
  obtain ⟨⟨d1, d2⟩, ⟨d3, d4⟩⟩ := hd
  obtain ⟨l1, l2⟩ := hl
  have hsb : sizeBack s x s.g = if x.hi < max x.lo s.limit then ⟨max x.lo s.limit, x.hi⟩ else ⟨max x.lo s.limit + s.g.lo, x.hi + s.g.hi⟩ := by
    unfold sizeBack
    by_cases h : x.hi < max x.lo s.limit <;> simp [Sp.none, h]
  obtain ⟨m, hm⟩ : ∃ m, max x.lo s.limit = m := ⟨_, rfl⟩
  rw [hm] at hsb
  have hm1 : -4000000 ≤ m := by omega
  have hm2 : m ≤ 4000000 := by omega
  have HSB := Lib.hid hsb
  have HM := Lib.hid hm
  have c12 := hs.c12
  have c10 := hs.c10
  have c11 := hs.c11
  clear hsb hm hs
  go_enter Try.func90, Try.ntmps90
  go_upto_region 1 with fail
  obtain ⟨W0, hW0⟩ : ∃ W, ((w.alloc (.cells #[.int .i64 x.lo, .int .i64 x.hi] 82)).alloc (.cells #[.int .i64 0, .int .i64 0] 82)) = W := ⟨_, rfl⟩
  rw [hW0]
  try simp only [Nat.add_assoc, Nat.reduceAdd]
  have hst_W0 : Steps (fun _ => False) w W0 := by rw [← hW0]; exact (Steps.alloc _ w _).trans (Steps.alloc (fun _ => False) _ _) (fun _ _ h => h)
  have hz_W0 : W0.heap.size = w.heap.size + 2 := by rw [← hW0]; simp
  have g0_W0 : W0.heap[w.heap.size]? = some (.cells #[.int .i64 x.lo, .int .i64 x.hi] 82) := by rw [← hW0]; simp only [alloc_get, World.size_alloc]; repeat (first | exact if_pos trivial | exact if_pos (by omega) | rw [if_neg (by omega)])
  have g1_W0 : W0.heap[w.heap.size + 1]? = some (.cells #[.int .i64 0, .int .i64 0] 82) := by rw [← hW0]; simp only [alloc_get, World.size_alloc]; repeat (first | exact if_pos trivial | exact if_pos (by omega) | rw [if_neg (by omega)])
  clear hW0
  have hb0 : Below w.heap.size w W0 := hst_W0.below (Nat.le_refl _) (fun _ _ h => h)
  replace c12 := cell_later hb0 c12
  replace c10 := cell_later hb0 c10
  replace c11 := cell_later hb0 c11
  obtain ⟨b, hb⟩ : ∃ b, w.heap.size = b := ⟨_, rfl⟩
  have hpb : p < b := by rw [← hb]; exact hp
  have hW0 : b + 2 = W0.heap.size := by rw [hz_W0, hb]
  rw [hb] at g0_W0 g1_W0 hb0
  try rw [hb]
  clear hst_W0 hz_W0 hp
  have HW := Lib.hid hW0
  have HBS := Lib.hid hb
  clear hW0 hb
  go_cut [] (fun wx => wx.heap[b]? = some (.cells #[.int .i64 m, .int .i64 x.hi] 82) ∧ wx.heap[b + 1]? = some (.cells #[.int .i64 0, .int .i64 0] 82) ∧ Below b W0 wx)
  case first =>
    have k0 := cell_block g0_W0 0
    have k1 := cell_block g0_W0 1
    have f0 := frozen_block g0_W0 0
    have f1 := frozen_block g0_W0 1
    simp only [gA, gB, gC] at k0 k1
    by_cases hlt : x.lo < s.limit
    · have em : m = s.limit := by have := HM.out; omega
      go_region
      go_wp2_with fail
      go_meet
      have zz := block_set g0_W0 0 (.int .i64 s.limit)
      simp only [List.setIfInBounds_toArray, List.set_cons_zero] at zz
      exact ⟨by rw [em]; exact zz, block_other g1_W0 (by omega : b + 1 ≠ b) 0 _, ((Below.refl b W0).setCell (p := ⟨b, 0, none⟩) (Nat.le_refl _) _).drew⟩
    · have em : m = x.lo := by have := HM.out; omega
      have hge : s.limit ≤ x.lo := by omega
      go_region
      go_wp2_with fail
      go_meet
      have zz := block_set g0_W0 0 (.int .i64 x.lo)
      simp only [List.setIfInBounds_toArray, List.set_cons_zero] at zz
      exact ⟨by rw [em]; exact zz, block_other g1_W0 (by omega : b + 1 ≠ b) 0 _, ((Below.refl b W0).setCell (p := ⟨b, 0, none⟩) (Nat.le_refl _) _).drew⟩
  case rest =>
    obtain ⟨z0, z1, hB⟩ := hcut
    replace c12 := (hB.cell (p := ⟨p, 12, none⟩) hpb).trans c12
    replace c10 := (hB.cell (p := ⟨p, 10, none⟩) hpb).trans c10
    replace c11 := (hB.cell (p := ⟨p, 11, none⟩) hpb).trans c11
    have hB1 := hb0.trans hB
    clear hB hb0 g0_W0 g1_W0
    have k0 := cell_block z0 0
    have k1 := cell_block z0 1
    simp only [gA, gB, gC] at k0 k1
    have hbl := (Array.getElem?_eq_some_iff.1 z1).1
    go_wp2_with fail
    refine (inone_any ⟨m, x.hi⟩ _).mono ?_
    rintro e w2 ⟨rfl, hb2⟩
    have y0 := obj_later hb2 z0
    have y1 := obj_later hb2 z1
    replace c12 := cell_later hb2 c12
    replace c10 := cell_later hb2 c10
    replace c11 := cell_later hb2 c11
    have hB2 := hB1.trans (hb2.mono (by omega))
    clear hB1 hb2 z0 z1 k0 k1
    have k0 := cell_block y0 0
    have k1 := cell_block y0 1
    have r0 := cell_block y1 0
    have r1 := cell_block y1 1
    have f0 := frozen_block y1 0
    have f1 := frozen_block y1 1
    simp only [gA, gB, gC] at k0 k1 r0 r1
    by_cases hn : x.hi < m
    · have hnn : Sp.none ⟨m, x.hi⟩ = true := by simp [Sp.none, hn]
      rw [hnn]
      have e1 := HSB.out
      rw [if_pos hn] at e1
      have E1 := Lib.hid e1
      clear e1 hnn HSB
      go_wp2_with fail
      have z2 := block_set (block_set y1 0 (.int .i64 (m))) 1 (.int .i64 (x.hi))
      have hB3 := ((hB2.setCell (p := ⟨b + 1, 0, none⟩) (Nat.le_succ _) (.int .i64 (m))).setCell (p := ⟨b + 1, 1, none⟩) (Nat.le_succ _) (.int .i64 (x.hi)))
      have m0 := cell_block z2 0
      have m1 := cell_block z2 1
      simp only [gD, gE, gF, gA, gB, gC] at m0 m1
      exact bodyPost_ret (v := .agg #[.int .i64 (m), .int .i64 (x.hi)]) (by simp [results, Try.results90, go_sem, m0, m1]) rfl ⟨by rw [E1.out], by rw [HBS.out]; exact hB3⟩
    · have hnn : Sp.none ⟨m, x.hi⟩ = false := by simp [Sp.none]; omega
      rw [hnn]
      have e1 := HSB.out
      rw [if_neg hn] at e1
      have E1 := Lib.hid e1
      clear e1 hnn HSB
      have hw0 : IntKind.i64.wrap 0 = 0 := by decide
      have hw1 : IntKind.i64.wrap 1 = 1 := by decide
      have e2 : IntKind.i64.wrap (m + s.g.lo) = m + s.g.lo := by rw [IntKind.wrap_i64]; omega
      have e3 : IntKind.i64.wrap (x.hi + s.g.hi) = x.hi + s.g.hi := by rw [IntKind.wrap_i64]; omega
      go_upto_region 4 with fail
      go_region
      go_wp2_with fail
      have z2 := block_set (block_set y1 0 (.int .i64 (m + s.g.lo))) 1 (.int .i64 (x.hi + s.g.hi))
      have hB3 := ((hB2.setCell (p := ⟨b + 1, 0, none⟩) (Nat.le_succ _) (.int .i64 (m + s.g.lo))).setCell (p := ⟨b + 1, 1, none⟩) (Nat.le_succ _) (.int .i64 (x.hi + s.g.hi))).drew
      have m0 := cell_block z2 0
      have m1 := cell_block z2 1
      simp only [gD, gE, gF, gA, gB, gC] at m0 m1
      replace m0 : (((w2.setCell ⟨b + 1, 0, none⟩ (.int .i64 (m + s.g.lo))).setCell ⟨b + 1, 1, none⟩ (.int .i64 (x.hi + s.g.hi))).drew).cell? ⟨b + 1, 0, none⟩ = some (.int .i64 (m + s.g.lo)) := m0
      replace m1 : (((w2.setCell ⟨b + 1, 0, none⟩ (.int .i64 (m + s.g.lo))).setCell ⟨b + 1, 1, none⟩ (.int .i64 (x.hi + s.g.hi))).drew).cell? ⟨b + 1, 1, none⟩ = some (.int .i64 (x.hi + s.g.hi)) := m1
      exact bodyPost_ret (v := .agg #[.int .i64 (m + s.g.lo), .int .i64 (x.hi + s.g.hi)]) (by simp [results, Try.results90, go_sem, m0, m1]) rfl ⟨by rw [E1.out], by rw [HBS.out]; exact hB3⟩

/-- The array that 'traits' returns. -/
def itraitsV (g : Nat) : Value := .agg #[.func (.func 85) #[] #[], .func (.func 86) #[] #[.pointer (some ⟨g, 0, none⟩)], .func (.func 87) #[] #[], .func (.func 88) #[] #[.pointer (some ⟨g, 0, none⟩)], .func (.func 89) #[] #[], .func (.func 90) #[] #[]]
theorem itraits_any (w : World) : Calls Try.prog 69 #[] w fun e w' => ∃ g, e = .returned (itraitsV g) ∧ w'.cell? ⟨g, 0, none⟩ = some (.func (.func 84) #[] #[]) ∧ w.heap.size ≤ g ∧ Below w.heap.size w w' := by
  go_enter Try.func69, Try.ntmps69
  go_wp2
  obtain ⟨W0, hW0⟩ : ∃ W, ((w.alloc (.cells #[.func (.func 85) #[] #[], .func (.func 86) #[] #[.pointer (some ⟨w.heap.size + 1, 0, none⟩)], .func (.func 87) #[] #[], .func (.func 88) #[] #[.pointer (some ⟨w.heap.size + 1, 0, none⟩)], .func (.func 89) #[] #[], .func (.func 90) #[] #[]] 123)).alloc (.cells #[.func (.func 84) #[] #[]] 139)) = W := ⟨_, rfl⟩
  rw [hW0]
  try simp only [Nat.add_assoc, Nat.reduceAdd]
  have hst_W0 : Steps (fun _ => False) w W0 := by rw [← hW0]; exact (Steps.alloc _ w _).trans (Steps.alloc (fun _ => False) _ _) (fun _ _ h => h)
  have hz_W0 : W0.heap.size = w.heap.size + 2 := by rw [← hW0]; simp
  have g0_W0 : W0.heap[w.heap.size]? = some (.cells #[.func (.func 85) #[] #[], .func (.func 86) #[] #[.pointer (some ⟨w.heap.size + 1, 0, none⟩)], .func (.func 87) #[] #[], .func (.func 88) #[] #[.pointer (some ⟨w.heap.size + 1, 0, none⟩)], .func (.func 89) #[] #[], .func (.func 90) #[] #[]] 123) := by rw [← hW0]; simp only [alloc_get, World.size_alloc]; repeat (first | exact if_pos trivial | exact if_pos (by omega) | rw [if_neg (by omega)])
  have g1_W0 : W0.heap[w.heap.size + 1]? = some (.cells #[.func (.func 84) #[] #[]] 139) := by rw [← hW0]; simp only [alloc_get, World.size_alloc]; repeat (first | exact if_pos trivial | exact if_pos (by omega) | rw [if_neg (by omega)])
  clear hW0
  have hb0 : Below w.heap.size w W0 := hst_W0.below (Nat.le_refl _) (fun _ _ h => h)
  have c := fun i => cell_block g0_W0 i
  have c0 := c 0
  have c1 := c 1
  have c2 := c 2
  have c3 := c 3
  have c4 := c 4
  have c5 := c 5
  have cg := cell_block g1_W0 0
  simp only [gA, gB, gC] at c0 c1 c2 c3 c4 c5 cg
  exact bodyPost_ret (v := itraitsV (w.heap.size + 1)) (by simp [results, Try.results69, go_sem, itraitsV, c0, c1, c2, c3, c4, c5]) rfl ⟨_, rfl, cg, Nat.le_succ _, hb0⟩
end Go.Proofs.Ytacioedolmaofaa
