/- The reference's Trail, walked. Regions of the reference's Of. -/
import Derived.Test.YtacioedolmaofaaLBA14
import Derived.Test.YtacioedolmaofaaLBA12
namespace Go.Proofs.Ytacioedolmaofaa
open Go.RowKit Go.Shelf
set_option maxHeartbeats 6400000
set_option maxRecDepth 100000
set_option linter.unusedSimpArgs false
set_option linter.unusedVariables false

theorem irTrail_any (s : ISheet) (fa : Option Addr) (fc : Nat) (t : ITr) (w : World) (hlen : s.l.length < 9223372036854775807) :
    Calls Try.prog 43 #[.agg #[.int .i64 s.ax.lo, .int .i64 s.ax.hi, .int .i64 s.ay.lo, .int .i64 s.ay.hi, .int .i64 s.bx.lo, .int .i64 s.bx.hi, .int .i64 s.by'.lo, .int .i64 s.by'.hi, .int .i64 s.f.lo, .int .i64 s.f.hi, .int .i64 s.g.lo, .int .i64 s.g.hi, .int .i64 s.limit, .int .i64 s.flaws, .slice fa s.l.length fc], .agg #[.int .i64 t.a, .int .i64 t.b, .int .i64 t.c]] w fun e w' => e = .returned (.bool (t.ok s.l.length)) ∧ Below w.heap.size w w' := by
  go_enter Try.func43, Try.ntmps43
  go_wp2_with fail
  obtain ⟨W0, hW0⟩ : ∃ W, ((w.alloc (.cells #[.int .i64 s.ax.lo, .int .i64 s.ax.hi, .int .i64 s.ay.lo, .int .i64 s.ay.hi, .int .i64 s.bx.lo, .int .i64 s.bx.hi, .int .i64 s.by'.lo, .int .i64 s.by'.hi, .int .i64 s.f.lo, .int .i64 s.f.hi, .int .i64 s.g.lo, .int .i64 s.g.hi, .int .i64 s.limit, .int .i64 s.flaws, .slice fa s.l.length fc] 30)).alloc (.cells #[.int .i64 t.a, .int .i64 t.b, .int .i64 t.c] 32)) = W := ⟨_, rfl⟩
  rw [hW0]
  try simp only [Nat.add_assoc, Nat.reduceAdd]
  have hst_W0 : Steps (fun _ => False) w W0 := by rw [← hW0]; exact (Steps.alloc _ w _).trans (Steps.alloc (fun _ => False) _ _) (fun _ _ h => h)
  have hz_W0 : W0.heap.size = w.heap.size + 2 := by rw [← hW0]; simp
  have g0_W0 : W0.heap[w.heap.size]? = some (.cells #[.int .i64 s.ax.lo, .int .i64 s.ax.hi, .int .i64 s.ay.lo, .int .i64 s.ay.hi, .int .i64 s.bx.lo, .int .i64 s.bx.hi, .int .i64 s.by'.lo, .int .i64 s.by'.hi, .int .i64 s.f.lo, .int .i64 s.f.hi, .int .i64 s.g.lo, .int .i64 s.g.hi, .int .i64 s.limit, .int .i64 s.flaws, .slice fa s.l.length fc] 30) := by rw [← hW0]; simp only [alloc_get, World.size_alloc]; repeat (first | exact if_pos trivial | exact if_pos (by omega) | rw [if_neg (by omega)])
  have g1_W0 : W0.heap[w.heap.size + 1]? = some (.cells #[.int .i64 t.a, .int .i64 t.b, .int .i64 t.c] 32) := by rw [← hW0]; simp only [alloc_get, World.size_alloc]; repeat (first | exact if_pos trivial | exact if_pos (by omega) | rw [if_neg (by omega)])
  clear hW0
  have hB0 : Below w.heap.size w W0 := hst_W0.below (Nat.le_refl _) (fun _ _ h => h)
  obtain ⟨z, hz⟩ : ∃ z, w.heap.size = z := ⟨_, rfl⟩
  rw [hz] at g0_W0 g1_W0
  try rw [hz]
  have HZ := Lib.hid hz
  clear hst_W0 hz_W0 hz
  go_loopw [4, 5, 6] (fun _ i _ w1 => ∃ e : Nat, e ≤ 3 ∧ i = .int .i64 e ∧ (∀ g, g < e → badAt t s.l.length g = false ∧ difTo t g g) ∧ w1.heap[z]? = some (.cells #[.int .i64 s.ax.lo, .int .i64 s.ax.hi, .int .i64 s.ay.lo, .int .i64 s.ay.hi, .int .i64 s.bx.lo, .int .i64 s.bx.hi, .int .i64 s.by'.lo, .int .i64 s.by'.hi, .int .i64 s.f.lo, .int .i64 s.f.hi, .int .i64 s.g.lo, .int .i64 s.g.hi, .int .i64 s.limit, .int .i64 s.flaws, .slice fa s.l.length fc] 30) ∧ w1.heap[z + 1]? = some (.cells #[.int .i64 t.a, .int .i64 t.b, .int .i64 t.c] 32) ∧ Below w.heap.size w w1) (fun _ i _ _ => 3 - (intOf i).toNat)
  case atStart => exact ⟨0, by omega, rfl, fun g hg => by omega, g0_W0, g1_W0, hB0⟩
  case round =>
    obtain ⟨w1, rfl⟩ : ∃ x, x = wr := ⟨_, rfl⟩
    obtain ⟨e, he, rfl, hgo, hx1, hy1, hB1⟩ := hrel
    have HG := Lib.hid hgo
    have cz : w1.cell? ⟨z, 14, none⟩ = some (.slice fa s.l.length fc) := cell_block hx1 14
    by_cases e0 : e = 0
    · subst e0
      clear hgo
      go_upto_region 4 with fail
      refine trail_reg4_0 z (z + 1) s.l.length fa fc t w1 cz hlen (cell_block hy1 0) _ _ ?_
      intro s11 s12 s13 s14 s15 s16 s17 s18 s19 s20 s21 s22 s23 s24 s25 s26 s27 s28 w2 hs2
      have hb2 : Below w1.heap.size w1 w2 := hs2.below (Nat.le_refl _) (fun _ _ h => h)
      have hx2 := obj_later hb2 hx1
      have hy2 := obj_later hb2 hy1
      have hB2 := hB1.trans (hb2.mono hB1.size)
      obtain ⟨bd, hbd⟩ : ∃ bd, badAt t s.l.length 0 = bd := ⟨_, rfl⟩
      rw [hbd]
      have HBAD := Lib.hid hbd
      clear hb2 hs2 hx1 hy1 hB1 cz hbd
      cases bd
      · go_wp2_with fail
        go_loopw [4, 6] (fun _ j w3 => ∃ f : Nat, f ≤ 0 ∧ j = .int .i64 f ∧ difTo t 0 f ∧ w3.heap[z]? = some (.cells #[.int .i64 s.ax.lo, .int .i64 s.ax.hi, .int .i64 s.ay.lo, .int .i64 s.ay.hi, .int .i64 s.bx.lo, .int .i64 s.bx.hi, .int .i64 s.by'.lo, .int .i64 s.by'.hi, .int .i64 s.f.lo, .int .i64 s.f.hi, .int .i64 s.g.lo, .int .i64 s.g.hi, .int .i64 s.limit, .int .i64 s.flaws, .slice fa s.l.length fc] 30) ∧ w3.heap[z + 1]? = some (.cells #[.int .i64 t.a, .int .i64 t.b, .int .i64 t.c] 32) ∧ Below w.heap.size w w3) (fun _ j _ => 0 - (intOf j).toNat)
        case atStart => exact ⟨0, by omega, rfl, fun g hg => by omega, hx2, hy2, hB2⟩
        case round =>
          obtain ⟨w3, rfl⟩ : ∃ x, x = wr := ⟨_, rfl⟩
          obtain ⟨f, hf, rfl, hdif, hx3, hy3, hB3⟩ := hrel
          obtain rfl : f = 0 := by omega
          have hgo' : ∀ g, g < 1 → badAt t s.l.length g = false ∧ difTo t g g := fun g hg => by
            rcases Nat.lt_succ_iff_lt_or_eq.1 hg with hg | rfl
            · exact HG.out g hg
            · exact ⟨HBAD.out, hdif⟩
          go_wp2_with fail
          go_roundw
          case rel => exact ⟨1, by omega, rfl, hgo', hx3, hy3, hB3⟩
          case measure => simp [intOf]
      · have hfl : t.ok s.l.length = false := trail_bad t _ 0 (by omega) HBAD.out
        have HF := Lib.hid hfl
        clear hfl
        go_wp2_with fail
        go_ret
        exact ⟨by rw [HF.out]; rfl, hB2⟩
    by_cases e1 : e = 1
    · subst e1
      clear hgo
      go_upto_region 4 with fail
      refine trail_reg4_1 z (z + 1) s.l.length fa fc t w1 cz hlen (cell_block hy1 1) _ _ ?_
      intro s11 s12 s13 s14 s15 s16 s17 s18 s19 s20 s21 s22 s23 s24 s25 s26 s27 s28 w2 hs2
      have hb2 : Below w1.heap.size w1 w2 := hs2.below (Nat.le_refl _) (fun _ _ h => h)
      have hx2 := obj_later hb2 hx1
      have hy2 := obj_later hb2 hy1
      have hB2 := hB1.trans (hb2.mono hB1.size)
      obtain ⟨bd, hbd⟩ : ∃ bd, badAt t s.l.length 1 = bd := ⟨_, rfl⟩
      rw [hbd]
      have HBAD := Lib.hid hbd
      clear hb2 hs2 hx1 hy1 hB1 cz hbd
      cases bd
      · go_wp2_with fail
        go_loopw [4, 6] (fun _ j w3 => ∃ f : Nat, f ≤ 1 ∧ j = .int .i64 f ∧ difTo t 1 f ∧ w3.heap[z]? = some (.cells #[.int .i64 s.ax.lo, .int .i64 s.ax.hi, .int .i64 s.ay.lo, .int .i64 s.ay.hi, .int .i64 s.bx.lo, .int .i64 s.bx.hi, .int .i64 s.by'.lo, .int .i64 s.by'.hi, .int .i64 s.f.lo, .int .i64 s.f.hi, .int .i64 s.g.lo, .int .i64 s.g.hi, .int .i64 s.limit, .int .i64 s.flaws, .slice fa s.l.length fc] 30) ∧ w3.heap[z + 1]? = some (.cells #[.int .i64 t.a, .int .i64 t.b, .int .i64 t.c] 32) ∧ Below w.heap.size w w3) (fun _ j _ => 1 - (intOf j).toNat)
        case atStart => exact ⟨0, by omega, rfl, fun g hg => by omega, hx2, hy2, hB2⟩
        case round =>
          obtain ⟨w3, rfl⟩ : ∃ x, x = wr := ⟨_, rfl⟩
          obtain ⟨f, hf, rfl, hdif, hx3, hy3, hB3⟩ := hrel
          by_cases f0 : f = 0
          · subst f0
            have y0 := cell_block hy3 1
            have y1 := cell_block hy3 0
            simp only [gA, gB, gC] at y0 y1
            by_cases h1 : t.b = t.a
            · by_cases h2 : t.b = -1
              · have hd : difTo t 1 1 := fun g hg => by
                  rcases Nat.lt_succ_iff_lt_or_eq.1 hg with hg | rfl
                  · exact hdif g hg
                  · exact fun h => h.2 h2
                have HD := Lib.hid hd
                have b1 : (t.b == t.a) = true := by simp [h1]
                have b2 : (t.b != -1) = false := by simp [h2]
                clear h1 h2 hd hdif
                go_upto_region 9 with fail
                go_region
                go_wp2_with fail
                go_roundw
                case rel => exact ⟨1, by omega, rfl, HD.out, hx3, hy3, hB3.drew⟩
                case measure => simp [intOf]
              · have hfl : t.ok s.l.length = false := trail_dif t _ 1 0 (by omega) (by omega) h1 h2
                have HF := Lib.hid hfl
                have b1 : (t.b == t.a) = true := by simp [h1]
                have b2 : (t.b != -1) = true := by simpa using h2
                clear h1 h2 hfl hdif
                go_upto_region 9 with fail
                go_region
                go_wp2_with fail
                go_ret
                exact ⟨by rw [HF.out]; rfl, hB3.drew⟩
            · have hd : difTo t 1 1 := fun g hg => by
                rcases Nat.lt_succ_iff_lt_or_eq.1 hg with hg | rfl
                · exact hdif g hg
                · exact fun h => h1 h.1
              have HD := Lib.hid hd
              have b1 : (t.b == t.a) = false := by simpa using h1
              clear h1 hd hdif
              go_upto_region 9 with fail
              go_region
              go_wp2_with fail
              go_roundw
              case rel => exact ⟨1, by omega, rfl, HD.out, hx3, hy3, hB3.drew⟩
              case measure => simp [intOf]
          obtain rfl : f = 1 := by omega
          have hgo' : ∀ g, g < 2 → badAt t s.l.length g = false ∧ difTo t g g := fun g hg => by
            rcases Nat.lt_succ_iff_lt_or_eq.1 hg with hg | rfl
            · exact HG.out g hg
            · exact ⟨HBAD.out, hdif⟩
          go_wp2_with fail
          go_roundw
          case rel => exact ⟨2, by omega, rfl, hgo', hx3, hy3, hB3⟩
          case measure => simp [intOf]
      · have hfl : t.ok s.l.length = false := trail_bad t _ 1 (by omega) HBAD.out
        have HF := Lib.hid hfl
        clear hfl
        go_wp2_with fail
        go_ret
        exact ⟨by rw [HF.out]; rfl, hB2⟩
    by_cases e2 : e = 2
    · subst e2
      clear hgo
      go_upto_region 4 with fail
      refine trail_reg4_2 z (z + 1) s.l.length fa fc t w1 cz hlen (cell_block hy1 2) _ _ ?_
      intro s11 s12 s13 s14 s15 s16 s17 s18 s19 s20 s21 s22 s23 s24 s25 s26 s27 s28 w2 hs2
      have hb2 : Below w1.heap.size w1 w2 := hs2.below (Nat.le_refl _) (fun _ _ h => h)
      have hx2 := obj_later hb2 hx1
      have hy2 := obj_later hb2 hy1
      have hB2 := hB1.trans (hb2.mono hB1.size)
      obtain ⟨bd, hbd⟩ : ∃ bd, badAt t s.l.length 2 = bd := ⟨_, rfl⟩
      rw [hbd]
      have HBAD := Lib.hid hbd
      clear hb2 hs2 hx1 hy1 hB1 cz hbd
      cases bd
      · go_wp2_with fail
        go_loopw [4, 6] (fun _ j w3 => ∃ f : Nat, f ≤ 2 ∧ j = .int .i64 f ∧ difTo t 2 f ∧ w3.heap[z]? = some (.cells #[.int .i64 s.ax.lo, .int .i64 s.ax.hi, .int .i64 s.ay.lo, .int .i64 s.ay.hi, .int .i64 s.bx.lo, .int .i64 s.bx.hi, .int .i64 s.by'.lo, .int .i64 s.by'.hi, .int .i64 s.f.lo, .int .i64 s.f.hi, .int .i64 s.g.lo, .int .i64 s.g.hi, .int .i64 s.limit, .int .i64 s.flaws, .slice fa s.l.length fc] 30) ∧ w3.heap[z + 1]? = some (.cells #[.int .i64 t.a, .int .i64 t.b, .int .i64 t.c] 32) ∧ Below w.heap.size w w3) (fun _ j _ => 2 - (intOf j).toNat)
        case atStart => exact ⟨0, by omega, rfl, fun g hg => by omega, hx2, hy2, hB2⟩
        case round =>
          obtain ⟨w3, rfl⟩ : ∃ x, x = wr := ⟨_, rfl⟩
          obtain ⟨f, hf, rfl, hdif, hx3, hy3, hB3⟩ := hrel
          by_cases f0 : f = 0
          · subst f0
            have y0 := cell_block hy3 2
            have y1 := cell_block hy3 0
            simp only [gA, gB, gC] at y0 y1
            by_cases h1 : t.c = t.a
            · by_cases h2 : t.c = -1
              · have hd : difTo t 2 1 := fun g hg => by
                  rcases Nat.lt_succ_iff_lt_or_eq.1 hg with hg | rfl
                  · exact hdif g hg
                  · exact fun h => h.2 h2
                have HD := Lib.hid hd
                have b1 : (t.c == t.a) = true := by simp [h1]
                have b2 : (t.c != -1) = false := by simp [h2]
                clear h1 h2 hd hdif
                go_upto_region 9 with fail
                go_region
                go_wp2_with fail
                go_roundw
                case rel => exact ⟨1, by omega, rfl, HD.out, hx3, hy3, hB3.drew⟩
                case measure => simp [intOf]
              · have hfl : t.ok s.l.length = false := trail_dif t _ 2 0 (by omega) (by omega) h1 h2
                have HF := Lib.hid hfl
                have b1 : (t.c == t.a) = true := by simp [h1]
                have b2 : (t.c != -1) = true := by simpa using h2
                clear h1 h2 hfl hdif
                go_upto_region 9 with fail
                go_region
                go_wp2_with fail
                go_ret
                exact ⟨by rw [HF.out]; rfl, hB3.drew⟩
            · have hd : difTo t 2 1 := fun g hg => by
                rcases Nat.lt_succ_iff_lt_or_eq.1 hg with hg | rfl
                · exact hdif g hg
                · exact fun h => h1 h.1
              have HD := Lib.hid hd
              have b1 : (t.c == t.a) = false := by simpa using h1
              clear h1 hd hdif
              go_upto_region 9 with fail
              go_region
              go_wp2_with fail
              go_roundw
              case rel => exact ⟨1, by omega, rfl, HD.out, hx3, hy3, hB3.drew⟩
              case measure => simp [intOf]
          by_cases f1 : f = 1
          · subst f1
            have y0 := cell_block hy3 2
            have y1 := cell_block hy3 1
            simp only [gA, gB, gC] at y0 y1
            by_cases h1 : t.c = t.b
            · by_cases h2 : t.c = -1
              · have hd : difTo t 2 2 := fun g hg => by
                  rcases Nat.lt_succ_iff_lt_or_eq.1 hg with hg | rfl
                  · exact hdif g hg
                  · exact fun h => h.2 h2
                have HD := Lib.hid hd
                have b1 : (t.c == t.b) = true := by simp [h1]
                have b2 : (t.c != -1) = false := by simp [h2]
                clear h1 h2 hd hdif
                go_upto_region 9 with fail
                go_region
                go_wp2_with fail
                go_roundw
                case rel => exact ⟨2, by omega, rfl, HD.out, hx3, hy3, hB3.drew⟩
                case measure => simp [intOf]
              · have hfl : t.ok s.l.length = false := trail_dif t _ 2 1 (by omega) (by omega) h1 h2
                have HF := Lib.hid hfl
                have b1 : (t.c == t.b) = true := by simp [h1]
                have b2 : (t.c != -1) = true := by simpa using h2
                clear h1 h2 hfl hdif
                go_upto_region 9 with fail
                go_region
                go_wp2_with fail
                go_ret
                exact ⟨by rw [HF.out]; rfl, hB3.drew⟩
            · have hd : difTo t 2 2 := fun g hg => by
                rcases Nat.lt_succ_iff_lt_or_eq.1 hg with hg | rfl
                · exact hdif g hg
                · exact fun h => h1 h.1
              have HD := Lib.hid hd
              have b1 : (t.c == t.b) = false := by simpa using h1
              clear h1 hd hdif
              go_upto_region 9 with fail
              go_region
              go_wp2_with fail
              go_roundw
              case rel => exact ⟨2, by omega, rfl, HD.out, hx3, hy3, hB3.drew⟩
              case measure => simp [intOf]
          obtain rfl : f = 2 := by omega
          have hgo' : ∀ g, g < 3 → badAt t s.l.length g = false ∧ difTo t g g := fun g hg => by
            rcases Nat.lt_succ_iff_lt_or_eq.1 hg with hg | rfl
            · exact HG.out g hg
            · exact ⟨HBAD.out, hdif⟩
          go_wp2_with fail
          go_roundw
          case rel => exact ⟨3, by omega, rfl, hgo', hx3, hy3, hB3⟩
          case measure => simp [intOf]
      · have hfl : t.ok s.l.length = false := trail_bad t _ 2 (by omega) HBAD.out
        have HF := Lib.hid hfl
        clear hfl
        go_wp2_with fail
        go_ret
        exact ⟨by rw [HF.out]; rfl, hB2⟩
    obtain rfl : e = 3 := by omega
    have hfl : t.ok s.l.length = true := trail_ok t _ hgo
    have HF := Lib.hid hfl
    clear hfl hgo
    go_wp2_with fail
    go_ret
    exact ⟨by rw [HF.out]; rfl, hB1⟩
end Go.Proofs.Ytacioedolmaofaa
namespace Go.Proofs.Ytacioedolmaofaa
open Go.RowKit Go.Shelf
set_option maxHeartbeats 6400000
set_option maxRecDepth 100000
set_option linter.unusedSimpArgs false
set_option linter.unusedVariables false

/-- The cells of a star. -/
def irA (u : IStar) : Array Value := #[.int .i64 u.x.lo, .int .i64 u.x.hi, .int .i64 u.y.lo, .int .i64 u.y.hi, .int .i64 u.s.lo, .int .i64 u.s.hi]
theorem isix_steps (q : Nat) (a0 a1 a2 a3 a4 a5 : Value) (w : World) : Steps (fun k => k = q) w ((((((w.setCell ⟨q, 0, none⟩ a0).setCell ⟨q, 1, none⟩ a1).setCell ⟨q, 2, none⟩ a2).setCell ⟨q, 3, none⟩ a3).setCell ⟨q, 4, none⟩ a4).setCell ⟨q, 5, none⟩ a5) :=
  have s : ∀ (A : World) (o : Nat) (v : Value), Steps (fun k => k = q) A (A.setCell ⟨q, o, none⟩ v) := fun A o v => Steps.setCell (own := fun k => k = q) A (p := ⟨q, o, none⟩) rfl v
  (((((s w 0 a0).trans (s _ 1 a1) (fun _ _ h => h)).trans (s _ 2 a2) (fun _ _ h => h)).trans (s _ 3 a3) (fun _ _ h => h)).trans (s _ 4 a4) (fun _ _ h => h)).trans (s _ 5 a5) (fun _ _ h => h)

theorem of_reg2 (z q6 : Nat) (p : ISpot) (lim : Int) (W : World) {z0 z1 z3 z4 z5 z8 z9 z10 z11 z12 z13 z14 z15 z16 z17 z18 z30 z31 z32 z33 z34 z35 z36 z37 z38 z39 z40 z41 z42 z43 z44 z45 z46 z47 z48 z49 z50 z51 z52 z53 z54 z55 z56 z57 z58 z59 z60 z61 z62 z63 z64 z65 z66 z67 z68 z69 z70 z71 z72 z73 z74 z75 z76 z77 z78 z79 z80 z81 z82 z83 z84 z85 z86 z87 z88 z89 z90 z91 z92 z93 z94 z95 z96 z97 z98 z99 z100 z101 z102 z103 z104 z105 z106 z107 z108 z109 z110 z111 z112 z113 z114 z115 z116 z117 z118 z119 z120 z121 z122 : Value} {z7 z19 z20 z21 z22 z23 z24 z25 z26 z27 z28 z29 : Value} (hz : W.cell? ⟨z, 12, none⟩ = some (.int .i64 lim)) (h6 : W.heap[q6]? = some (.cells #[.int .i64 p.x.lo, .int .i64 p.x.hi, .int .i64 p.y.lo, .int .i64 p.y.hi, .int .i64 p.s.lo, .int .i64 p.s.hi] 61)) (K : Act → World → Prop) (Q : Exit → Act → World → Prop)
    (hfin : ∀ (s19 s20 s21 s22 s23 s24 s25 s26 s27 s28 s29 : Value) (q7 : Nat) (w' : World), (W.heap.size ≤ q7 ∧ w'.heap[q7]? = some (.cells (irA ⟨p.x, p.y, p.s.meet ⟨lim, 1000⟩⟩) 70) ∧ Steps (fun _ => False) W w') → K ⟨(z0::z1::(.pointer (some ⟨z, 0, none⟩))::z3::z4::z5::(.pointer (some ⟨q6, 0, none⟩))::(.pointer (some ⟨q7, 0, none⟩))::z8::z9::z10::z11::z12::z13::z14::z15::z16::z17::z18::s19::s20::s21::s22::s23::s24::s25::s26::s27::s28::s29::z30::z31::z32::z33::z34::z35::z36::z37::z38::z39::z40::z41::z42::z43::z44::z45::z46::z47::z48::z49::z50::z51::z52::z53::z54::z55::z56::z57::z58::z59::z60::z61::z62::z63::z64::z65::z66::z67::z68::z69::z70::z71::z72::z73::z74::z75::z76::z77::z78::z79::z80::z81::z82::z83::z84::z85::z86::z87::z88::z89::z90::z91::z92::z93::z94::z95::z96::z97::z98::z99::z100::z101::z102::z103::z104::z105::z106::z107::z108::z109::z110::z111::z112::z113::z114::z115::z116::z117::z118::z119::z120::z121::z122 :: []).toArray, []⟩ w') :
    Code.wp Try.prog ((Try.f37.body.bind (findReg 2)).getD .skip) (Exit.then K Q) ⟨(z0::z1::(.pointer (some ⟨z, 0, none⟩))::z3::z4::z5::(.pointer (some ⟨q6, 0, none⟩))::z7::z8::z9::z10::z11::z12::z13::z14::z15::z16::z17::z18::z19::z20::z21::z22::z23::z24::z25::z26::z27::z28::z29::z30::z31::z32::z33::z34::z35::z36::z37::z38::z39::z40::z41::z42::z43::z44::z45::z46::z47::z48::z49::z50::z51::z52::z53::z54::z55::z56::z57::z58::z59::z60::z61::z62::z63::z64::z65::z66::z67::z68::z69::z70::z71::z72::z73::z74::z75::z76::z77::z78::z79::z80::z81::z82::z83::z84::z85::z86::z87::z88::z89::z90::z91::z92::z93::z94::z95::z96::z97::z98::z99::z100::z101::z102::z103::z104::z105::z106::z107::z108::z109::z110::z111::z112::z113::z114::z115::z116::z117::z118::z119::z120::z121::z122 :: []).toArray, []⟩ W := by
  have HFIN := Lib.hid hfin
  have k0 : ∀ W', Steps (fun _ => False) W W' → W'.cell? ⟨q6, 0, none⟩ = some (.int .i64 p.x.lo) := fun W' h => icell_apart h (fun h => h) (cell_block h6 0)
  have k1 : ∀ W', Steps (fun _ => False) W W' → W'.cell? ⟨q6, 1, none⟩ = some (.int .i64 p.x.hi) := fun W' h => icell_apart h (fun h => h) (cell_block h6 1)
  have k2 : ∀ W', Steps (fun _ => False) W W' → W'.cell? ⟨q6, 2, none⟩ = some (.int .i64 p.y.lo) := fun W' h => icell_apart h (fun h => h) (cell_block h6 2)
  have k3 : ∀ W', Steps (fun _ => False) W W' → W'.cell? ⟨q6, 3, none⟩ = some (.int .i64 p.y.hi) := fun W' h => icell_apart h (fun h => h) (cell_block h6 3)
  have k4 : ∀ W', Steps (fun _ => False) W W' → W'.cell? ⟨q6, 4, none⟩ = some (.int .i64 p.s.lo) := fun W' h => icell_apart h (fun h => h) (cell_block h6 4)
  have k5 : ∀ W', Steps (fun _ => False) W W' → W'.cell? ⟨q6, 5, none⟩ = some (.int .i64 p.s.hi) := fun W' h => icell_apart h (fun h => h) (cell_block h6 5)
  have k6 : ∀ W', Steps (fun _ => False) W W' → W'.cell? ⟨z, 12, none⟩ = some (.int .i64 lim) := fun W' h => icell_apart h (fun h => h) (hz)
  clear hfin
  conv => arg 2; whnf
  refine (wpIn_wide (n := 0)).1 ?_
  refine wpIn_region_Wn (S := fun W' => Steps (fun _ => False) W W') 13 (by kernel_rfl) (by kernel_rfl) (Steps.refl _ W).drew (fun H0 => ?_)
  generalize W.drew = w0 at H0 ⊢
  have hw0 : IntKind.i64.wrap 0 = 0 := by decide
  have hw1 : IntKind.i64.wrap 1 = 1 := by decide
  refine wTk 0 19 ?_ ?_ ?_
  rotate_left
  · intro o h w k; (try dsimp only at k); simp only [gA, gB, gC, gG] at h; subst h; go_simp; try with_reducible rfl
  simp only [Act.put, gD, gE, gF]
  refine wTk 1 20 ?_ ?_ ?_
  rotate_left
  · intro o h w k; (try dsimp only at k); simp only [gA, gB, gC, gG] at h; subst h; go_simp; try with_reducible rfl
  simp only [Act.put, gD, gE, gF]
  refine wTk 2 21 ?_ ?_ ?_
  rotate_left
  · intro o h w k; (try dsimp only at k); simp only [gA, gB, gC, gG] at h; subst h; go_simp; try with_reducible rfl
  simp only [Act.put, gD, gE, gF]
  refine wTk 3 22 ?_ ?_ ?_
  rotate_left
  · intro o h w k; (try dsimp only at k); simp only [gA, gB, gC, gG] at h; subst h; go_simp; try with_reducible rfl
  simp only [Act.put, gD, gE, gF]
  refine wTk 4 23 ?_ ?_ ?_
  rotate_left
  · intro o h w k; (try dsimp only at k); simp only [gA, gB, gC, gG] at h; subst h; go_simp; try with_reducible rfl
  simp only [Act.put, gD, gE, gF]
  refine wTk 5 24 ?_ ?_ ?_
  rotate_left
  · intro o h w k; (try dsimp only at k); simp only [gA, gB, gC, gG] at h; subst h; go_simp; try with_reducible rfl
  simp only [Act.put, gD, gE, gF]
  refine wTk 6 25 ?_ ?_ ?_
  rotate_left
  · intro o h w k; (try dsimp only at k); simp only [gA, gB, gC, gG] at h; subst h; go_simp; try with_reducible rfl
  simp only [Act.put, gD, gE, gF]
  refine wTk 7 26 ?_ ?_ ?_
  rotate_left
  · intro o h w k; (try dsimp only at k); simp only [gA, gB, gC, gG] at h; subst h; go_simp; try with_reducible rfl
  simp only [Act.put, gD, gE, gF]
  refine wTk 8 27 ?_ ?_ ?_
  rotate_left
  · intro o h w k; (try dsimp only at k); simp only [gA, gB, gC, gG] at h; subst h; go_simp; try with_reducible rfl
  simp only [Act.put, gD, gE, gF]
  clear k0 k1 k2 k3 k4 k5 k6
  refine wpAnyW_two 9 11 (by kernel_rfl) ⟨by kernel_rfl, by kernel_rfl⟩ ?_ ?_
  ·
    intro oo ho K hK
    simp only [gA, gB, gC, gG] at ho
    subst ho
    go_simp
    refine ⟨trivial, rfl, CallsIn.mono (callsIn_wide.2 (ircommon_any p.s ⟨lim, 1000⟩ w0)) ?_⟩
    rintro e w1 ⟨rfl, hb⟩
    have hst : Steps (fun _ => False) w0 w1 := ⟨hb.os, hb.tape, hb.output, hb.size, fun k hk _ => hb.block k hk⟩
    have H1 := H0.trans hst (fun _ _ h => h)
    refine hK _ _ H1 (fun _ => ?_)
    clear hK K hb
    try simp only [Act.put, gD, gE, gF]
    refine wTk 10 29 ?_ ?_ ?_
    rotate_left
    · intro o h w k; (try dsimp only at k); simp only [gA, gB, gC, gG] at h; subst h; go_simp; try with_reducible rfl
    simp only [Act.put, gD, gE, gF]
    refine wpAnyW_one 11 (by kernel_rfl) (by kernel_rfl) ?_
    intro oo ho K hK
    simp only [gA, gB, gC, gG] at ho
    subst ho
    go_simp
    have hst := Steps.alloc (fun _ => False) w1 (.cells #[.int .i64 0, .int .i64 0, .int .i64 0, .int .i64 0, .int .i64 0, .int .i64 0] 70)
    have hnw := obj_new w1 (.cells #[.int .i64 0, .int .i64 0, .int .i64 0, .int .i64 0, .int .i64 0, .int .i64 0] 70)
    have H2 := H1.trans hst (fun _ _ h => h)
    refine hK _ _ H2 (fun _ => ?_)
    clear hK K
    try simp only [Act.put, gD, gE, gF]
    obtain ⟨q7, hqe⟩ : ∃ q, w1.heap.size = q := ⟨_, rfl⟩
    have q7l : q7 < (w1.alloc (.cells #[.int .i64 0, .int .i64 0, .int .i64 0, .int .i64 0, .int .i64 0, .int .i64 0] 70)).heap.size := by rw [← hqe]; simp
    generalize w1.alloc (.cells #[.int .i64 0, .int .i64 0, .int .i64 0, .int .i64 0, .int .i64 0, .int .i64 0] 70) = w2 at hst hnw H2 q7l ⊢
    rw [hqe] at hnw
    try rw [hqe]
    have q7W : W.heap.size ≤ q7 := by have := H1.size; omega
    have Gq7 := hnw
    clear hst hnw hqe
    have cz := fun k => cell_block Gq7 k
    have fz := fun k => frozen_block Gq7 k
    have c0 := cz 0
    have fc0 := fz 0
    have c1 := cz 1
    have fc1 := fz 1
    have c2 := cz 2
    have fc2 := fz 2
    have c3 := cz 3
    have fc3 := fz 3
    have c4 := cz 4
    have fc4 := fz 4
    have c5 := cz 5
    have fc5 := fz 5
    clear cz fz
    simp only [gA, gB, gC] at c0 c1 c2 c3 c4 c5
    refine wpAnyW_one 12 (by kernel_rfl) (by kernel_rfl) ?_
    intro o ho K hK
    simp only [gA, gB, gC, gG] at ho
    subst ho
    go_simp
    have zz := star_put Gq7 (.int .i64 p.x.lo) (.int .i64 p.x.hi) (.int .i64 p.y.lo) (.int .i64 p.y.hi) (.int .i64 (p.s.meet ⟨lim, 1000⟩).lo) (.int .i64 (p.s.meet ⟨lim, 1000⟩).hi)
    have hs := H2.trans (isix_steps q7 (.int .i64 p.x.lo) (.int .i64 p.x.hi) (.int .i64 p.y.lo) (.int .i64 p.y.hi) (.int .i64 (p.s.meet ⟨lim, 1000⟩).lo) (.int .i64 (p.s.meet ⟨lim, 1000⟩).hi) w2) (fun k hk h => by omega)
    refine hK _ _ hs (fun _ => ?_)
    clear hK K
    try simp only [Act.put, gD, gE, gF]
    refine wpAnyW_done (by kernel_rfl) ?_ _
    dsimp only [onNormal]
    exact HFIN.out _ _ _ _ _ _ _ _ _ _ _ q7 _ ⟨q7W, zz, hs⟩
  ·
    intro oo ho K hK
    simp only [gA, gB, gC, gG] at ho
    subst ho
    go_simp
    have hst := Steps.alloc (fun _ => False) w0 (.cells #[.int .i64 0, .int .i64 0, .int .i64 0, .int .i64 0, .int .i64 0, .int .i64 0] 70)
    have hnw := obj_new w0 (.cells #[.int .i64 0, .int .i64 0, .int .i64 0, .int .i64 0, .int .i64 0, .int .i64 0] 70)
    have H1 := H0.trans hst (fun _ _ h => h)
    refine hK _ _ H1 (fun _ => ?_)
    clear hK K
    try simp only [Act.put, gD, gE, gF]
    obtain ⟨q7, hqe⟩ : ∃ q, w0.heap.size = q := ⟨_, rfl⟩
    have q7l : q7 < (w0.alloc (.cells #[.int .i64 0, .int .i64 0, .int .i64 0, .int .i64 0, .int .i64 0, .int .i64 0] 70)).heap.size := by rw [← hqe]; simp
    generalize w0.alloc (.cells #[.int .i64 0, .int .i64 0, .int .i64 0, .int .i64 0, .int .i64 0, .int .i64 0] 70) = w1 at hst hnw H1 q7l ⊢
    rw [hqe] at hnw
    try rw [hqe]
    have q7W : W.heap.size ≤ q7 := by have := H0.size; omega
    have Gq7 := hnw
    clear hst hnw hqe
    refine wpAnyW_one 9 (by kernel_rfl) (by kernel_rfl) ?_
    intro oo ho K hK
    simp only [gA, gB, gC, gG] at ho
    subst ho
    go_simp
    refine ⟨trivial, rfl, CallsIn.mono (callsIn_wide.2 (ircommon_any p.s ⟨lim, 1000⟩ w1)) ?_⟩
    rintro e w2 ⟨rfl, hb⟩
    have hst : Steps (fun _ => False) w1 w2 := ⟨hb.os, hb.tape, hb.output, hb.size, fun k hk _ => hb.block k hk⟩
    have H2 := H1.trans hst (fun _ _ h => h)
    refine hK _ _ H2 (fun _ => ?_)
    clear hK K hb
    try simp only [Act.put, gD, gE, gF]
    replace Gq7 := hst.obj (fun h => h) Gq7
    refine wTk 10 29 ?_ ?_ ?_
    rotate_left
    · intro o h w k; (try dsimp only at k); simp only [gA, gB, gC, gG] at h; subst h; go_simp; try with_reducible rfl
    simp only [Act.put, gD, gE, gF]
    have cz := fun k => cell_block Gq7 k
    have fz := fun k => frozen_block Gq7 k
    have c0 := cz 0
    have fc0 := fz 0
    have c1 := cz 1
    have fc1 := fz 1
    have c2 := cz 2
    have fc2 := fz 2
    have c3 := cz 3
    have fc3 := fz 3
    have c4 := cz 4
    have fc4 := fz 4
    have c5 := cz 5
    have fc5 := fz 5
    clear cz fz
    simp only [gA, gB, gC] at c0 c1 c2 c3 c4 c5
    refine wpAnyW_one 12 (by kernel_rfl) (by kernel_rfl) ?_
    intro o ho K hK
    simp only [gA, gB, gC, gG] at ho
    subst ho
    go_simp
    have zz := star_put Gq7 (.int .i64 p.x.lo) (.int .i64 p.x.hi) (.int .i64 p.y.lo) (.int .i64 p.y.hi) (.int .i64 (p.s.meet ⟨lim, 1000⟩).lo) (.int .i64 (p.s.meet ⟨lim, 1000⟩).hi)
    have hs := H2.trans (isix_steps q7 (.int .i64 p.x.lo) (.int .i64 p.x.hi) (.int .i64 p.y.lo) (.int .i64 p.y.hi) (.int .i64 (p.s.meet ⟨lim, 1000⟩).lo) (.int .i64 (p.s.meet ⟨lim, 1000⟩).hi) w2) (fun k hk h => by omega)
    refine hK _ _ hs (fun _ => ?_)
    clear hK K
    try simp only [Act.put, gD, gE, gF]
    refine wpAnyW_done (by kernel_rfl) ?_ _
    dsimp only [onNormal]
    exact HFIN.out _ _ _ _ _ _ _ _ _ _ _ q7 _ ⟨q7W, zz, hs⟩

theorem of_reg6_1 (z fc : Nat) (s : ISheet) (fa : Option Addr) (W : World) {z0 z1 z3 z4 z5 z6 z7 z11 z12 z13 z14 z15 z16 z17 z18 z19 z20 z21 z22 z23 z24 z25 z26 z27 z28 z29 z30 z31 z32 z33 z44 z45 z46 z47 z48 z49 z50 z51 z52 z53 z54 z55 z56 z57 z58 z59 z60 z61 z62 z63 z64 z65 z66 z67 z68 z69 z70 z71 z72 z73 z74 z75 z76 z77 z78 z79 z80 z81 z82 z83 z84 z85 z86 z87 z88 z89 z90 z91 z92 z93 z94 z95 z96 z97 z98 z99 z100 z101 z102 z103 z104 z105 z106 z107 z108 z109 z110 z111 z112 z113 z114 z115 z116 z117 z118 z119 z120 z121 z122 : Value} {z9 z10 z34 z35 z36 z37 z38 z39 z40 z41 z42 z43 : Value} (hs : ShAt W z s fa fc) (K : Act → World → Prop) (Q : Exit → Act → World → Prop)
    (hfin : ∀ (s34 s35 s36 s37 s38 s39 s40 s41 s42 s43 : Value) (q9 q10 : Nat) (w' : World), (W.heap.size ≤ q9 ∧ W.heap.size ≤ q10 ∧ w'.heap[q9]? = some (.cells #[.int .i64 s.ax.lo, .int .i64 s.ax.hi, .int .i64 s.ay.lo, .int .i64 s.ay.hi] 25) ∧ w'.heap[q10]? = some (.cells #[.int .i64 s.f.lo, .int .i64 s.f.hi] 23) ∧ Steps (fun _ => False) W w') → K ⟨(z0::z1::(.pointer (some ⟨z, 0, none⟩))::z3::z4::z5::z6::z7::(.int .i64 1)::(.pointer (some ⟨q9, 0, none⟩))::(.pointer (some ⟨q10, 0, none⟩))::z11::z12::z13::z14::z15::z16::z17::z18::z19::z20::z21::z22::z23::z24::z25::z26::z27::z28::z29::z30::z31::z32::z33::s34::s35::s36::s37::s38::s39::s40::s41::s42::s43::z44::z45::z46::z47::z48::z49::z50::z51::z52::z53::z54::z55::z56::z57::z58::z59::z60::z61::z62::z63::z64::z65::z66::z67::z68::z69::z70::z71::z72::z73::z74::z75::z76::z77::z78::z79::z80::z81::z82::z83::z84::z85::z86::z87::z88::z89::z90::z91::z92::z93::z94::z95::z96::z97::z98::z99::z100::z101::z102::z103::z104::z105::z106::z107::z108::z109::z110::z111::z112::z113::z114::z115::z116::z117::z118::z119::z120::z121::z122 :: []).toArray, []⟩ w') :
    Code.wp Try.prog ((Try.f37.body.bind (findReg 6)).getD .skip) (Exit.then K Q) ⟨(z0::z1::(.pointer (some ⟨z, 0, none⟩))::z3::z4::z5::z6::z7::(.int .i64 1)::z9::z10::z11::z12::z13::z14::z15::z16::z17::z18::z19::z20::z21::z22::z23::z24::z25::z26::z27::z28::z29::z30::z31::z32::z33::z34::z35::z36::z37::z38::z39::z40::z41::z42::z43::z44::z45::z46::z47::z48::z49::z50::z51::z52::z53::z54::z55::z56::z57::z58::z59::z60::z61::z62::z63::z64::z65::z66::z67::z68::z69::z70::z71::z72::z73::z74::z75::z76::z77::z78::z79::z80::z81::z82::z83::z84::z85::z86::z87::z88::z89::z90::z91::z92::z93::z94::z95::z96::z97::z98::z99::z100::z101::z102::z103::z104::z105::z106::z107::z108::z109::z110::z111::z112::z113::z114::z115::z116::z117::z118::z119::z120::z121::z122 :: []).toArray, []⟩ W := by
  have HFIN := Lib.hid hfin
  have k0 : ∀ W', Steps (fun _ => False) W W' → W'.cell? ⟨z, 0, none⟩ = some (.int .i64 s.ax.lo) := fun W' h => icell_apart h (fun h => h) (hs.c0)
  have k1 : ∀ W', Steps (fun _ => False) W W' → W'.cell? ⟨z, 1, none⟩ = some (.int .i64 s.ax.hi) := fun W' h => icell_apart h (fun h => h) (hs.c1)
  have k2 : ∀ W', Steps (fun _ => False) W W' → W'.cell? ⟨z, 2, none⟩ = some (.int .i64 s.ay.lo) := fun W' h => icell_apart h (fun h => h) (hs.c2)
  have k3 : ∀ W', Steps (fun _ => False) W W' → W'.cell? ⟨z, 3, none⟩ = some (.int .i64 s.ay.hi) := fun W' h => icell_apart h (fun h => h) (hs.c3)
  have k4 : ∀ W', Steps (fun _ => False) W W' → W'.cell? ⟨z, 8, none⟩ = some (.int .i64 s.f.lo) := fun W' h => icell_apart h (fun h => h) (hs.c8)
  have k5 : ∀ W', Steps (fun _ => False) W W' → W'.cell? ⟨z, 9, none⟩ = some (.int .i64 s.f.hi) := fun W' h => icell_apart h (fun h => h) (hs.c9)
  clear hfin
  conv => arg 2; whnf
  refine (wpIn_wide (n := 0)).1 ?_
  refine wpIn_region_Wn (S := fun W' => Steps (fun _ => False) W W') 14 (by kernel_rfl) (by kernel_rfl) (Steps.refl _ W).drew (fun H0 => ?_)
  generalize W.drew = w0 at H0 ⊢
  have hw0 : IntKind.i64.wrap 0 = 0 := by decide
  have hw1 : IntKind.i64.wrap 1 = 1 := by decide
  refine wTk 0 34 ?_ ?_ ?_
  rotate_left
  · intro o h w k; (try dsimp only at k); simp only [gA, gB, gC, gG] at h; subst h; go_simp; try with_reducible rfl
  simp only [Act.put, gD, gE, gF]
  refine wTk 1 35 ?_ ?_ ?_
  rotate_left
  · intro o h w k; (try dsimp only at k); simp only [gA, gB, gC, gG] at h; subst h; go_simp; try with_reducible rfl
  simp only [Act.put, gD, gE, gF]
  refine wTk 2 36 ?_ ?_ ?_
  rotate_left
  · intro o h w k; (try dsimp only at k); simp only [gA, gB, gC, gG] at h; subst h; go_simp; try with_reducible rfl
  simp only [Act.put, gD, gE, gF]
  refine wTk 3 37 ?_ ?_ ?_
  rotate_left
  · intro o h w k; (try dsimp only at k); simp only [gA, gB, gC, gG] at h; subst h; go_simp; try with_reducible rfl
  simp only [Act.put, gD, gE, gF]
  refine wTk 4 38 ?_ ?_ ?_
  rotate_left
  · intro o h w k; (try dsimp only at k); simp only [gA, gB, gC, gG] at h; subst h; go_simp; try with_reducible rfl
  simp only [Act.put, gD, gE, gF]
  refine wTk 5 39 ?_ ?_ ?_
  rotate_left
  · intro o h w k; (try dsimp only at k); simp only [gA, gB, gC, gG] at h; subst h; go_simp; try with_reducible rfl
  simp only [Act.put, gD, gE, gF]
  refine wTk 6 40 ?_ ?_ ?_
  rotate_left
  · intro o h w k; (try dsimp only at k); simp only [gA, gB, gC, gG] at h; subst h; go_simp; try with_reducible rfl
  simp only [Act.put, gD, gE, gF]
  refine wTk 7 41 ?_ ?_ ?_
  rotate_left
  · intro o h w k; (try dsimp only at k); simp only [gA, gB, gC, gG] at h; subst h; go_simp; try with_reducible rfl
  simp only [Act.put, gD, gE, gF]
  refine wTk 8 42 ?_ ?_ ?_
  rotate_left
  · intro o h w k; (try dsimp only at k); simp only [gA, gB, gC, gG] at h; subst h; go_simp; try with_reducible rfl
  simp only [Act.put, gD, gE, gF]
  refine wTk 9 43 ?_ ?_ ?_
  rotate_left
  · intro o h w k; (try dsimp only at k); simp only [gA, gB, gC, gG] at h; subst h; go_simp; try with_reducible rfl
  simp only [Act.put, gD, gE, gF]
  clear k0 k1 k2 k3 k4 k5
  refine wpAnyW_two 10 11 (by kernel_rfl) ⟨by kernel_rfl, by kernel_rfl⟩ ?_ ?_
  ·
    intro oo ho K hK
    simp only [gA, gB, gC, gG] at ho
    subst ho
    go_simp
    have hst := Steps.alloc (fun _ => False) w0 (.cells #[.int .i64 0, .int .i64 0, .int .i64 0, .int .i64 0] 25)
    have hnw := obj_new w0 (.cells #[.int .i64 0, .int .i64 0, .int .i64 0, .int .i64 0] 25)
    have H1 := H0.trans hst (fun _ _ h => h)
    refine hK _ _ H1 (fun _ => ?_)
    clear hK K
    try simp only [Act.put, gD, gE, gF]
    obtain ⟨q9, hqe⟩ : ∃ q, w0.heap.size = q := ⟨_, rfl⟩
    have q9l : q9 < (w0.alloc (.cells #[.int .i64 0, .int .i64 0, .int .i64 0, .int .i64 0] 25)).heap.size := by rw [← hqe]; simp
    generalize w0.alloc (.cells #[.int .i64 0, .int .i64 0, .int .i64 0, .int .i64 0] 25) = w1 at hst hnw H1 q9l ⊢
    rw [hqe] at hnw
    try rw [hqe]
    have q9W : W.heap.size ≤ q9 := by have := H0.size; omega
    have Gq9 := hnw
    clear hst hnw hqe
    refine wpAnyW_one 11 (by kernel_rfl) (by kernel_rfl) ?_
    intro oo ho K hK
    simp only [gA, gB, gC, gG] at ho
    subst ho
    go_simp
    have hst := Steps.alloc (fun _ => False) w1 (.cells #[.int .i64 0, .int .i64 0] 23)
    have hnw := obj_new w1 (.cells #[.int .i64 0, .int .i64 0] 23)
    have H2 := H1.trans hst (fun _ _ h => h)
    refine hK _ _ H2 (fun _ => ?_)
    clear hK K
    try simp only [Act.put, gD, gE, gF]
    obtain ⟨q10, hqe⟩ : ∃ q, w1.heap.size = q := ⟨_, rfl⟩
    have q10l : q10 < (w1.alloc (.cells #[.int .i64 0, .int .i64 0] 23)).heap.size := by rw [← hqe]; simp
    generalize w1.alloc (.cells #[.int .i64 0, .int .i64 0] 23) = w2 at hst hnw H2 q10l ⊢
    rw [hqe] at hnw
    try rw [hqe]
    have q10W : W.heap.size ≤ q10 := by have := H1.size; omega
    have Gq10 := hnw
    replace Gq9 := hst.obj (fun h => h) Gq9
    have hne : q9 < q10 := by rw [← hqe]; exact q9l
    clear hst hnw hqe
    have cz := fun k => cell_block Gq9 k
    have fz := fun k => frozen_block Gq9 k
    have c0 := cz 0
    have fc0 := fz 0
    have c1 := cz 1
    have fc1 := fz 1
    have c2 := cz 2
    have fc2 := fz 2
    have c3 := cz 3
    have fc3 := fz 3
    clear cz fz
    simp only [gA, gB, gC] at c0 c1 c2 c3
    have cz := fun k => cell_block Gq10 k
    have fz := fun k => frozen_block Gq10 k
    have d0 := cz 0
    have fd0 := fz 0
    have d1 := cz 1
    have fd1 := fz 1
    clear cz fz
    simp only [gA, gB, gC] at d0 d1
    refine wpAnyW_one 12 (by kernel_rfl) (by kernel_rfl) ?_
    intro o ho K hK
    simp only [gA, gB, gC, gG] at ho
    subst ho
    go_simp
    have zz : ((((w2.setCell ⟨q9, 0, none⟩ (.int .i64 s.ax.lo)).setCell ⟨q9, 1, none⟩ (.int .i64 s.ax.hi)).setCell ⟨q9, 2, none⟩ (.int .i64 s.ay.lo)).setCell ⟨q9, 3, none⟩ (.int .i64 s.ay.hi)).heap[q9]? = some (.cells #[.int .i64 s.ax.lo, .int .i64 s.ax.hi, .int .i64 s.ay.lo, .int .i64 s.ay.hi] 25) := by
      rw [block_set (block_set (block_set (block_set Gq9 0 _) 1 _) 2 _) 3 _]
      simp
    have st1 : ∀ (A : World) (o : Nat) (v : Value), Steps (fun k => k = q9) A (A.setCell ⟨q9, o, none⟩ v) := fun A o v => Steps.setCell (own := fun k => k = q9) A (p := ⟨q9, o, none⟩) rfl v
    have hs := (((st1 w2 0 (.int .i64 s.ax.lo)).trans (st1 _ 1 (.int .i64 s.ax.hi)) (fun _ _ h => h)).trans (st1 _ 2 (.int .i64 s.ay.lo)) (fun _ _ h => h)).trans (st1 _ 3 (.int .i64 s.ay.hi)) (fun _ _ h => h)
    generalize (((w2.setCell ⟨q9, 0, none⟩ (.int .i64 s.ax.lo)).setCell ⟨q9, 1, none⟩ (.int .i64 s.ax.hi)).setCell ⟨q9, 2, none⟩ (.int .i64 s.ay.lo)).setCell ⟨q9, 3, none⟩ (.int .i64 s.ay.hi) = w8 at zz hs hK ⊢
    have H8 := H2.trans hs (fun k hk h => by omega)
    refine hK _ _ H8 (fun _ => ?_)
    clear hK K c0 c1 c2 c3 fc0 fc1 fc2 fc3 d0 d1 fd0 fd1 st1
    try simp only [Act.put, gD, gE, gF]
    replace Gq10 := hs.obj (k := q10) (by omega) Gq10
    have cz := fun k => cell_block Gq10 k
    have fz := fun k => frozen_block Gq10 k
    have d0 := cz 0
    have fd0 := fz 0
    have d1 := cz 1
    have fd1 := fz 1
    clear cz fz
    simp only [gA, gB, gC] at d0 d1
    refine wpAnyW_one 13 (by kernel_rfl) (by kernel_rfl) ?_
    intro o ho K hK
    simp only [gA, gB, gC, gG] at ho
    subst ho
    go_simp
    have z2 := two_same (.int .i64 s.f.lo) (.int .i64 s.f.hi) Gq10
    have hs2 : Steps (fun k => k = q10) w8 ((w8.setCell ⟨q10, 0, none⟩ (.int .i64 s.f.lo)).setCell ⟨q10, 1, none⟩ (.int .i64 s.f.hi)) := (Steps.setCell (own := fun k => k = q10) w8 (p := ⟨q10, 0, none⟩) rfl _).trans (Steps.setCell (own := fun k => k = q10) _ (p := ⟨q10, 1, none⟩) rfl _) (fun _ _ h => h)
    have H9 := H8.trans hs2 (fun k hk h => by omega)
    have z1 := hs2.obj (k := q9) (by omega) zz
    refine hK _ _ H9 (fun _ => ?_)
    clear hK K
    try simp only [Act.put, gD, gE, gF]
    refine wpAnyW_done (by kernel_rfl) ?_ _
    dsimp only [onNormal]
    exact HFIN.out _ _ _ _ _ _ _ _ _ _ q9 q10 _ ⟨q9W, q10W, z1, z2, H9⟩
  ·
    intro oo ho K hK
    simp only [gA, gB, gC, gG] at ho
    subst ho
    go_simp
    have hst := Steps.alloc (fun _ => False) w0 (.cells #[.int .i64 0, .int .i64 0] 23)
    have hnw := obj_new w0 (.cells #[.int .i64 0, .int .i64 0] 23)
    have H1 := H0.trans hst (fun _ _ h => h)
    refine hK _ _ H1 (fun _ => ?_)
    clear hK K
    try simp only [Act.put, gD, gE, gF]
    obtain ⟨q10, hqe⟩ : ∃ q, w0.heap.size = q := ⟨_, rfl⟩
    have q10l : q10 < (w0.alloc (.cells #[.int .i64 0, .int .i64 0] 23)).heap.size := by rw [← hqe]; simp
    generalize w0.alloc (.cells #[.int .i64 0, .int .i64 0] 23) = w1 at hst hnw H1 q10l ⊢
    rw [hqe] at hnw
    try rw [hqe]
    have q10W : W.heap.size ≤ q10 := by have := H0.size; omega
    have Gq10 := hnw
    clear hst hnw hqe
    refine wpAnyW_one 10 (by kernel_rfl) (by kernel_rfl) ?_
    intro oo ho K hK
    simp only [gA, gB, gC, gG] at ho
    subst ho
    go_simp
    have hst := Steps.alloc (fun _ => False) w1 (.cells #[.int .i64 0, .int .i64 0, .int .i64 0, .int .i64 0] 25)
    have hnw := obj_new w1 (.cells #[.int .i64 0, .int .i64 0, .int .i64 0, .int .i64 0] 25)
    have H2 := H1.trans hst (fun _ _ h => h)
    refine hK _ _ H2 (fun _ => ?_)
    clear hK K
    try simp only [Act.put, gD, gE, gF]
    obtain ⟨q9, hqe⟩ : ∃ q, w1.heap.size = q := ⟨_, rfl⟩
    have q9l : q9 < (w1.alloc (.cells #[.int .i64 0, .int .i64 0, .int .i64 0, .int .i64 0] 25)).heap.size := by rw [← hqe]; simp
    generalize w1.alloc (.cells #[.int .i64 0, .int .i64 0, .int .i64 0, .int .i64 0] 25) = w2 at hst hnw H2 q9l ⊢
    rw [hqe] at hnw
    try rw [hqe]
    have q9W : W.heap.size ≤ q9 := by have := H1.size; omega
    have Gq9 := hnw
    replace Gq10 := hst.obj (fun h => h) Gq10
    have hne : q10 < q9 := by rw [← hqe]; exact q10l
    clear hst hnw hqe
    have cz := fun k => cell_block Gq9 k
    have fz := fun k => frozen_block Gq9 k
    have c0 := cz 0
    have fc0 := fz 0
    have c1 := cz 1
    have fc1 := fz 1
    have c2 := cz 2
    have fc2 := fz 2
    have c3 := cz 3
    have fc3 := fz 3
    clear cz fz
    simp only [gA, gB, gC] at c0 c1 c2 c3
    have cz := fun k => cell_block Gq10 k
    have fz := fun k => frozen_block Gq10 k
    have d0 := cz 0
    have fd0 := fz 0
    have d1 := cz 1
    have fd1 := fz 1
    clear cz fz
    simp only [gA, gB, gC] at d0 d1
    refine wpAnyW_one 12 (by kernel_rfl) (by kernel_rfl) ?_
    intro o ho K hK
    simp only [gA, gB, gC, gG] at ho
    subst ho
    go_simp
    have zz : ((((w2.setCell ⟨q9, 0, none⟩ (.int .i64 s.ax.lo)).setCell ⟨q9, 1, none⟩ (.int .i64 s.ax.hi)).setCell ⟨q9, 2, none⟩ (.int .i64 s.ay.lo)).setCell ⟨q9, 3, none⟩ (.int .i64 s.ay.hi)).heap[q9]? = some (.cells #[.int .i64 s.ax.lo, .int .i64 s.ax.hi, .int .i64 s.ay.lo, .int .i64 s.ay.hi] 25) := by
      rw [block_set (block_set (block_set (block_set Gq9 0 _) 1 _) 2 _) 3 _]
      simp
    have st1 : ∀ (A : World) (o : Nat) (v : Value), Steps (fun k => k = q9) A (A.setCell ⟨q9, o, none⟩ v) := fun A o v => Steps.setCell (own := fun k => k = q9) A (p := ⟨q9, o, none⟩) rfl v
    have hs := (((st1 w2 0 (.int .i64 s.ax.lo)).trans (st1 _ 1 (.int .i64 s.ax.hi)) (fun _ _ h => h)).trans (st1 _ 2 (.int .i64 s.ay.lo)) (fun _ _ h => h)).trans (st1 _ 3 (.int .i64 s.ay.hi)) (fun _ _ h => h)
    generalize (((w2.setCell ⟨q9, 0, none⟩ (.int .i64 s.ax.lo)).setCell ⟨q9, 1, none⟩ (.int .i64 s.ax.hi)).setCell ⟨q9, 2, none⟩ (.int .i64 s.ay.lo)).setCell ⟨q9, 3, none⟩ (.int .i64 s.ay.hi) = w8 at zz hs hK ⊢
    have H8 := H2.trans hs (fun k hk h => by omega)
    refine hK _ _ H8 (fun _ => ?_)
    clear hK K c0 c1 c2 c3 fc0 fc1 fc2 fc3 d0 d1 fd0 fd1 st1
    try simp only [Act.put, gD, gE, gF]
    replace Gq10 := hs.obj (k := q10) (by omega) Gq10
    have cz := fun k => cell_block Gq10 k
    have fz := fun k => frozen_block Gq10 k
    have d0 := cz 0
    have fd0 := fz 0
    have d1 := cz 1
    have fd1 := fz 1
    clear cz fz
    simp only [gA, gB, gC] at d0 d1
    refine wpAnyW_one 13 (by kernel_rfl) (by kernel_rfl) ?_
    intro o ho K hK
    simp only [gA, gB, gC, gG] at ho
    subst ho
    go_simp
    have z2 := two_same (.int .i64 s.f.lo) (.int .i64 s.f.hi) Gq10
    have hs2 : Steps (fun k => k = q10) w8 ((w8.setCell ⟨q10, 0, none⟩ (.int .i64 s.f.lo)).setCell ⟨q10, 1, none⟩ (.int .i64 s.f.hi)) := (Steps.setCell (own := fun k => k = q10) w8 (p := ⟨q10, 0, none⟩) rfl _).trans (Steps.setCell (own := fun k => k = q10) _ (p := ⟨q10, 1, none⟩) rfl _) (fun _ _ h => h)
    have H9 := H8.trans hs2 (fun k hk h => by omega)
    have z1 := hs2.obj (k := q9) (by omega) zz
    refine hK _ _ H9 (fun _ => ?_)
    clear hK K
    try simp only [Act.put, gD, gE, gF]
    refine wpAnyW_done (by kernel_rfl) ?_ _
    dsimp only [onNormal]
    exact HFIN.out _ _ _ _ _ _ _ _ _ _ q9 q10 _ ⟨q9W, q10W, z1, z2, H9⟩

theorem of_reg6_2 (z fc : Nat) (s : ISheet) (fa : Option Addr) (W : World) {z0 z1 z3 z4 z5 z6 z7 z11 z12 z13 z14 z15 z16 z17 z18 z19 z20 z21 z22 z23 z24 z25 z26 z27 z28 z29 z30 z31 z32 z33 z44 z45 z46 z47 z48 z49 z50 z51 z52 z53 z54 z55 z56 z57 z58 z59 z60 z61 z62 z63 z64 z65 z66 z67 z68 z69 z70 z71 z72 z73 z74 z75 z76 z77 z78 z79 z80 z81 z82 z83 z84 z85 z86 z87 z88 z89 z90 z91 z92 z93 z94 z95 z96 z97 z98 z99 z100 z101 z102 z103 z104 z105 z106 z107 z108 z109 z110 z111 z112 z113 z114 z115 z116 z117 z118 z119 z120 z121 z122 : Value} {z9 z10 z34 z35 z36 z37 z38 z39 z40 z41 z42 z43 : Value} (hs : ShAt W z s fa fc) (K : Act → World → Prop) (Q : Exit → Act → World → Prop)
    (hfin : ∀ (s34 s35 s36 s37 s38 s39 s40 s41 s42 s43 : Value) (q9 q10 : Nat) (w' : World), (W.heap.size ≤ q9 ∧ W.heap.size ≤ q10 ∧ w'.heap[q9]? = some (.cells #[.int .i64 s.bx.lo, .int .i64 s.bx.hi, .int .i64 s.by'.lo, .int .i64 s.by'.hi] 25) ∧ w'.heap[q10]? = some (.cells #[.int .i64 s.g.lo, .int .i64 s.g.hi] 23) ∧ Steps (fun _ => False) W w') → K ⟨(z0::z1::(.pointer (some ⟨z, 0, none⟩))::z3::z4::z5::z6::z7::(.int .i64 2)::(.pointer (some ⟨q9, 0, none⟩))::(.pointer (some ⟨q10, 0, none⟩))::z11::z12::z13::z14::z15::z16::z17::z18::z19::z20::z21::z22::z23::z24::z25::z26::z27::z28::z29::z30::z31::z32::z33::s34::s35::s36::s37::s38::s39::s40::s41::s42::s43::z44::z45::z46::z47::z48::z49::z50::z51::z52::z53::z54::z55::z56::z57::z58::z59::z60::z61::z62::z63::z64::z65::z66::z67::z68::z69::z70::z71::z72::z73::z74::z75::z76::z77::z78::z79::z80::z81::z82::z83::z84::z85::z86::z87::z88::z89::z90::z91::z92::z93::z94::z95::z96::z97::z98::z99::z100::z101::z102::z103::z104::z105::z106::z107::z108::z109::z110::z111::z112::z113::z114::z115::z116::z117::z118::z119::z120::z121::z122 :: []).toArray, []⟩ w') :
    Code.wp Try.prog ((Try.f37.body.bind (findReg 6)).getD .skip) (Exit.then K Q) ⟨(z0::z1::(.pointer (some ⟨z, 0, none⟩))::z3::z4::z5::z6::z7::(.int .i64 2)::z9::z10::z11::z12::z13::z14::z15::z16::z17::z18::z19::z20::z21::z22::z23::z24::z25::z26::z27::z28::z29::z30::z31::z32::z33::z34::z35::z36::z37::z38::z39::z40::z41::z42::z43::z44::z45::z46::z47::z48::z49::z50::z51::z52::z53::z54::z55::z56::z57::z58::z59::z60::z61::z62::z63::z64::z65::z66::z67::z68::z69::z70::z71::z72::z73::z74::z75::z76::z77::z78::z79::z80::z81::z82::z83::z84::z85::z86::z87::z88::z89::z90::z91::z92::z93::z94::z95::z96::z97::z98::z99::z100::z101::z102::z103::z104::z105::z106::z107::z108::z109::z110::z111::z112::z113::z114::z115::z116::z117::z118::z119::z120::z121::z122 :: []).toArray, []⟩ W := by
  have HFIN := Lib.hid hfin
  have k0 : ∀ W', Steps (fun _ => False) W W' → W'.cell? ⟨z, 4, none⟩ = some (.int .i64 s.bx.lo) := fun W' h => icell_apart h (fun h => h) (hs.c4)
  have k1 : ∀ W', Steps (fun _ => False) W W' → W'.cell? ⟨z, 5, none⟩ = some (.int .i64 s.bx.hi) := fun W' h => icell_apart h (fun h => h) (hs.c5)
  have k2 : ∀ W', Steps (fun _ => False) W W' → W'.cell? ⟨z, 6, none⟩ = some (.int .i64 s.by'.lo) := fun W' h => icell_apart h (fun h => h) (hs.c6)
  have k3 : ∀ W', Steps (fun _ => False) W W' → W'.cell? ⟨z, 7, none⟩ = some (.int .i64 s.by'.hi) := fun W' h => icell_apart h (fun h => h) (hs.c7)
  have k4 : ∀ W', Steps (fun _ => False) W W' → W'.cell? ⟨z, 10, none⟩ = some (.int .i64 s.g.lo) := fun W' h => icell_apart h (fun h => h) (hs.c10)
  have k5 : ∀ W', Steps (fun _ => False) W W' → W'.cell? ⟨z, 11, none⟩ = some (.int .i64 s.g.hi) := fun W' h => icell_apart h (fun h => h) (hs.c11)
  clear hfin
  conv => arg 2; whnf
  refine (wpIn_wide (n := 0)).1 ?_
  refine wpIn_region_Wn (S := fun W' => Steps (fun _ => False) W W') 14 (by kernel_rfl) (by kernel_rfl) (Steps.refl _ W).drew (fun H0 => ?_)
  generalize W.drew = w0 at H0 ⊢
  have hw0 : IntKind.i64.wrap 0 = 0 := by decide
  have hw1 : IntKind.i64.wrap 1 = 1 := by decide
  refine wTk 0 34 ?_ ?_ ?_
  rotate_left
  · intro o h w k; (try dsimp only at k); simp only [gA, gB, gC, gG] at h; subst h; go_simp; try with_reducible rfl
  simp only [Act.put, gD, gE, gF]
  refine wTk 1 35 ?_ ?_ ?_
  rotate_left
  · intro o h w k; (try dsimp only at k); simp only [gA, gB, gC, gG] at h; subst h; go_simp; try with_reducible rfl
  simp only [Act.put, gD, gE, gF]
  refine wTk 2 36 ?_ ?_ ?_
  rotate_left
  · intro o h w k; (try dsimp only at k); simp only [gA, gB, gC, gG] at h; subst h; go_simp; try with_reducible rfl
  simp only [Act.put, gD, gE, gF]
  refine wTk 3 37 ?_ ?_ ?_
  rotate_left
  · intro o h w k; (try dsimp only at k); simp only [gA, gB, gC, gG] at h; subst h; go_simp; try with_reducible rfl
  simp only [Act.put, gD, gE, gF]
  refine wTk 4 38 ?_ ?_ ?_
  rotate_left
  · intro o h w k; (try dsimp only at k); simp only [gA, gB, gC, gG] at h; subst h; go_simp; try with_reducible rfl
  simp only [Act.put, gD, gE, gF]
  refine wTk 5 39 ?_ ?_ ?_
  rotate_left
  · intro o h w k; (try dsimp only at k); simp only [gA, gB, gC, gG] at h; subst h; go_simp; try with_reducible rfl
  simp only [Act.put, gD, gE, gF]
  refine wTk 6 40 ?_ ?_ ?_
  rotate_left
  · intro o h w k; (try dsimp only at k); simp only [gA, gB, gC, gG] at h; subst h; go_simp; try with_reducible rfl
  simp only [Act.put, gD, gE, gF]
  refine wTk 7 41 ?_ ?_ ?_
  rotate_left
  · intro o h w k; (try dsimp only at k); simp only [gA, gB, gC, gG] at h; subst h; go_simp; try with_reducible rfl
  simp only [Act.put, gD, gE, gF]
  refine wTk 8 42 ?_ ?_ ?_
  rotate_left
  · intro o h w k; (try dsimp only at k); simp only [gA, gB, gC, gG] at h; subst h; go_simp; try with_reducible rfl
  simp only [Act.put, gD, gE, gF]
  refine wTk 9 43 ?_ ?_ ?_
  rotate_left
  · intro o h w k; (try dsimp only at k); simp only [gA, gB, gC, gG] at h; subst h; go_simp; try with_reducible rfl
  simp only [Act.put, gD, gE, gF]
  clear k0 k1 k2 k3 k4 k5
  refine wpAnyW_two 10 11 (by kernel_rfl) ⟨by kernel_rfl, by kernel_rfl⟩ ?_ ?_
  ·
    intro oo ho K hK
    simp only [gA, gB, gC, gG] at ho
    subst ho
    go_simp
    have hst := Steps.alloc (fun _ => False) w0 (.cells #[.int .i64 0, .int .i64 0, .int .i64 0, .int .i64 0] 25)
    have hnw := obj_new w0 (.cells #[.int .i64 0, .int .i64 0, .int .i64 0, .int .i64 0] 25)
    have H1 := H0.trans hst (fun _ _ h => h)
    refine hK _ _ H1 (fun _ => ?_)
    clear hK K
    try simp only [Act.put, gD, gE, gF]
    obtain ⟨q9, hqe⟩ : ∃ q, w0.heap.size = q := ⟨_, rfl⟩
    have q9l : q9 < (w0.alloc (.cells #[.int .i64 0, .int .i64 0, .int .i64 0, .int .i64 0] 25)).heap.size := by rw [← hqe]; simp
    generalize w0.alloc (.cells #[.int .i64 0, .int .i64 0, .int .i64 0, .int .i64 0] 25) = w1 at hst hnw H1 q9l ⊢
    rw [hqe] at hnw
    try rw [hqe]
    have q9W : W.heap.size ≤ q9 := by have := H0.size; omega
    have Gq9 := hnw
    clear hst hnw hqe
    refine wpAnyW_one 11 (by kernel_rfl) (by kernel_rfl) ?_
    intro oo ho K hK
    simp only [gA, gB, gC, gG] at ho
    subst ho
    go_simp
    have hst := Steps.alloc (fun _ => False) w1 (.cells #[.int .i64 0, .int .i64 0] 23)
    have hnw := obj_new w1 (.cells #[.int .i64 0, .int .i64 0] 23)
    have H2 := H1.trans hst (fun _ _ h => h)
    refine hK _ _ H2 (fun _ => ?_)
    clear hK K
    try simp only [Act.put, gD, gE, gF]
    obtain ⟨q10, hqe⟩ : ∃ q, w1.heap.size = q := ⟨_, rfl⟩
    have q10l : q10 < (w1.alloc (.cells #[.int .i64 0, .int .i64 0] 23)).heap.size := by rw [← hqe]; simp
    generalize w1.alloc (.cells #[.int .i64 0, .int .i64 0] 23) = w2 at hst hnw H2 q10l ⊢
    rw [hqe] at hnw
    try rw [hqe]
    have q10W : W.heap.size ≤ q10 := by have := H1.size; omega
    have Gq10 := hnw
    replace Gq9 := hst.obj (fun h => h) Gq9
    have hne : q9 < q10 := by rw [← hqe]; exact q9l
    clear hst hnw hqe
    have cz := fun k => cell_block Gq9 k
    have fz := fun k => frozen_block Gq9 k
    have c0 := cz 0
    have fc0 := fz 0
    have c1 := cz 1
    have fc1 := fz 1
    have c2 := cz 2
    have fc2 := fz 2
    have c3 := cz 3
    have fc3 := fz 3
    clear cz fz
    simp only [gA, gB, gC] at c0 c1 c2 c3
    have cz := fun k => cell_block Gq10 k
    have fz := fun k => frozen_block Gq10 k
    have d0 := cz 0
    have fd0 := fz 0
    have d1 := cz 1
    have fd1 := fz 1
    clear cz fz
    simp only [gA, gB, gC] at d0 d1
    refine wpAnyW_one 12 (by kernel_rfl) (by kernel_rfl) ?_
    intro o ho K hK
    simp only [gA, gB, gC, gG] at ho
    subst ho
    go_simp
    have zz : ((((w2.setCell ⟨q9, 0, none⟩ (.int .i64 s.bx.lo)).setCell ⟨q9, 1, none⟩ (.int .i64 s.bx.hi)).setCell ⟨q9, 2, none⟩ (.int .i64 s.by'.lo)).setCell ⟨q9, 3, none⟩ (.int .i64 s.by'.hi)).heap[q9]? = some (.cells #[.int .i64 s.bx.lo, .int .i64 s.bx.hi, .int .i64 s.by'.lo, .int .i64 s.by'.hi] 25) := by
      rw [block_set (block_set (block_set (block_set Gq9 0 _) 1 _) 2 _) 3 _]
      simp
    have st1 : ∀ (A : World) (o : Nat) (v : Value), Steps (fun k => k = q9) A (A.setCell ⟨q9, o, none⟩ v) := fun A o v => Steps.setCell (own := fun k => k = q9) A (p := ⟨q9, o, none⟩) rfl v
    have hs := (((st1 w2 0 (.int .i64 s.bx.lo)).trans (st1 _ 1 (.int .i64 s.bx.hi)) (fun _ _ h => h)).trans (st1 _ 2 (.int .i64 s.by'.lo)) (fun _ _ h => h)).trans (st1 _ 3 (.int .i64 s.by'.hi)) (fun _ _ h => h)
    generalize (((w2.setCell ⟨q9, 0, none⟩ (.int .i64 s.bx.lo)).setCell ⟨q9, 1, none⟩ (.int .i64 s.bx.hi)).setCell ⟨q9, 2, none⟩ (.int .i64 s.by'.lo)).setCell ⟨q9, 3, none⟩ (.int .i64 s.by'.hi) = w8 at zz hs hK ⊢
    have H8 := H2.trans hs (fun k hk h => by omega)
    refine hK _ _ H8 (fun _ => ?_)
    clear hK K c0 c1 c2 c3 fc0 fc1 fc2 fc3 d0 d1 fd0 fd1 st1
    try simp only [Act.put, gD, gE, gF]
    replace Gq10 := hs.obj (k := q10) (by omega) Gq10
    have cz := fun k => cell_block Gq10 k
    have fz := fun k => frozen_block Gq10 k
    have d0 := cz 0
    have fd0 := fz 0
    have d1 := cz 1
    have fd1 := fz 1
    clear cz fz
    simp only [gA, gB, gC] at d0 d1
    refine wpAnyW_one 13 (by kernel_rfl) (by kernel_rfl) ?_
    intro o ho K hK
    simp only [gA, gB, gC, gG] at ho
    subst ho
    go_simp
    have z2 := two_same (.int .i64 s.g.lo) (.int .i64 s.g.hi) Gq10
    have hs2 : Steps (fun k => k = q10) w8 ((w8.setCell ⟨q10, 0, none⟩ (.int .i64 s.g.lo)).setCell ⟨q10, 1, none⟩ (.int .i64 s.g.hi)) := (Steps.setCell (own := fun k => k = q10) w8 (p := ⟨q10, 0, none⟩) rfl _).trans (Steps.setCell (own := fun k => k = q10) _ (p := ⟨q10, 1, none⟩) rfl _) (fun _ _ h => h)
    have H9 := H8.trans hs2 (fun k hk h => by omega)
    have z1 := hs2.obj (k := q9) (by omega) zz
    refine hK _ _ H9 (fun _ => ?_)
    clear hK K
    try simp only [Act.put, gD, gE, gF]
    refine wpAnyW_done (by kernel_rfl) ?_ _
    dsimp only [onNormal]
    exact HFIN.out _ _ _ _ _ _ _ _ _ _ q9 q10 _ ⟨q9W, q10W, z1, z2, H9⟩
  ·
    intro oo ho K hK
    simp only [gA, gB, gC, gG] at ho
    subst ho
    go_simp
    have hst := Steps.alloc (fun _ => False) w0 (.cells #[.int .i64 0, .int .i64 0] 23)
    have hnw := obj_new w0 (.cells #[.int .i64 0, .int .i64 0] 23)
    have H1 := H0.trans hst (fun _ _ h => h)
    refine hK _ _ H1 (fun _ => ?_)
    clear hK K
    try simp only [Act.put, gD, gE, gF]
    obtain ⟨q10, hqe⟩ : ∃ q, w0.heap.size = q := ⟨_, rfl⟩
    have q10l : q10 < (w0.alloc (.cells #[.int .i64 0, .int .i64 0] 23)).heap.size := by rw [← hqe]; simp
    generalize w0.alloc (.cells #[.int .i64 0, .int .i64 0] 23) = w1 at hst hnw H1 q10l ⊢
    rw [hqe] at hnw
    try rw [hqe]
    have q10W : W.heap.size ≤ q10 := by have := H0.size; omega
    have Gq10 := hnw
    clear hst hnw hqe
    refine wpAnyW_one 10 (by kernel_rfl) (by kernel_rfl) ?_
    intro oo ho K hK
    simp only [gA, gB, gC, gG] at ho
    subst ho
    go_simp
    have hst := Steps.alloc (fun _ => False) w1 (.cells #[.int .i64 0, .int .i64 0, .int .i64 0, .int .i64 0] 25)
    have hnw := obj_new w1 (.cells #[.int .i64 0, .int .i64 0, .int .i64 0, .int .i64 0] 25)
    have H2 := H1.trans hst (fun _ _ h => h)
    refine hK _ _ H2 (fun _ => ?_)
    clear hK K
    try simp only [Act.put, gD, gE, gF]
    obtain ⟨q9, hqe⟩ : ∃ q, w1.heap.size = q := ⟨_, rfl⟩
    have q9l : q9 < (w1.alloc (.cells #[.int .i64 0, .int .i64 0, .int .i64 0, .int .i64 0] 25)).heap.size := by rw [← hqe]; simp
    generalize w1.alloc (.cells #[.int .i64 0, .int .i64 0, .int .i64 0, .int .i64 0] 25) = w2 at hst hnw H2 q9l ⊢
    rw [hqe] at hnw
    try rw [hqe]
    have q9W : W.heap.size ≤ q9 := by have := H1.size; omega
    have Gq9 := hnw
    replace Gq10 := hst.obj (fun h => h) Gq10
    have hne : q10 < q9 := by rw [← hqe]; exact q10l
    clear hst hnw hqe
    have cz := fun k => cell_block Gq9 k
    have fz := fun k => frozen_block Gq9 k
    have c0 := cz 0
    have fc0 := fz 0
    have c1 := cz 1
    have fc1 := fz 1
    have c2 := cz 2
    have fc2 := fz 2
    have c3 := cz 3
    have fc3 := fz 3
    clear cz fz
    simp only [gA, gB, gC] at c0 c1 c2 c3
    have cz := fun k => cell_block Gq10 k
    have fz := fun k => frozen_block Gq10 k
    have d0 := cz 0
    have fd0 := fz 0
    have d1 := cz 1
    have fd1 := fz 1
    clear cz fz
    simp only [gA, gB, gC] at d0 d1
    refine wpAnyW_one 12 (by kernel_rfl) (by kernel_rfl) ?_
    intro o ho K hK
    simp only [gA, gB, gC, gG] at ho
    subst ho
    go_simp
    have zz : ((((w2.setCell ⟨q9, 0, none⟩ (.int .i64 s.bx.lo)).setCell ⟨q9, 1, none⟩ (.int .i64 s.bx.hi)).setCell ⟨q9, 2, none⟩ (.int .i64 s.by'.lo)).setCell ⟨q9, 3, none⟩ (.int .i64 s.by'.hi)).heap[q9]? = some (.cells #[.int .i64 s.bx.lo, .int .i64 s.bx.hi, .int .i64 s.by'.lo, .int .i64 s.by'.hi] 25) := by
      rw [block_set (block_set (block_set (block_set Gq9 0 _) 1 _) 2 _) 3 _]
      simp
    have st1 : ∀ (A : World) (o : Nat) (v : Value), Steps (fun k => k = q9) A (A.setCell ⟨q9, o, none⟩ v) := fun A o v => Steps.setCell (own := fun k => k = q9) A (p := ⟨q9, o, none⟩) rfl v
    have hs := (((st1 w2 0 (.int .i64 s.bx.lo)).trans (st1 _ 1 (.int .i64 s.bx.hi)) (fun _ _ h => h)).trans (st1 _ 2 (.int .i64 s.by'.lo)) (fun _ _ h => h)).trans (st1 _ 3 (.int .i64 s.by'.hi)) (fun _ _ h => h)
    generalize (((w2.setCell ⟨q9, 0, none⟩ (.int .i64 s.bx.lo)).setCell ⟨q9, 1, none⟩ (.int .i64 s.bx.hi)).setCell ⟨q9, 2, none⟩ (.int .i64 s.by'.lo)).setCell ⟨q9, 3, none⟩ (.int .i64 s.by'.hi) = w8 at zz hs hK ⊢
    have H8 := H2.trans hs (fun k hk h => by omega)
    refine hK _ _ H8 (fun _ => ?_)
    clear hK K c0 c1 c2 c3 fc0 fc1 fc2 fc3 d0 d1 fd0 fd1 st1
    try simp only [Act.put, gD, gE, gF]
    replace Gq10 := hs.obj (k := q10) (by omega) Gq10
    have cz := fun k => cell_block Gq10 k
    have fz := fun k => frozen_block Gq10 k
    have d0 := cz 0
    have fd0 := fz 0
    have d1 := cz 1
    have fd1 := fz 1
    clear cz fz
    simp only [gA, gB, gC] at d0 d1
    refine wpAnyW_one 13 (by kernel_rfl) (by kernel_rfl) ?_
    intro o ho K hK
    simp only [gA, gB, gC, gG] at ho
    subst ho
    go_simp
    have z2 := two_same (.int .i64 s.g.lo) (.int .i64 s.g.hi) Gq10
    have hs2 : Steps (fun k => k = q10) w8 ((w8.setCell ⟨q10, 0, none⟩ (.int .i64 s.g.lo)).setCell ⟨q10, 1, none⟩ (.int .i64 s.g.hi)) := (Steps.setCell (own := fun k => k = q10) w8 (p := ⟨q10, 0, none⟩) rfl _).trans (Steps.setCell (own := fun k => k = q10) _ (p := ⟨q10, 1, none⟩) rfl _) (fun _ _ h => h)
    have H9 := H8.trans hs2 (fun k hk h => by omega)
    have z1 := hs2.obj (k := q9) (by omega) zz
    refine hK _ _ H9 (fun _ => ?_)
    clear hK K
    try simp only [Act.put, gD, gE, gF]
    refine wpAnyW_done (by kernel_rfl) ?_ _
    dsimp only [onNormal]
    exact HFIN.out _ _ _ _ _ _ _ _ _ _ q9 q10 _ ⟨q9W, q10W, z1, z2, H9⟩
end Go.Proofs.Ytacioedolmaofaa
