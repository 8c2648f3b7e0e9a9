/- The reference: Needs, open. The law ImageFits, walked. -/
import Derived.Test.YtacioedolmaofaaLBX28
import Derived.Test.YtacioedolmaofaaLBX21
import Derived.Test.YtacioedolmaofaaLBX27
import Derived.Test.YtacioedolmaofaaLBX24
namespace Go.Proofs.Ytacioedolmaofaa
open Go.RowKit Go.Shelf
set_option maxHeartbeats 6400000
set_option maxRecDepth 100000
set_option linter.unusedSimpArgs false
set_option linter.unusedVariables false

theorem allW_flaws (s : ISheet) (F : Int) : allW { s with flaws := F } = waysOf s.trails s.l.length F s.l.length 0 0 := allW_eq { s with flaws := F }
theorem ok_flaws {s : ISheet} (hok : s.ok = true) {F : Int} (h0 : 0 ≤ F) (h9 : F ≤ 9) : ({ s with flaws := F } : ISheet).ok = true := by
  obtain ⟨h1, h2, h3, h4, h5, h6, h7, h8, _, h10⟩ := (iok_iff s).1 hok
  exact (iok_iff _).2 ⟨h1, h2, h3, h4, h5, h6, h7, h8, ⟨h0, h9⟩, h10⟩
/-- No way with so few flaws; one with as many as there must be. -/
theorem allW_needs {s : ISheet} (hn : s.l.length ≤ 9) (F : Int) : (allW { s with flaws := F }).length = 0 ↔ F < (tellN s.trails s.l.length s.l.length 0 0).flaws := by
  have hN := needsAre hn
  rw [allW_flaws, ← tellN_many F (tp_of hn) 0 (by omega)]
  have hm := many_iff F (tp_of hn) 0 (by omega) 0
  constructor
  · intro h
    by_cases hc : F < (tellN s.trails s.l.length s.l.length 0 0).flaws
    · exact hc
    · obtain ⟨w, hw, e⟩ := hN.one
      exact absurd h (hm.2 ⟨w, hw, by omega⟩)
  · intro h
    by_cases hc : (tellN s.trails s.l.length F 0 0).many = 0
    · exact hc
    · obtain ⟨w, hw, e⟩ := hm.1 hc
      have := hN.min w hw
      omega

theorem irNeeds_any (s : ISheet) (fa : Option Addr) (fc : Nat) (w : World) (hl : ImSl w fa s.l) (hlen : s.l.length < 9223372036854775807) (hn : s.ok = true → s.l.length ≤ 5) :
    Calls Try.prog 18 #[.agg #[.int .i64 s.ax.lo, .int .i64 s.ax.hi, .int .i64 s.ay.lo, .int .i64 s.ay.hi, .int .i64 s.bx.lo, .int .i64 s.bx.hi, .int .i64 s.by'.lo, .int .i64 s.by'.hi, .int .i64 s.f.lo, .int .i64 s.f.hi, .int .i64 s.g.lo, .int .i64 s.g.hi, .int .i64 s.limit, .int .i64 s.flaws, .slice fa s.l.length fc]] w fun e w' => e = .returned (.tuple #[.int .i64 (itNeeds s).1, .int .i64 (itNeeds s).2]) ∧ Below w.heap.size w w' := by
  obtain ⟨rv, hrv⟩ : ∃ rv, itNeeds s = rv := ⟨_, rfl⟩
  rw [hrv]
  have HRV := Lib.hid hrv
  clear hrv
  have hcs := irSheet_any s fa fc
  have HCS := Lib.hid (fun w hl => hcs w hl hlen)
  have HL := Lib.hid hl
  clear hl hlen hcs
  go_enter Try.func18, Try.ntmps18
  go_upto_region 1 with fail
  have hb := below_alloc w (.cells #[.int .i64 s.ax.lo, .int .i64 s.ax.hi, .int .i64 s.ay.lo, .int .i64 s.ay.hi, .int .i64 s.bx.lo, .int .i64 s.bx.hi, .int .i64 s.by'.lo, .int .i64 s.by'.hi, .int .i64 s.f.lo, .int .i64 s.f.hi, .int .i64 s.g.lo, .int .i64 s.g.hi, .int .i64 s.limit, .int .i64 s.flaws, .slice fa s.l.length fc] 30)
  have hg := obj_new w (.cells #[.int .i64 s.ax.lo, .int .i64 s.ax.hi, .int .i64 s.ay.lo, .int .i64 s.ay.hi, .int .i64 s.bx.lo, .int .i64 s.bx.hi, .int .i64 s.by'.lo, .int .i64 s.by'.hi, .int .i64 s.f.lo, .int .i64 s.f.hi, .int .i64 s.g.lo, .int .i64 s.g.hi, .int .i64 s.limit, .int .i64 s.flaws, .slice fa s.l.length fc] 30)
  generalize w.alloc (.cells #[.int .i64 s.ax.lo, .int .i64 s.ax.hi, .int .i64 s.ay.lo, .int .i64 s.ay.hi, .int .i64 s.bx.lo, .int .i64 s.bx.hi, .int .i64 s.by'.lo, .int .i64 s.by'.hi, .int .i64 s.f.lo, .int .i64 s.f.hi, .int .i64 s.g.lo, .int .i64 s.g.hi, .int .i64 s.limit, .int .i64 s.flaws, .slice fa s.l.length fc] 30) = W at hb hg ⊢
  have cz := fun k => cell_block hg k
  have c0 := cz 0
  have c1 := cz 1
  have c2 := cz 2
  have c3 := cz 3
  have c4 := cz 4
  have c5 := cz 5
  have c6 := cz 6
  have c7 := cz 7
  have c8 := cz 8
  have c9 := cz 9
  have c10 := cz 10
  have c11 := cz 11
  have c12 := cz 12
  have c13 := cz 13
  have c14 := cz 14
  clear cz
  simp only [gA, gB, gC] at c0 c1 c2 c3 c4 c5 c6 c7 c8 c9 c10 c11 c12 c13 c14
  go_wp2_with fail
  refine (HCS.out W (HL.out.below hb (Nat.le_refl _))).mono ?_
  rintro e w1 ⟨rfl, hb1⟩
  have hg1 := obj_later hb1 hg
  have hB1 := hb.trans (hb1.mono hb.size)
  clear c0 c1 c2 c3 c4 c5 c6 c7 c8 c9 c10 c11 c12 c13 c14
  clear hb hb1 hg HCS
  cases hok : s.ok
  · go_wp2_with fail
    go_ret2
    have hrv := HRV.out
    unfold itNeeds at hrv
    rw [hok, if_neg (by simp)] at hrv
    exact ⟨by rw [← hrv]; rfl, hB1⟩
  · have hn5 := hn hok
    have hN := needsAre (s := s) (by omega)
    have hW := fun F => allW_needs (s := s) (by omega) F
    obtain ⟨m, hm⟩ : ∃ m, (tellN s.trails s.l.length s.l.length 0 0).flaws = m := ⟨_, rfl⟩
    have hrv := HRV.out
    unfold itNeeds at hrv
    rw [hok, if_pos rfl, hm] at hrv
    have HRW := Lib.hid hrv
    clear hrv HRV
    rw [hm] at hN
    have HW := Lib.hid (fun F => by have := hW F; rw [hm] at this; exact this)
    have hm0 := hN.ge
    have hm5 := hN.le
    have HOK := Lib.hid hok
    clear hW hm hN hn hok
    have cz := fun k => cell_block hg1 k
    have c0 := cz 0
    have c1 := cz 1
    have c2 := cz 2
    have c3 := cz 3
    have c4 := cz 4
    have c5 := cz 5
    have c6 := cz 6
    have c7 := cz 7
    have c8 := cz 8
    have c9 := cz 9
    have c10 := cz 10
    have c11 := cz 11
    have c12 := cz 12
    have c13 := cz 13
    have c14 := cz 14
    clear cz
    simp only [gA, gB, gC] at c0 c1 c2 c3 c4 c5 c6 c7 c8 c9 c10 c11 c12 c13 c14
    go_upto_region 4 with fail
    have hb2 := below_alloc w1 (.cells #[.int .i64 s.ax.lo, .int .i64 s.ax.hi, .int .i64 s.ay.lo, .int .i64 s.ay.hi, .int .i64 s.bx.lo, .int .i64 s.bx.hi, .int .i64 s.by'.lo, .int .i64 s.by'.hi, .int .i64 s.f.lo, .int .i64 s.f.hi, .int .i64 s.g.lo, .int .i64 s.g.hi, .int .i64 s.limit, .int .i64 s.flaws, .slice fa s.l.length fc] 30)
    have hg2 := obj_new w1 (.cells #[.int .i64 s.ax.lo, .int .i64 s.ax.hi, .int .i64 s.ay.lo, .int .i64 s.ay.hi, .int .i64 s.bx.lo, .int .i64 s.bx.hi, .int .i64 s.by'.lo, .int .i64 s.by'.hi, .int .i64 s.f.lo, .int .i64 s.f.hi, .int .i64 s.g.lo, .int .i64 s.g.hi, .int .i64 s.limit, .int .i64 s.flaws, .slice fa s.l.length fc] 30)
    generalize w1.alloc (.cells #[.int .i64 s.ax.lo, .int .i64 s.ax.hi, .int .i64 s.ay.lo, .int .i64 s.ay.hi, .int .i64 s.bx.lo, .int .i64 s.bx.hi, .int .i64 s.by'.lo, .int .i64 s.by'.hi, .int .i64 s.f.lo, .int .i64 s.f.hi, .int .i64 s.g.lo, .int .i64 s.g.hi, .int .i64 s.limit, .int .i64 s.flaws, .slice fa s.l.length fc] 30) = W2 at hb2 hg2 ⊢
    obtain ⟨q, hq⟩ : ∃ q, w1.heap.size = q := ⟨_, rfl⟩
    rw [hq] at hg2 ⊢
    have hqs : w.heap.size ≤ q := by rw [← hq]; exact hB1.size
    have hB2 := hB1.trans (hb2.mono hB1.size)
    clear c0 c1 c2 c3 c4 c5 c6 c7 c8 c9 c10 c11 c12 c13 c14
    clear hb2 hq hB1 hg1
    have c13 := cell_block hg2 13
    have f13 := frozen_block hg2 13
    simp only [gA, gB, gC] at c13
    go_upto_region 5 with fail
    have hg3 : (W2.setCell ⟨q, 13, none⟩ (.int .i64 0)).heap[q]? = some (.cells #[.int .i64 s.ax.lo, .int .i64 s.ax.hi, .int .i64 s.ay.lo, .int .i64 s.ay.hi, .int .i64 s.bx.lo, .int .i64 s.bx.hi, .int .i64 s.by'.lo, .int .i64 s.by'.hi, .int .i64 s.f.lo, .int .i64 s.f.hi, .int .i64 s.g.lo, .int .i64 s.g.hi, .int .i64 s.limit, .int .i64 0, .slice fa s.l.length fc] 30) := block_set hg2 13 (.int .i64 0)
    have hB3 := hB2.setCell (p := ⟨q, 13, none⟩) hqs (.int .i64 0)
    generalize W2.setCell ⟨q, 13, none⟩ (.int .i64 0) = W3 at hg3 hB3 ⊢
    clear c13 f13 hg2 hB2
    have HR : Hid (∀ W, Below w.heap.size w W → ImSl W fa s.l) := Lib.hid (fun W h => HL.out.below h (Nat.le_refl _))
    have ltq := (Array.getElem?_eq_some_iff.1 hg3).1
    go_loopw [10] (fun _ wr => ∃ F : Nat, (F : Int) ≤ m ∧ wr.heap[q]? = some (.cells #[.int .i64 s.ax.lo, .int .i64 s.ax.hi, .int .i64 s.ay.lo, .int .i64 s.ay.hi, .int .i64 s.bx.lo, .int .i64 s.bx.hi, .int .i64 s.by'.lo, .int .i64 s.by'.hi, .int .i64 s.f.lo, .int .i64 s.f.hi, .int .i64 s.g.lo, .int .i64 s.g.hi, .int .i64 s.limit, .int .i64 F, .slice fa s.l.length fc] 30) ∧ Below w.heap.size w wr) (fun _ wr => (m - intOf ((wr.cell? ⟨q, 13, none⟩).getD (.int .i64 0))).toNat)
    case atStart => exact ⟨0, by omega, hg3, hB3⟩
    case round =>
      obtain ⟨F, hF, hgr, hBr⟩ := hrel
      have hal := irAll_any { s with flaws := (F : Int) } fa fc wr (ok_flaws HOK.out (by omega) (by omega)) hn5 (HR.out wr hBr)
      have HA := Lib.hid hal
      have hw := HW.out (F : Int)
      have hll := allW_len { s with flaws := (F : Int) } hn5
      obtain ⟨L, hL⟩ : ∃ L, allW { s with flaws := (F : Int) } = L := ⟨_, rfl⟩
      unfold AllP at HA
      rw [hL] at hw hll HA
      clear hal hL
      have cz := fun k => cell_block hgr k
      have c0 := cz 0
      have c1 := cz 1
      have c2 := cz 2
      have c3 := cz 3
      have c4 := cz 4
      have c5 := cz 5
      have c6 := cz 6
      have c7 := cz 7
      have c8 := cz 8
      have c9 := cz 9
      have c10 := cz 10
      have c11 := cz 11
      have c12 := cz 12
      have c13 := cz 13
      have c14 := cz 14
      clear cz
      simp only [gA, gB, gC] at c0 c1 c2 c3 c4 c5 c6 c7 c8 c9 c10 c11 c12 c13 c14
      by_cases hLz : L.length = 0
      · have hFm := hw.1 hLz
        go_wp2_with fail
        refine HA.out.mono ?_
        rintro e w2 ⟨a, c, rfl, _, hb2⟩
        have hg2 := obj_later hb2 hgr
        have hB2 := hBr.trans (hb2.mono hBr.size)
        have d13 := cell_block hg2 13
        have f13 := frozen_block hg2 13
        have r13 := cell_block hgr 13
        simp only [gA, gB, gC] at d13 r13
        have HR13 := Lib.hid r13
        clear c0 c1 c2 c3 c4 c5 c6 c7 c8 c9 c10 c11 c12 c13 c14
        clear hb2 hBr r13 HA hll hw
        rw [hLz]
        have hF9 : (F : Int) ≤ 9 := by omega
        go_wp2_with fail
        have hg3 : (w2.setCell ⟨q, 13, none⟩ (.int .i64 ((F : Int) + 1))).heap[q]? = some (.cells #[.int .i64 s.ax.lo, .int .i64 s.ax.hi, .int .i64 s.ay.lo, .int .i64 s.ay.hi, .int .i64 s.bx.lo, .int .i64 s.bx.hi, .int .i64 s.by'.lo, .int .i64 s.by'.hi, .int .i64 s.f.lo, .int .i64 s.f.hi, .int .i64 s.g.lo, .int .i64 s.g.hi, .int .i64 s.limit, .int .i64 ((F + 1 : Nat) : Int), .slice fa s.l.length fc] 30) := block_set hg2 13 (.int .i64 ((F : Int) + 1))
        have hB3 := hB2.setCell (p := ⟨q, 13, none⟩) hqs (.int .i64 ((F : Int) + 1))
        generalize w2.setCell ⟨q, 13, none⟩ (.int .i64 ((F : Int) + 1)) = w3 at hg3 hB3 ⊢
        clear d13 f13 hg2 hB2
        go_roundw
        case rel => exact ⟨F + 1, by omega, hg3, hB3⟩
        case measure =>
          have d13 := cell_block hg3 13
          simp only [gA, gB, gC] at d13
          rw [d13, HR13.out]
          simp [intOf]; omega
      · have hFm : Hid ((F : Int) = m) := Lib.hid (by
          by_cases h : (F : Int) < m
          · exact absurd (hw.2 h) hLz
          · omega)
        have hLi : ((L.length : Int) == 0) = false := by rw [beq_eq_false_iff_ne]; omega
        have hLp : (L.length : Int) ≠ 0 := by omega
        go_wp2_with fail
        refine HA.out.mono ?_
        rintro e w2 ⟨a, c, rfl, _, hb2⟩
        have hg2 := obj_later hb2 hgr
        have hB2 := hBr.trans (hb2.mono hBr.size)
        have d13 := cell_block hg2 13
        simp only [gA, gB, gC] at d13
        clear c0 c1 c2 c3 c4 c5 c6 c7 c8 c9 c10 c11 c12 c13 c14
        clear hb2 hBr HA hll hw
        go_wp2_with fail
        go_ret2
        exact ⟨by rw [← HRW.out, hFm.out]; rfl, hB2⟩
end Go.Proofs.Ytacioedolmaofaa
namespace Go.Proofs.Ytacioedolmaofaa
open Go.RowKit Go.Shelf
set_option maxHeartbeats 12800000
set_option maxRecDepth 100000
set_option linter.unusedSimpArgs false
set_option linter.unusedVariables false

theorem lawFits_any (s : ISheet) (fa : Option Addr) (fc : Nat) (t : ITr) (w : World) (him : ImSl w fa s.l) :
    Calls Try.prog 3 #[.agg #[.int .i64 s.ax.lo, .int .i64 s.ax.hi, .int .i64 s.ay.lo, .int .i64 s.ay.hi, .int .i64 s.bx.lo, .int .i64 s.bx.hi, .int .i64 s.by'.lo, .int .i64 s.by'.hi, .int .i64 s.f.lo, .int .i64 s.f.hi, .int .i64 s.g.lo, .int .i64 s.g.hi, .int .i64 s.limit, .int .i64 s.flaws, .slice fa s.l.length fc], .agg #[.int .i64 t.a, .int .i64 t.b, .int .i64 t.c]] w fun e w' => e = .returned (.bool true) ∧ Below w.heap.size w w' := by
  have HIM : Hid (∀ W, Below w.heap.size w W → ImSl W fa s.l) := Lib.hid (fun W h => him.below h (Nat.le_refl _))
  clear him
  go_enter Try.func3, Try.ntmps3
  go_upto_region 1 with fail
  obtain ⟨W0, hW0⟩ : ∃ W, ((w.alloc (.cells #[.int .i64 s.ax.lo, .int .i64 s.ax.hi, .int .i64 s.ay.lo, .int .i64 s.ay.hi, .int .i64 s.bx.lo, .int .i64 s.bx.hi, .int .i64 s.by'.lo, .int .i64 s.by'.hi, .int .i64 s.f.lo, .int .i64 s.f.hi, .int .i64 s.g.lo, .int .i64 s.g.hi, .int .i64 s.limit, .int .i64 s.flaws, .slice fa s.l.length fc] 30)).alloc (.cells #[.int .i64 t.a, .int .i64 t.b, .int .i64 t.c] 32)) = W := ⟨_, rfl⟩
  rw [hW0]
  try simp only [Nat.add_assoc, Nat.reduceAdd]
  have hst_W0 : Steps (fun _ => False) w W0 := by rw [← hW0]; exact (Steps.alloc _ w _).trans (Steps.alloc (fun _ => False) _ _) (fun _ _ h => h)
  have hz_W0 : W0.heap.size = w.heap.size + 2 := by rw [← hW0]; simp
  have g0_W0 : W0.heap[w.heap.size]? = some (.cells #[.int .i64 s.ax.lo, .int .i64 s.ax.hi, .int .i64 s.ay.lo, .int .i64 s.ay.hi, .int .i64 s.bx.lo, .int .i64 s.bx.hi, .int .i64 s.by'.lo, .int .i64 s.by'.hi, .int .i64 s.f.lo, .int .i64 s.f.hi, .int .i64 s.g.lo, .int .i64 s.g.hi, .int .i64 s.limit, .int .i64 s.flaws, .slice fa s.l.length fc] 30) := by rw [← hW0]; simp only [alloc_get, World.size_alloc]; repeat (first | exact if_pos trivial | exact if_pos (by omega) | rw [if_neg (by omega)])
  have g1_W0 : W0.heap[w.heap.size + 1]? = some (.cells #[.int .i64 t.a, .int .i64 t.b, .int .i64 t.c] 32) := by rw [← hW0]; simp only [alloc_get, World.size_alloc]; repeat (first | exact if_pos trivial | exact if_pos (by omega) | rw [if_neg (by omega)])
  clear hW0
  have hb0 : Below w.heap.size w W0 := hst_W0.below (Nat.le_refl _) (fun _ _ h => h)
  have g := g0_W0
  have gt := g1_W0
  obtain ⟨p, hp⟩ : ∃ p, w.heap.size = p := ⟨_, rfl⟩
  rw [hp] at g gt
  try rw [hp]
  clear g0_W0 g1_W0 hst_W0 hz_W0 hp
  have cz := fun k => cell_block g k
  have cg0 := cz 0
  have cg1 := cz 1
  have cg2 := cz 2
  have cg3 := cz 3
  have cg4 := cz 4
  have cg5 := cz 5
  have cg6 := cz 6
  have cg7 := cz 7
  have cg8 := cz 8
  have cg9 := cz 9
  have cg10 := cz 10
  have cg11 := cz 11
  have cg12 := cz 12
  have cg13 := cz 13
  have cg14 := cz 14
  clear cz
  simp only [gA, gB, gC] at cg0 cg1 cg2 cg3 cg4 cg5 cg6 cg7 cg8 cg9 cg10 cg11 cg12 cg13 cg14
  by_cases h30 : 30 < (s.l.length : Int)
  · go_wp2_with fail
    refine (iawake_any _).mono ?_
    rintro e w99 ⟨rfl, hb⟩
    go_wp2
    go_ret
    exact ⟨rfl, hb0.trans (hb.mono hb0.size)⟩
  · have hlen : s.l.length < 9223372036854775807 := by omega
    have hlen9 : (s.l.length : Int) ≤ 30 := by omega
    have HLEN := Lib.hid hlen
    go_wp2_with fail
    have hc := ilheavy_any s fa fc 5 W0 (HIM.out W0 hb0) HLEN.out
    refine hc.mono ?_
    clear hc
    rintro e w1 ⟨he, hb⟩
    clear cg0 cg1 cg2 cg3 cg4 cg5 cg6 cg7 cg8 cg9 cg10 cg11 cg12 cg13 cg14
    replace g := obj_later hb g
    replace gt := obj_later hb gt
    replace hb0 := hb0.trans (hb.mono hb0.size)
    clear hb
    subst he
    cases hh : (decide ((5 : Int) < s.l.length) && s.ok)
    · have HN : Hid (s.ok = true → s.l.length ≤ 5) := Lib.hid (fun h => by rw [h] at hh; simp at hh; omega)
      clear hh hlen
      have cz := fun k => cell_block g k
      have cg0 := cz 0
      have cg1 := cz 1
      have cg2 := cz 2
      have cg3 := cz 3
      have cg4 := cz 4
      have cg5 := cz 5
      have cg6 := cz 6
      have cg7 := cz 7
      have cg8 := cz 8
      have cg9 := cz 9
      have cg10 := cz 10
      have cg11 := cz 11
      have cg12 := cz 12
      have cg13 := cz 13
      have cg14 := cz 14
      clear cz
      simp only [gA, gB, gC] at cg0 cg1 cg2 cg3 cg4 cg5 cg6 cg7 cg8 cg9 cg10 cg11 cg12 cg13 cg14
      have cz := fun k => cell_block gt k
      have cgt0 := cz 0
      have cgt1 := cz 1
      have cgt2 := cz 2
      clear cz
      simp only [gA, gB, gC] at cgt0 cgt1 cgt2
      go_wp2_with fail
      obtain ⟨x0, hx0⟩ : ∃ x, itFits s t = x := ⟨_, rfl⟩
      have hc := iFits_any s fa fc t w1 (HIM.out w1 hb0) HLEN.out
      refine hc.mono ?_
      clear hc
      rintro e w2 ⟨he, hb⟩
      clear cg0 cg1 cg2 cg3 cg4 cg5 cg6 cg7 cg8 cg9 cg10 cg11 cg12 cg13 cg14 cgt0 cgt1 cgt2
      replace g := obj_later hb g
      replace gt := obj_later hb gt
      replace hb0 := hb0.trans (hb.mono hb0.size)
      clear hb
      rw [hx0] at he
      subst he
      have cz := fun k => cell_block g k
      have cg0 := cz 0
      have cg1 := cz 1
      have cg2 := cz 2
      have cg3 := cz 3
      have cg4 := cz 4
      have cg5 := cz 5
      have cg6 := cz 6
      have cg7 := cz 7
      have cg8 := cz 8
      have cg9 := cz 9
      have cg10 := cz 10
      have cg11 := cz 11
      have cg12 := cz 12
      have cg13 := cz 13
      have cg14 := cz 14
      clear cz
      simp only [gA, gB, gC] at cg0 cg1 cg2 cg3 cg4 cg5 cg6 cg7 cg8 cg9 cg10 cg11 cg12 cg13 cg14
      have cz := fun k => cell_block gt k
      have cgt0 := cz 0
      have cgt1 := cz 1
      have cgt2 := cz 2
      clear cz
      simp only [gA, gB, gC] at cgt0 cgt1 cgt2
      go_wp2_with fail
      have hc := irFits_any s fa fc t w2 (HIM.out w2 hb0) HLEN.out
      refine hc.mono ?_
      clear hc
      rintro e w3 ⟨he, hb⟩
      clear cg0 cg1 cg2 cg3 cg4 cg5 cg6 cg7 cg8 cg9 cg10 cg11 cg12 cg13 cg14 cgt0 cgt1 cgt2
      replace g := obj_later hb g
      replace gt := obj_later hb gt
      replace hb0 := hb0.trans (hb.mono hb0.size)
      clear hb
      rw [hx0] at he
      subst he
      clear hx0
      have cz := fun k => cell_block g k
      have cg0 := cz 0
      have cg1 := cz 1
      have cg2 := cz 2
      have cg3 := cz 3
      have cg4 := cz 4
      have cg5 := cz 5
      have cg6 := cz 6
      have cg7 := cz 7
      have cg8 := cz 8
      have cg9 := cz 9
      have cg10 := cz 10
      have cg11 := cz 11
      have cg12 := cz 12
      have cg13 := cz 13
      have cg14 := cz 14
      clear cz
      simp only [gA, gB, gC] at cg0 cg1 cg2 cg3 cg4 cg5 cg6 cg7 cg8 cg9 cg10 cg11 cg12 cg13 cg14
      go_wp2_with fail
      obtain ⟨x1, hx1⟩ : ∃ x, itCount s = x := ⟨_, rfl⟩
      have hc := iCount_any s fa fc w3 (HIM.out w3 hb0) HLEN.out
      refine hc.mono ?_
      clear hc
      rintro e w4 ⟨he, hb⟩
      clear cg0 cg1 cg2 cg3 cg4 cg5 cg6 cg7 cg8 cg9 cg10 cg11 cg12 cg13 cg14
      replace g := obj_later hb g
      replace gt := obj_later hb gt
      replace hb0 := hb0.trans (hb.mono hb0.size)
      clear hb
      rw [hx1] at he
      subst he
      have cz := fun k => cell_block g k
      have cg0 := cz 0
      have cg1 := cz 1
      have cg2 := cz 2
      have cg3 := cz 3
      have cg4 := cz 4
      have cg5 := cz 5
      have cg6 := cz 6
      have cg7 := cz 7
      have cg8 := cz 8
      have cg9 := cz 9
      have cg10 := cz 10
      have cg11 := cz 11
      have cg12 := cz 12
      have cg13 := cz 13
      have cg14 := cz 14
      clear cz
      simp only [gA, gB, gC] at cg0 cg1 cg2 cg3 cg4 cg5 cg6 cg7 cg8 cg9 cg10 cg11 cg12 cg13 cg14
      go_wp2_with fail
      have hc := irCount_any s fa fc w4 (HIM.out w4 hb0) HLEN.out HN.out
      refine hc.mono ?_
      clear hc
      rintro e w5 ⟨he, hb⟩
      clear cg0 cg1 cg2 cg3 cg4 cg5 cg6 cg7 cg8 cg9 cg10 cg11 cg12 cg13 cg14
      replace g := obj_later hb g
      replace gt := obj_later hb gt
      replace hb0 := hb0.trans (hb.mono hb0.size)
      clear hb
      rw [hx1] at he
      subst he
      clear hx1
      have cz := fun k => cell_block g k
      have cg0 := cz 0
      have cg1 := cz 1
      have cg2 := cz 2
      have cg3 := cz 3
      have cg4 := cz 4
      have cg5 := cz 5
      have cg6 := cz 6
      have cg7 := cz 7
      have cg8 := cz 8
      have cg9 := cz 9
      have cg10 := cz 10
      have cg11 := cz 11
      have cg12 := cz 12
      have cg13 := cz 13
      have cg14 := cz 14
      clear cz
      simp only [gA, gB, gC] at cg0 cg1 cg2 cg3 cg4 cg5 cg6 cg7 cg8 cg9 cg10 cg11 cg12 cg13 cg14
      go_wp2_with fail
      obtain ⟨x2, hx2⟩ : ∃ x, itNeeds s = x := ⟨_, rfl⟩
      have hc := iNeeds_any s fa fc w5 (HIM.out w5 hb0) HLEN.out
      refine hc.mono ?_
      clear hc
      rintro e w6 ⟨he, hb⟩
      clear cg0 cg1 cg2 cg3 cg4 cg5 cg6 cg7 cg8 cg9 cg10 cg11 cg12 cg13 cg14
      replace g := obj_later hb g
      replace gt := obj_later hb gt
      replace hb0 := hb0.trans (hb.mono hb0.size)
      clear hb
      rw [hx2] at he
      subst he
      have cz := fun k => cell_block g k
      have cg0 := cz 0
      have cg1 := cz 1
      have cg2 := cz 2
      have cg3 := cz 3
      have cg4 := cz 4
      have cg5 := cz 5
      have cg6 := cz 6
      have cg7 := cz 7
      have cg8 := cz 8
      have cg9 := cz 9
      have cg10 := cz 10
      have cg11 := cz 11
      have cg12 := cz 12
      have cg13 := cz 13
      have cg14 := cz 14
      clear cz
      simp only [gA, gB, gC] at cg0 cg1 cg2 cg3 cg4 cg5 cg6 cg7 cg8 cg9 cg10 cg11 cg12 cg13 cg14
      go_wp2_with fail
      have hc := irNeeds_any s fa fc w6 (HIM.out w6 hb0) HLEN.out HN.out
      refine hc.mono ?_
      clear hc
      rintro e w7 ⟨he, hb⟩
      clear cg0 cg1 cg2 cg3 cg4 cg5 cg6 cg7 cg8 cg9 cg10 cg11 cg12 cg13 cg14
      replace g := obj_later hb g
      replace gt := obj_later hb gt
      replace hb0 := hb0.trans (hb.mono hb0.size)
      clear hb
      rw [hx2] at he
      subst he
      clear hx2
      go_wp2_with fail
      refine (iawake_any _).mono ?_
      rintro e w99 ⟨rfl, hb⟩
      go_wp2
      go_ret
      exact ⟨rfl, hb0.trans (hb.mono hb0.size)⟩
    · clear hh
      go_wp2_with fail
      refine (iawake_any _).mono ?_
      rintro e w99 ⟨rfl, hb⟩
      go_wp2
      go_ret
      exact ⟨rfl, hb0.trans (hb.mono hb0.size)⟩
end Go.Proofs.Ytacioedolmaofaa
