/- ways, Tell, Stars. Tell, Stars. has. Plain Lean: the first way with as few flaws as there must be, one trail after the other. Plain Lean: which lists of trails are ways; how many there are; the first one with the fewest flaws. -/
import Derived.Test.YtacioedolmaofaaLBA20
namespace Go.Proofs.Ytacioedolmaofaa
open Go.RowKit Go.Shelf
attribute [local go_sem] Oper.semAt_some
set_option maxHeartbeats 6400000
set_option maxRecDepth 100000
set_option linter.unusedSimpArgs false
set_option linter.unusedVariables false

def wayTold (s : ISheet) : ITold := tellN s.trails s.l.length s.flaws 0 0
def wayErr (s : ISheet) (valid : Bool) : Int := if s.ok then (if valid then (if (wayTold s).many = 0 then 4 else 0) else 2) else 1
/-- What ways returns. -/
def WaysRet (s : ISheet) (valid : Bool) (fa : Option Addr) (fc : Nat) (w : World) (e : Ending) (w' : World) : Prop :=
  Below w.heap.size w w' ∧ if wayErr s valid = 0 then s.ok = true ∧ ∃ p ta tc, e = .returned (.tuple #[.pointer (some ⟨p, 0, none⟩), tdV (wayTold s), .int .i64 0]) ∧ w.heap.size ≤ p ∧ SheetAt w' p s fa fc ta tc s.trails
    else e = .returned (.tuple #[.pointer none, .agg #[.int .i64 0, .int .i64 0, .int .i64 0, .int .i64 0, .int .u64 0, .int .u64 0], .int .i64 (wayErr s valid)])

theorem iways_any (s : ISheet) (fa : Option Addr) (fc : Nat) (valid : Bool) (w : World) (hl : ImSl w fa s.l) (hlen : s.l.length < 9223372036854775807) :
    Calls Try.prog 46 #[.agg #[.int .i64 s.ax.lo, .int .i64 s.ax.hi, .int .i64 s.ay.lo, .int .i64 s.ay.hi, .int .i64 s.bx.lo, .int .i64 s.bx.hi, .int .i64 s.by'.lo, .int .i64 s.by'.hi, .int .i64 s.f.lo, .int .i64 s.f.hi, .int .i64 s.g.lo, .int .i64 s.g.hi, .int .i64 s.limit, .int .i64 s.flaws, .slice fa s.l.length fc], .bool valid] w (WaysRet s valid fa fc w) := by
  obtain ⟨rv, hrv⟩ : ∃ rv, wayErr s valid = rv := ⟨_, rfl⟩
  have HRV := Lib.hid hrv
  have HPO : Hid (∀ e w', (Below w.heap.size w w' ∧ if rv = 0 then s.ok = true ∧ ∃ p ta tc, e = .returned (.tuple #[.pointer (some ⟨p, 0, none⟩), tdV (wayTold s), .int .i64 0]) ∧ w.heap.size ≤ p ∧ SheetAt w' p s fa fc ta tc s.trails
    else e = .returned (.tuple #[.pointer none, .agg #[.int .i64 0, .int .i64 0, .int .i64 0, .int .i64 0, .int .u64 0, .int .u64 0], .int .i64 rv])) → WaysRet s valid fa fc w e w') := Lib.hid (fun e w' h => by unfold WaysRet; rw [hrv]; exact h)
  clear hrv
  unfold wayErr at HRV
  go_enter Try.func46, Try.ntmps46
  go_wp2_with fail
  obtain ⟨W0, hW0⟩ : ∃ W, ((w.alloc (.cells #[.int .i64 s.ax.lo, .int .i64 s.ax.hi, .int .i64 s.ay.lo, .int .i64 s.ay.hi, .int .i64 s.bx.lo, .int .i64 s.bx.hi, .int .i64 s.by'.lo, .int .i64 s.by'.hi, .int .i64 s.f.lo, .int .i64 s.f.hi, .int .i64 s.g.lo, .int .i64 s.g.hi, .int .i64 s.limit, .int .i64 s.flaws, .slice fa s.l.length fc] 30)).alloc (.cells #[.int .i64 0, .int .i64 0, .int .i64 0, .int .i64 0, .int .u64 0, .int .u64 0] 90)) = W := ⟨_, rfl⟩
  rw [hW0]
  try simp only [Nat.add_assoc, Nat.reduceAdd]
  have hst_W0 : Steps (fun _ => False) w W0 := by rw [← hW0]; exact (Steps.alloc _ w _).trans (Steps.alloc (fun _ => False) _ _) (fun _ _ h => h)
  have hz_W0 : W0.heap.size = w.heap.size + 2 := by rw [← hW0]; simp
  have g0_W0 : W0.heap[w.heap.size]? = some (.cells #[.int .i64 s.ax.lo, .int .i64 s.ax.hi, .int .i64 s.ay.lo, .int .i64 s.ay.hi, .int .i64 s.bx.lo, .int .i64 s.bx.hi, .int .i64 s.by'.lo, .int .i64 s.by'.hi, .int .i64 s.f.lo, .int .i64 s.f.hi, .int .i64 s.g.lo, .int .i64 s.g.hi, .int .i64 s.limit, .int .i64 s.flaws, .slice fa s.l.length fc] 30) := by rw [← hW0]; simp only [alloc_get, World.size_alloc]; repeat (first | exact if_pos trivial | exact if_pos (by omega) | rw [if_neg (by omega)])
  have g1_W0 : W0.heap[w.heap.size + 1]? = some (.cells #[.int .i64 0, .int .i64 0, .int .i64 0, .int .i64 0, .int .u64 0, .int .u64 0] 90) := by rw [← hW0]; simp only [alloc_get, World.size_alloc]; repeat (first | exact if_pos trivial | exact if_pos (by omega) | rw [if_neg (by omega)])
  clear hW0
  have hb0 : Below w.heap.size w W0 := hst_W0.below (Nat.le_refl _) (fun _ _ h => h)
  have hl0 := hl.below hb0 (Nat.le_refl _)
  refine (iopen_any s fa fc W0 hl0 hlen).mono ?_
  rintro e w1 ⟨hb1, h1⟩
  have hB1 := hb0.trans (hb1.mono hb0.size)
  have hx1 := obj_later hb1 g0_W0
  have hz0 : w.heap.size < W0.heap.size := by omega
  have hy1 := obj_later hb1 g1_W0
  obtain ⟨z, hzz⟩ : ∃ z, w.heap.size = z := ⟨_, rfl⟩
  rw [hzz] at hB1 hz0 hx1 hy1 hz_W0
  try rw [hzz]
  have HZ := Lib.hid hzz
  have HW0 := Lib.hid hz_W0
  have FC : ∀ W : World, W.heap[z + 1]? = some (.cells #[.int .i64 0, .int .i64 0, .int .i64 0, .int .i64 0, .int .u64 0, .int .u64 0] 90) → (W.cell? ⟨z + 1, 0, none⟩ = some (.int .i64 0) ∧ W.cell? ⟨z + 1, 1, none⟩ = some (.int .i64 0) ∧ W.cell? ⟨z + 1, 2, none⟩ = some (.int .i64 0) ∧ W.cell? ⟨z + 1, 3, none⟩ = some (.int .i64 0) ∧ W.cell? ⟨z + 1, 4, none⟩ = some (.int .u64 0) ∧ W.cell? ⟨z + 1, 5, none⟩ = some (.int .u64 0)) ∧ (W.frozen? ⟨z + 1, 0, none⟩ = false ∧ W.frozen? ⟨z + 1, 1, none⟩ = false ∧ W.frozen? ⟨z + 1, 2, none⟩ = false ∧ W.frozen? ⟨z + 1, 3, none⟩ = false ∧ W.frozen? ⟨z + 1, 4, none⟩ = false ∧ W.frozen? ⟨z + 1, 5, none⟩ = false) :=
    fun W h => ⟨⟨cell_block h 0, cell_block h 1, cell_block h 2, cell_block h 3, cell_block h 4, cell_block h 5⟩, frozen_block h 0, frozen_block h 1, frozen_block h 2, frozen_block h 3, frozen_block h 4, frozen_block h 5⟩
  have HFC := Lib.hid FC
  obtain ⟨⟨s0, s1, s2, s3, s4, s5⟩, f0, f1, f2, f3, f4, f5⟩ := FC w1 hy1
  clear FC hzz
  have hy1l := (Array.getElem?_eq_some_iff.1 hy1).1
  by_cases hok : s.ok = true
  · rw [if_pos hok] at h1
    have hrv := HRV.out
    rw [if_pos hok] at hrv
    have hn9 : s.l.length ≤ 9 := ((iok_iff s).1 hok).2.2.2.2.2.2.2.2.2
    obtain ⟨p, ta, tc, rfl, hp, hS⟩ := h1
    have c13 := cell_block hx1 13
    try simp only [gA, gB, gC] at c13
    have hti := itell_any p s.l.length s.flaws fa fc ta tc s.trails w1 hS.c14 hS.c15 hS.tr hS.tb
    have hz1 := hb1.size
    clear HRV hx1 g0_W0 g1_W0 hst_W0 hz_W0 hb0 hl0 hb1
    have HR := Lib.hid hrv
    clear hrv
    cases valid
    · have hrv := HR.out
      rw [if_neg (by decide)] at hrv
      subst hrv
      clear HR
      go_wp2_with fail
      have zz := star_put hy1 (.int .i64 0) (.int .i64 0) (.int .i64 0) (.int .i64 0) (.int .u64 0) (.int .u64 0)
      have hB := star_puts (b := z + 1) (Below.refl (z + 1) w1) (.int .i64 0) (.int .i64 0) (.int .i64 0) (.int .i64 0) (.int .u64 0) (.int .u64 0)
      generalize (((((w1.setCell ⟨z + 1, 0, none⟩ (.int .i64 0)).setCell ⟨z + 1, 1, none⟩ (.int .i64 0)).setCell ⟨z + 1, 2, none⟩ (.int .i64 0)).setCell ⟨z + 1, 3, none⟩ (.int .i64 0)).setCell ⟨z + 1, 4, none⟩ (.int .u64 0)).setCell ⟨z + 1, 5, none⟩ (.int .u64 0) = WF at zz hB ⊢
      obtain ⟨⟨m0, m1, m2, m3, m4, m5⟩, _⟩ := HFC.out WF zz
      exact bodyPost_ret (v := .tuple #[.pointer none, .agg #[.int .i64 0, .int .i64 0, .int .i64 0, .int .i64 0, .int .u64 0, .int .u64 0], .int .i64 2]) (by simp [results, Try.results46, go_sem, m0, m1, m2, m3, m4, m5]) rfl (HPO.out _ _ ⟨by rw [HZ.out]; exact hB1.trans (hB.mono (by omega)), by rw [if_neg (by decide)]⟩)
    · have hrv := HR.out
      rw [if_pos rfl] at hrv
      have HR := Lib.hid hrv
      clear hrv s0 s1 s2 s3 s4 s5 f0 f1 f2 f3 f4 f5
      go_wp2_with fail
      refine hti.mono ?_
      rintro e w2 ⟨B1, B2, B3, B4, r, rfl, hat, hkn, hr, hb2⟩
      have hon := ion_from hn9 (trailsOk s hn9) hat hkn 0 0 (Int.le_refl _) (by decide)
      unfold onV
      go_wp2_with fail
      refine hon.mono ?_
      rintro e w3 ⟨rfl, hs3, _⟩
      have hb13 : Below w1.heap.size w1 w3 := hb2.trans (hs3.below (by have := hb2.size; omega) (fun k hk h => by omega))
      have hS3 := hS.later hb13
      have hy3 := obj_later hb13 hy1
      have hB3 := hB1.trans (hb13.mono (by omega))
      have hz13 := hb13.size
      have hwt : tellN s.trails s.l.length s.flaws 0 0 = wayTold s := rfl
      rw [hwt]
      obtain ⟨t, ht⟩ : ∃ t, wayTold s = t := ⟨_, rfl⟩
      rw [ht] at HPO HR
      rw [ht]
      unfold tdV
      clear hat hkn hon hti hs3 hb2 hwt ht hS c13 hb13 hy1
      obtain ⟨⟨s0, s1, s2, s3, s4, s5⟩, f0, f1, f2, f3, f4, f5⟩ := HFC.out w3 hy3
      have hzl : z + 1 < w3.heap.size := by omega
      by_cases hm : t.many = 0
      · have hmi : (t.many : Int) = 0 := by omega
        have hrv := HR.out
        rw [if_pos hm] at hrv
        subst hrv
        clear HR
        go_wp2_with fail
        have zz := star_put hy3 (.int .i64 0) (.int .i64 0) (.int .i64 0) (.int .i64 0) (.int .u64 0) (.int .u64 0)
        have hB := star_puts (b := z + 1) (Below.refl (z + 1) w3) (.int .i64 0) (.int .i64 0) (.int .i64 0) (.int .i64 0) (.int .u64 0) (.int .u64 0)
        generalize (((((w3.setCell ⟨z + 1, 0, none⟩ (.int .i64 0)).setCell ⟨z + 1, 1, none⟩ (.int .i64 0)).setCell ⟨z + 1, 2, none⟩ (.int .i64 0)).setCell ⟨z + 1, 3, none⟩ (.int .i64 0)).setCell ⟨z + 1, 4, none⟩ (.int .u64 0)).setCell ⟨z + 1, 5, none⟩ (.int .u64 0) = WF at zz hB ⊢
        have mm := fun o => (HFC.out (WF.alloc o) (obj_later (below_alloc WF o) zz)).1
        have m0 := fun o => (mm o).1
        have m1 := fun o => (mm o).2.1
        have m2 := fun o => (mm o).2.2.1
        have m3 := fun o => (mm o).2.2.2.1
        have m4 := fun o => (mm o).2.2.2.2.1
        have m5 := fun o => (mm o).2.2.2.2.2
        have hBF : Below w.heap.size w WF := by rw [HZ.out]; exact hB3.trans (hB.mono (by omega))
        exact bodyPost_ret (v := .tuple #[.pointer none, .agg #[.int .i64 0, .int .i64 0, .int .i64 0, .int .i64 0, .int .u64 0, .int .u64 0], .int .i64 4]) (by simp [results, Try.results46, go_sem, m0, m1, m2, m3, m4, m5]) rfl (HPO.out _ _ ⟨hBF.alloc hBF.size _, by rw [if_neg (by simp)]; try rfl⟩)
      · have hmi : ¬ (t.many : Int) = 0 := by omega
        have hrv := HR.out
        rw [if_neg hm] at hrv
        subst hrv
        clear HR
        go_wp2_with fail
        have hq4 := obj_new w3 (.cells #[.int .i64 t.many, .int .i64 t.flaws, .int .i64 t.lo, .int .i64 t.hi, .int .u64 t.some, .int .u64 t.all] 90)
        have hb4 := below_alloc w3 (.cells #[.int .i64 t.many, .int .i64 t.flaws, .int .i64 t.lo, .int .i64 t.hi, .int .u64 t.some, .int .u64 t.all] 90)
        generalize w3.alloc (.cells #[.int .i64 t.many, .int .i64 t.flaws, .int .i64 t.lo, .int .i64 t.hi, .int .u64 t.some, .int .u64 t.all] 90) = w4 at hq4 hb4 ⊢
        have hy4 := obj_later hb4 hy3
        have hS4 := hS3.later hb4
        have hB4 := hB3.trans (hb4.mono (by omega))
        obtain ⟨q, hq⟩ : ∃ q, w3.heap.size = q := ⟨_, rfl⟩
        rw [hq] at hq4 hzl
        try rw [hq]
        clear s0 s1 s2 s3 s4 s5 f0 f1 f2 f3 f4 f5 hb4 hy3 hS3 hB3 hq
        obtain ⟨⟨s0, s1, s2, s3, s4, s5⟩, f0, f1, f2, f3, f4, f5⟩ := HFC.out w4 hy4
        have C := fun k => cell_block hq4 k
        have d0 := C 0
        have d1 := C 1
        have d2 := C 2
        have d3 := C 3
        have d4 := C 4
        have d5 := C 5
        clear C
        simp only [gA, gB, gC] at d0 d1 d2 d3 d4 d5
        go_region
        go_wp2_with fail
        have zz := star_put hy4 (.int .i64 t.many) (.int .i64 t.flaws) (.int .i64 t.lo) (.int .i64 t.hi) (.int .u64 t.some) (.int .u64 t.all)
        have hst := six_steps (z + 1) (.int .i64 t.many) (.int .i64 t.flaws) (.int .i64 t.lo) (.int .i64 t.hi) (.int .u64 t.some) (.int .u64 t.all) w4
        generalize (((((w4.setCell ⟨z + 1, 0, none⟩ (.int .i64 t.many)).setCell ⟨z + 1, 1, none⟩ (.int .i64 t.flaws)).setCell ⟨z + 1, 2, none⟩ (.int .i64 t.lo)).setCell ⟨z + 1, 3, none⟩ (.int .i64 t.hi)).setCell ⟨z + 1, 4, none⟩ (.int .u64 t.some)).setCell ⟨z + 1, 5, none⟩ (.int .u64 t.all) = WF at zz hst ⊢
        have C := fun k => cell_block zz k
        have m0 : WF.drew.cell? ⟨z + 1, 0, none⟩ = some (.int .i64 t.many) := C 0
        have m1 : WF.drew.cell? ⟨z + 1, 1, none⟩ = some (.int .i64 t.flaws) := C 1
        have m2 : WF.drew.cell? ⟨z + 1, 2, none⟩ = some (.int .i64 t.lo) := C 2
        have m3 : WF.drew.cell? ⟨z + 1, 3, none⟩ = some (.int .i64 t.hi) := C 3
        have m4 : WF.drew.cell? ⟨z + 1, 4, none⟩ = some (.int .u64 t.some) := C 4
        have m5 : WF.drew.cell? ⟨z + 1, 5, none⟩ = some (.int .u64 t.all) := C 5
        have hBF : Below z w WF := hB4.trans (hst.below (by have := hB4.size; have := HZ.out; omega) (fun k hk h => by omega))
        have hBF' : Below w.heap.size w WF.drew := by rw [HZ.out]; exact hBF.drew
        have hSF : SheetAt WF.drew p s fa fc ta tc s.trails := hS4.steps hst.drew (fun k h => by have := HW0.out; omega) (hl.below hBF' (Nat.le_refl _))
        have hpz : w.heap.size ≤ p := by have := HZ.out; omega
        exact bodyPost_ret (v := .tuple #[.pointer (some ⟨p, 0, none⟩), .agg #[.int .i64 t.many, .int .i64 t.flaws, .int .i64 t.lo, .int .i64 t.hi, .int .u64 t.some, .int .u64 t.all], .int .i64 0]) (by simp [results, Try.results46, go_sem, m0, m1, m2, m3, m4, m5]) rfl (HPO.out _ _ ⟨hBF', by rw [if_pos (by simp)]; exact ⟨hok, p, ta, tc, rfl, hpz, hSF⟩⟩)

  · rw [if_neg hok] at h1
    have hrv := HRV.out
    rw [if_neg hok] at hrv
    subst h1
    subst hrv
    go_wp2_with fail
    have zz := star_put hy1 (.int .i64 0) (.int .i64 0) (.int .i64 0) (.int .i64 0) (.int .u64 0) (.int .u64 0)
    have hB := star_puts (b := z + 1) (Below.refl (z + 1) w1) (.int .i64 0) (.int .i64 0) (.int .i64 0) (.int .i64 0) (.int .u64 0) (.int .u64 0)
    generalize (((((w1.setCell ⟨z + 1, 0, none⟩ (.int .i64 0)).setCell ⟨z + 1, 1, none⟩ (.int .i64 0)).setCell ⟨z + 1, 2, none⟩ (.int .i64 0)).setCell ⟨z + 1, 3, none⟩ (.int .i64 0)).setCell ⟨z + 1, 4, none⟩ (.int .u64 0)).setCell ⟨z + 1, 5, none⟩ (.int .u64 0) = WF at zz hB ⊢
    obtain ⟨⟨m0, m1, m2, m3, m4, m5⟩, _⟩ := HFC.out WF zz
    exact bodyPost_ret (v := .tuple #[.pointer none, .agg #[.int .i64 0, .int .i64 0, .int .i64 0, .int .i64 0, .int .u64 0, .int .u64 0], .int .i64 1]) (by simp [results, Try.results46, go_sem, m0, m1, m2, m3, m4, m5]) rfl (HPO.out _ _ ⟨by rw [HZ.out]; exact hB1.trans (hB.mono (by omega)), by rw [if_neg (by decide)]⟩)
end Go.Proofs.Ytacioedolmaofaa
namespace Go.Proofs.Ytacioedolmaofaa
open Go.RowKit Go.Shelf
attribute [local go_sem] Oper.semAt_some
set_option maxHeartbeats 6400000
set_option maxRecDepth 100000
set_option linter.unusedSimpArgs false
set_option linter.unusedVariables false

def iandN (s u : Nat) : Nat := s &&& (18446744073709551615 - u)
def itTell (s : ISheet) : Int × Int × Int := if wayErr s true = 0 then (((wayTold s).all &&& (2 ^ s.l.length - 1) : Nat), (iandN (2 ^ s.l.length - 1) (wayTold s).some : Nat), 0) else (0, 0, wayErr s true)
def itStars (s : ISheet) : Int × Int × Int := if wayErr s true = 0 then ((wayTold s).lo, (wayTold s).hi, 0) else (0, 0, wayErr s true)
theorem way_told_b (s : ISheet) (hok : s.ok = true) : ToldB 10 (wayTold s) := by
  have hn9 : s.l.length ≤ 9 := ((iok_iff s).1 hok).2.2.2.2.2.2.2.2.2
  exact tellN_b hn9 _ (trails_own hn9) 0 0

theorem iTell_any (s : ISheet) (fa : Option Addr) (fc : Nat) (w : World) (hl : ImSl w fa s.l) (hlen : s.l.length < 9223372036854775807) :
    Calls Try.prog 21 #[.agg #[.int .i64 s.ax.lo, .int .i64 s.ax.hi, .int .i64 s.ay.lo, .int .i64 s.ay.hi, .int .i64 s.bx.lo, .int .i64 s.bx.hi, .int .i64 s.by'.lo, .int .i64 s.by'.hi, .int .i64 s.f.lo, .int .i64 s.f.hi, .int .i64 s.g.lo, .int .i64 s.g.hi, .int .i64 s.limit, .int .i64 s.flaws, .slice fa s.l.length fc]] w fun e w' => e = .returned (.tuple #[.int .i64 (itTell s).1, .int .i64 (itTell s).2.1, .int .i64 (itTell s).2.2]) ∧ Below w.heap.size w w' := by
  obtain ⟨rv, hrv⟩ : ∃ rv, itTell s = rv := ⟨_, rfl⟩
  rw [hrv]
  have HRV := Lib.hid hrv
  clear hrv
  unfold itTell at HRV
  go_enter Try.func21, Try.ntmps21
  go_wp2_with fail
  obtain ⟨W0, hW0⟩ : ∃ W, (w.alloc (.cells #[.int .i64 s.ax.lo, .int .i64 s.ax.hi, .int .i64 s.ay.lo, .int .i64 s.ay.hi, .int .i64 s.bx.lo, .int .i64 s.bx.hi, .int .i64 s.by'.lo, .int .i64 s.by'.hi, .int .i64 s.f.lo, .int .i64 s.f.hi, .int .i64 s.g.lo, .int .i64 s.g.hi, .int .i64 s.limit, .int .i64 s.flaws, .slice fa s.l.length fc] 30)) = W := ⟨_, rfl⟩
  rw [hW0]
  try simp only [Nat.add_assoc, Nat.reduceAdd]
  have hst_W0 : Steps (fun _ => False) w W0 := by rw [← hW0]; exact Steps.alloc _ w _
  have hz_W0 : W0.heap.size = w.heap.size + 1 := by rw [← hW0]; simp
  have g0_W0 : W0.heap[w.heap.size]? = some (.cells #[.int .i64 s.ax.lo, .int .i64 s.ax.hi, .int .i64 s.ay.lo, .int .i64 s.ay.hi, .int .i64 s.bx.lo, .int .i64 s.bx.hi, .int .i64 s.by'.lo, .int .i64 s.by'.hi, .int .i64 s.f.lo, .int .i64 s.f.hi, .int .i64 s.g.lo, .int .i64 s.g.hi, .int .i64 s.limit, .int .i64 s.flaws, .slice fa s.l.length fc] 30) := by rw [← hW0]; simp only [alloc_get, World.size_alloc]; repeat (first | exact if_pos trivial | exact if_pos (by omega) | rw [if_neg (by omega)])
  clear hW0
  have hb0 : Below w.heap.size w W0 := hst_W0.below (Nat.le_refl _) (fun _ _ h => h)
  have hl0 := hl.below hb0 (Nat.le_refl _)
  refine (iways_any s fa fc true W0 hl0 hlen).mono ?_
  rintro e w1 ⟨hb1, h1⟩
  have hB1 := hb0.trans (hb1.mono hb0.size)
  have hx1 := obj_later hb1 g0_W0
  have hz1 := hb1.size
  have hx1l := (Array.getElem?_eq_some_iff.1 hx1).1
  obtain ⟨er, her⟩ : ∃ er, wayErr s true = er := ⟨_, rfl⟩
  rw [her] at h1
  have HER := Lib.hid her
  clear her
  by_cases h0 : er = 0
  · subst h0
    rw [if_pos rfl] at h1
    obtain ⟨hok, p, ta, tc, rfl, hp, hS⟩ := h1
    have hn9 : s.l.length ≤ 9 := ((iok_iff s).1 hok).2.2.2.2.2.2.2.2.2
    have hni : (s.l.length : Int) ≤ 9 := by omega
    have hrv := HRV.out
    rw [HER.out, if_pos rfl] at hrv
    have hbt := way_told_b s hok
    obtain ⟨t, ht⟩ : ∃ t, wayTold s = t := ⟨_, rfl⟩
    rw [ht] at hrv hbt
    rw [ht]
    have c14 := cell_block hx1 14
    try simp only [gA, gB, gC] at c14
    have hpow := pow_u64 s.l.length (by omega)
    have hpl : 2 ^ s.l.length ≤ 512 := Nat.pow_le_pow_right (by omega) (by omega : s.l.length ≤ 9)
    have hp1 : 0 < 2 ^ s.l.length := Nat.pow_pos (by omega)
    obtain ⟨pw, hpw⟩ : ∃ pw : Nat, 2 ^ s.l.length = pw := ⟨_, rfl⟩
    rw [hpw] at hpow hpl hp1 hrv
    have hs1 : IntKind.u64.wrap ((pw : Int) - 1) = ((pw - 1 : Nat) : Int) := by rw [IntKind.wrap_u64]; omega
    have hand := and_u64 t.all (pw - 1) hbt.all (by omega)
    have handn := u64_andNot_nat (pw - 1) t.some (by omega) (by have := hbt.some; omega)
    have hal : t.all &&& (pw - 1) < 512 := Nat.lt_of_le_of_lt Nat.and_le_right (by omega)
    have hanl : iandN (pw - 1) t.some < 512 := Nat.lt_of_le_of_lt Nat.and_le_left (by omega)
    obtain ⟨va, hva⟩ : ∃ va : Nat, t.all &&& (pw - 1) = va := ⟨_, rfl⟩
    obtain ⟨vf, hvf⟩ : ∃ vf : Nat, iandN (pw - 1) t.some = vf := ⟨_, rfl⟩
    rw [hva] at hand hal hrv
    rw [hvf] at hanl hrv
    rw [show (pw - 1 &&& (18446744073709551615 - t.some)) = vf from hvf] at handn
    have hca : IntKind.i64.wrap (va : Int) = va := by rw [IntKind.wrap_i64]; omega
    have hcf : IntKind.i64.wrap (vf : Int) = vf := by rw [IntKind.wrap_i64]; omega
    have HPOW := Lib.hid hpow
    have HS1 := Lib.hid hs1
    have HRV' := Lib.hid hrv
    clear hva hvf hpw ht hrv hbt HRV hS hp hpow hs1 hl0 hl hb0 hb1 hst_W0 hz_W0 g0_W0
    unfold tdV
    go_upto_region 5 with fail
    rw [HPOW.out, HS1.out]
    have hq1 := obj_new w1 (.cells #[.int .i64 t.many, .int .i64 t.flaws, .int .i64 t.lo, .int .i64 t.hi, .int .u64 t.some, .int .u64 t.all] 90)
    have hbq := below_alloc w1 (.cells #[.int .i64 t.many, .int .i64 t.flaws, .int .i64 t.lo, .int .i64 t.hi, .int .u64 t.some, .int .u64 t.all] 90)
    generalize w1.alloc (.cells #[.int .i64 t.many, .int .i64 t.flaws, .int .i64 t.lo, .int .i64 t.hi, .int .u64 t.some, .int .u64 t.all] 90) = w2 at hq1 hbq ⊢
    have hB2 := hB1.trans (hbq.mono (by have := hB1.size; omega))
    obtain ⟨q, hq⟩ : ∃ q, w1.heap.size = q := ⟨_, rfl⟩
    rw [hq] at hq1
    try rw [hq]
    have d3 := cell_block hq1 4
    have d4 := cell_block hq1 5
    simp only [gA, gB, gC] at d3 d4
    clear c14 hx1 hbq hq1 hq hx1l hz1
    go_region
    go_wp2_with fail
    have hrv := HRV'.out
    clear HRV'
    subst hrv
    exact bodyPost_ret (v := .tuple #[.int .i64 va, .int .i64 vf, .int .i64 0]) (by simp [results, Try.results21, go_sem]) rfl ⟨rfl, hB2.drew⟩
  · rw [if_neg h0] at h1
    have hrv := HRV.out
    rw [HER.out, if_neg h0] at hrv
    subst h1
    subst hrv
    clear HRV HER
    go_wp2_with fail
    exact bodyPost_ret (v := .tuple #[.int .i64 0, .int .i64 0, .int .i64 er]) (by simp [results, Try.results21, go_sem]) rfl ⟨rfl, hB1.alloc hB1.size _⟩

theorem iStars_any (s : ISheet) (fa : Option Addr) (fc : Nat) (w : World) (hl : ImSl w fa s.l) (hlen : s.l.length < 9223372036854775807) :
    Calls Try.prog 23 #[.agg #[.int .i64 s.ax.lo, .int .i64 s.ax.hi, .int .i64 s.ay.lo, .int .i64 s.ay.hi, .int .i64 s.bx.lo, .int .i64 s.bx.hi, .int .i64 s.by'.lo, .int .i64 s.by'.hi, .int .i64 s.f.lo, .int .i64 s.f.hi, .int .i64 s.g.lo, .int .i64 s.g.hi, .int .i64 s.limit, .int .i64 s.flaws, .slice fa s.l.length fc]] w fun e w' => e = .returned (.tuple #[.agg #[.int .i64 (itStars s).1, .int .i64 (itStars s).2.1], .int .i64 (itStars s).2.2]) ∧ Below w.heap.size w w' := by
  obtain ⟨rv, hrv⟩ : ∃ rv, itStars s = rv := ⟨_, rfl⟩
  rw [hrv]
  have HRV := Lib.hid hrv
  clear hrv
  unfold itStars at HRV
  go_enter Try.func23, Try.ntmps23
  go_wp2_with fail
  obtain ⟨W0, hW0⟩ : ∃ W, ((w.alloc (.cells #[.int .i64 s.ax.lo, .int .i64 s.ax.hi, .int .i64 s.ay.lo, .int .i64 s.ay.hi, .int .i64 s.bx.lo, .int .i64 s.bx.hi, .int .i64 s.by'.lo, .int .i64 s.by'.hi, .int .i64 s.f.lo, .int .i64 s.f.hi, .int .i64 s.g.lo, .int .i64 s.g.hi, .int .i64 s.limit, .int .i64 s.flaws, .slice fa s.l.length fc] 30)).alloc (.cells #[.int .i64 0, .int .i64 0] 23)) = W := ⟨_, rfl⟩
  rw [hW0]
  try simp only [Nat.add_assoc, Nat.reduceAdd]
  have hst_W0 : Steps (fun _ => False) w W0 := by rw [← hW0]; exact (Steps.alloc _ w _).trans (Steps.alloc (fun _ => False) _ _) (fun _ _ h => h)
  have hz_W0 : W0.heap.size = w.heap.size + 2 := by rw [← hW0]; simp
  have g0_W0 : W0.heap[w.heap.size]? = some (.cells #[.int .i64 s.ax.lo, .int .i64 s.ax.hi, .int .i64 s.ay.lo, .int .i64 s.ay.hi, .int .i64 s.bx.lo, .int .i64 s.bx.hi, .int .i64 s.by'.lo, .int .i64 s.by'.hi, .int .i64 s.f.lo, .int .i64 s.f.hi, .int .i64 s.g.lo, .int .i64 s.g.hi, .int .i64 s.limit, .int .i64 s.flaws, .slice fa s.l.length fc] 30) := by rw [← hW0]; simp only [alloc_get, World.size_alloc]; repeat (first | exact if_pos trivial | exact if_pos (by omega) | rw [if_neg (by omega)])
  have g1_W0 : W0.heap[w.heap.size + 1]? = some (.cells #[.int .i64 0, .int .i64 0] 23) := by rw [← hW0]; simp only [alloc_get, World.size_alloc]; repeat (first | exact if_pos trivial | exact if_pos (by omega) | rw [if_neg (by omega)])
  clear hW0
  have hb0 : Below w.heap.size w W0 := hst_W0.below (Nat.le_refl _) (fun _ _ h => h)
  have hl0 := hl.below hb0 (Nat.le_refl _)
  refine (iways_any s fa fc true W0 hl0 hlen).mono ?_
  rintro e w1 ⟨hb1, h1⟩
  have hB1 := hb0.trans (hb1.mono hb0.size)
  have hx1 := obj_later hb1 g0_W0
  have hz1 := hb1.size
  have hx1l := (Array.getElem?_eq_some_iff.1 hx1).1
  obtain ⟨er, her⟩ : ∃ er, wayErr s true = er := ⟨_, rfl⟩
  rw [her] at h1
  have HER := Lib.hid her
  clear her
  have hy1 := obj_later hb1 g1_W0
  have hy1l := (Array.getElem?_eq_some_iff.1 hy1).1
  obtain ⟨z, hz⟩ : ∃ z, w.heap.size = z := ⟨_, rfl⟩
  rw [hz] at hy1 hy1l
  try rw [hz]
  have HZ := Lib.hid hz
  have s0 := cell_block hy1 0
  have s1 := cell_block hy1 1
  have f0 := frozen_block hy1 0
  have f1 := frozen_block hy1 1
  simp only [gA, gB, gC] at s0 s1
  by_cases h0 : er = 0
  · subst h0
    rw [if_pos rfl] at h1
    obtain ⟨hok, p, ta, tc, rfl, hp, hS⟩ := h1
    have hrv := HRV.out
    rw [HER.out, if_pos rfl] at hrv
    obtain ⟨t, ht⟩ : ∃ t, wayTold s = t := ⟨_, rfl⟩
    rw [ht] at hrv
    rw [ht]
    have HRV' := Lib.hid hrv
    clear ht hrv HRV hS hp hl0 hl hb0 hb1 hst_W0 hz_W0 g0_W0 g1_W0 hz
    unfold tdV
    go_wp2_with fail
    have zz := two_same (.int .i64 t.lo) (.int .i64 t.hi) hy1
    have hB := two_below (.int .i64 t.lo) (.int .i64 t.hi) (Below.refl (z + 1) w1) (Nat.le_refl _)
    generalize (w1.setCell ⟨z + 1, 0, none⟩ (.int .i64 t.lo)).setCell ⟨z + 1, 1, none⟩ (.int .i64 t.hi) = WF at zz hB ⊢
    have m0 := fun o => cell_block (obj_later (below_alloc WF o) zz) 0
    have m1 := fun o => cell_block (obj_later (below_alloc WF o) zz) 1
    have hBF : Below w.heap.size w WF := hB1.trans (hB.mono (by have := HZ.out; omega))
    have hrv := HRV'.out
    subst hrv
    exact bodyPost_ret (v := .tuple #[.agg #[.int .i64 t.lo, .int .i64 t.hi], .int .i64 0]) (by simp [results, Try.results23, go_sem, m0, m1]) rfl ⟨rfl, by first | exact hBF.alloc hBF.size _ | (rw [← HZ.out]; exact hBF.alloc hBF.size _)⟩
  · rw [if_neg h0] at h1
    have hrv := HRV.out
    rw [HER.out, if_neg h0] at hrv
    subst h1
    subst hrv
    clear HRV HER
    go_wp2_with fail
    have zz := two_same (.int .i64 0) (.int .i64 0) hy1
    have hB := two_below (.int .i64 0) (.int .i64 0) (Below.refl (z + 1) w1) (Nat.le_refl _)
    generalize (w1.setCell ⟨z + 1, 0, none⟩ (.int .i64 0)).setCell ⟨z + 1, 1, none⟩ (.int .i64 0) = WF at zz hB ⊢
    have m0 := fun o => cell_block (obj_later (below_alloc WF o) zz) 0
    have m1 := fun o => cell_block (obj_later (below_alloc WF o) zz) 1
    have hBF : Below w.heap.size w WF := hB1.trans (hB.mono (by have := HZ.out; omega))
    exact bodyPost_ret (v := .tuple #[.agg #[.int .i64 0, .int .i64 0], .int .i64 er]) (by simp [results, Try.results23, go_sem, m0, m1]) rfl ⟨rfl, by first | exact hBF.alloc hBF.size _ | (rw [← HZ.out]; exact hBF.alloc hBF.size _)⟩
end Go.Proofs.Ytacioedolmaofaa
namespace Go.Proofs.Ytacioedolmaofaa
open Go.RowKit Go.Shelf
attribute [local go_sem] Oper.semAt_some
set_option maxHeartbeats 6400000
set_option maxRecDepth 100000
set_option linter.unusedSimpArgs false
set_option linter.unusedVariables false
theorem has_reg7 (p q8 : Nat) (fa : Option Addr) (fc : Nat) (s : ISheet) (l : List ITr) (v : Value) (t : ITr) (w00 wA : World) {z0 z1 z2 z3 z4 z5 z7 z9 z10 z11 z12 z13 z14 z15 z16 z17 z18 z19 z20 z21 z22 z23 z24 z25 z26 z27 z28 z29 z30 z41 z42 z43 z44 z45 z46 z47 z48 z49 z50 z51 z52 z53 : Value} {z31 z32 z33 z34 z35 z36 z37 z38 z39 z40 : Value}
    (hI : OpenB w00 wA p s fa fc l v) (hq : wA.heap[q8]? = some (.cells #[.int .i64 t.a, .int .i64 t.b, .int .i64 t.c] 32)) (hpq : p < q8) (hvq : ∀ g, v.ownBlock = some g → g < q8) (hl : l.length ≤ 5000) (K : Act → World → Prop) (Q : Exit → Act → World → Prop)
    (hfin : ∀ (s31 s32 s33 s34 s35 s36 s37 s38 s39 s40 v' : Value) (w3 : World), OpenB w00 w3 p s fa fc (l ++ [t]) v' → wA.heap.size ≤ w3.heap.size → K ⟨(z0::z1::z2::z3::z4::z5::(.pointer (some ⟨p, 0, none⟩))::z7::(.pointer (some ⟨q8, 0, none⟩))::z9::z10::z11::z12::z13::z14::z15::z16::z17::z18::z19::z20::z21::z22::z23::z24::z25::z26::z27::z28::z29::z30::s31::s32::s33::s34::s35::s36::s37::s38::s39::s40::z41::z42::z43::z44::z45::z46::z47::z48::z49::z50::z51::z52::z53 :: []).toArray, []⟩ w3) :
    Code.wp Try.prog (((Try.f54.body.bind (findReg 7)).getD .skip)) (Exit.then K Q) ⟨(z0::z1::z2::z3::z4::z5::(.pointer (some ⟨p, 0, none⟩))::z7::(.pointer (some ⟨q8, 0, none⟩))::z9::z10::z11::z12::z13::z14::z15::z16::z17::z18::z19::z20::z21::z22::z23::z24::z25::z26::z27::z28::z29::z30::z31::z32::z33::z34::z35::z36::z37::z38::z39::z40::z41::z42::z43::z44::z45::z46::z47::z48::z49::z50::z51::z52::z53 :: []).toArray, []⟩ wA := by
  have HFIN := Lib.hid hfin
  obtain ⟨ra, rc, rfl⟩ := ownsRow_form hI.op.row
  have k15 : ∀ W' : World, (W'.heap[p]? = some (.cells (shL s fa fc ++ [Value.slice ra l.length rc]).toArray 109) ∧ W'.heap[q8]? = some (.cells #[.int .i64 t.a, .int .i64 t.b, .int .i64 t.c] 32)) → W'.cell? ⟨p, 15, none⟩ = some (.slice ra l.length rc) := fun W' h => cell_block h.1 15
  have q0 : ∀ W' : World, (W'.heap[p]? = some (.cells (shL s fa fc ++ [Value.slice ra l.length rc]).toArray 109) ∧ W'.heap[q8]? = some (.cells #[.int .i64 t.a, .int .i64 t.b, .int .i64 t.c] 32)) → W'.cell? ⟨q8, 0, none⟩ = some (.int .i64 t.a) := fun W' h => cell_block h.2 0
  have q1 : ∀ W' : World, (W'.heap[p]? = some (.cells (shL s fa fc ++ [Value.slice ra l.length rc]).toArray 109) ∧ W'.heap[q8]? = some (.cells #[.int .i64 t.a, .int .i64 t.b, .int .i64 t.c] 32)) → W'.cell? ⟨q8, 1, none⟩ = some (.int .i64 t.b) := fun W' h => cell_block h.2 1
  have q2 : ∀ W' : World, (W'.heap[p]? = some (.cells (shL s fa fc ++ [Value.slice ra l.length rc]).toArray 109) ∧ W'.heap[q8]? = some (.cells #[.int .i64 t.a, .int .i64 t.b, .int .i64 t.c] 32)) → W'.cell? ⟨q8, 2, none⟩ = some (.int .i64 t.c) := fun W' h => cell_block h.2 2
  have hpl := hI.op.lt
  have hql := (Array.getElem?_eq_some_iff.1 hq).1
  have hsh := hI.op.sh
  have HI := Lib.hid hI
  clear hfin hI
  conv => arg 2; whnf
  refine (wpIn_wide (n := 1)).1 ?_
  refine wpIn_region_Vn (B := [10]) (S := fun W' => W'.heap[p]? = some (.cells (shL s fa fc ++ [Value.slice ra l.length rc]).toArray 109) ∧ W'.heap[q8]? = some (.cells #[.int .i64 t.a, .int .i64 t.b, .int .i64 t.c] 32)) 11 (by kernel_rfl) (by kernel_rfl) ⟨hsh, hq⟩ (fun hS0 => ?_)
  have H0 := below_drew wA
  generalize wA.drew = w0 at H0 hS0 ⊢
  refine wpAnyV_takeD 0 31 (v := ?_) (by kernel_rfl) (by kernel_rfl) (by kernel_rfl) (by kernel_rfl) (fun _ _ _ h => h) (by kernel_rfl) ?_ (by assumption) ?_
  rotate_left
  · intro oi hoi w hSw; (try dsimp only at hSw); simp only [gA, gB, gC, gG] at hoi; subst hoi; go_simp; try with_reducible rfl
  simp only [Act.put, gD, gE, gF]
  refine wpAnyV_takeD 1 32 (v := ?_) (by kernel_rfl) (by kernel_rfl) (by kernel_rfl) (by kernel_rfl) (fun _ _ _ h => h) (by kernel_rfl) ?_ (by assumption) ?_
  rotate_left
  · intro oi hoi w hSw; (try dsimp only at hSw); simp only [gA, gB, gC, gG] at hoi; subst hoi; go_simp; try with_reducible rfl
  simp only [Act.put, gD, gE, gF]
  refine wpAnyV_takeD 2 33 (v := ?_) (by kernel_rfl) (by kernel_rfl) (by kernel_rfl) (by kernel_rfl) (fun _ _ _ h => h) (by kernel_rfl) ?_ (by assumption) ?_
  rotate_left
  · intro oi hoi w hSw; (try dsimp only at hSw); simp only [gA, gB, gC, gG] at hoi; subst hoi; go_simp; try with_reducible rfl
  simp only [Act.put, gD, gE, gF]
  refine wpAnyV_takeD 3 34 (v := ?_) (by kernel_rfl) (by kernel_rfl) (by kernel_rfl) (by kernel_rfl) (fun _ _ _ h => h) (by kernel_rfl) ?_ (by assumption) ?_
  rotate_left
  · intro oi hoi w hSw; (try dsimp only at hSw); simp only [gA, gB, gC, gG] at hoi; subst hoi; go_simp; try with_reducible rfl
  simp only [Act.put, gD, gE, gF]
  refine wpAnyV_takeD 4 35 (v := ?_) (by kernel_rfl) (by kernel_rfl) (by kernel_rfl) (by kernel_rfl) (fun _ _ _ h => h) (by kernel_rfl) ?_ (by assumption) ?_
  rotate_left
  · intro oi hoi w hSw; (try dsimp only at hSw); simp only [gA, gB, gC, gG] at hoi; subst hoi; go_simp; try with_reducible rfl
  simp only [Act.put, gD, gE, gF]
  refine wpAnyV_takeD 5 36 (v := ?_) (by kernel_rfl) (by kernel_rfl) (by kernel_rfl) (by kernel_rfl) (fun _ _ _ h => h) (by kernel_rfl) ?_ (by assumption) ?_
  rotate_left
  · intro oi hoi w hSw; (try dsimp only at hSw); simp only [gA, gB, gC, gG] at hoi; subst hoi; go_simp; try with_reducible rfl
  simp only [Act.put, gD, gE, gF]
  clear k15 q0 q1 q2
  refine wpAnyV_one 6 (by kernel_rfl) (by kernel_rfl) ?_
  intro o ho K hK
  simp only [gA, gB, gC, gG] at ho
  subst ho
  go_simp
  have I0 := HI.out.later H0
  obtain ⟨v', w', hrun, hown', hgrow, hnext⟩ := putTr t I0.op.row hl I0.op.lt
  obtain ⟨xa, xN, xc, rfl⟩ := ownsRow_any hown'
  have hS1 := (below_alloc w0 (.cells #[.int .i64 t.a, .int .i64 t.b, .int .i64 t.c] 32))
  refine hK _ _ (.inr ⟨obj_later hS1 hS0.1, obj_later hS1 hS0.2⟩) (fun _ => ?_)
  clear hK K hS1
  try simp only [Act.put, gD, gE, gF]
  have hlt0 : ∀ g, (Value.slice ra l.length rc).ownBlock = some g → g < q8 := hvq
  have hge0 := fun g hg => (I0.op.row.lt g hg).1
  have hS2 : w'.heap[p]? = some (.cells (shL s fa fc ++ [Value.slice ra l.length rc]).toArray 109) ∧ w'.heap[q8]? = some (.cells #[.int .i64 t.a, .int .i64 t.b, .int .i64 t.c] 32) :=
    ⟨(hgrow.block p (Nat.lt_of_lt_of_le hpl H0.size) (fun e => by have := hge0 p e.symm; omega)).trans hS0.1, (hgrow.block q8 (Nat.lt_of_lt_of_le hql H0.size) (fun e => by have := hlt0 q8 e.symm; omega)).trans hS0.2⟩
  have hB2 : Below (p + 1) w0 w' := ⟨hgrow.os, hgrow.tape, hgrow.output, hgrow.size, fun g hg => hgrow.block g (by have := H0.size; omega) (fun e => by have := hge0 g e.symm; omega)⟩
  refine wpAnyV_one 7 (by kernel_rfl) (by kernel_rfl) ?_
  intro o ho K hK
  simp only [gA, gB, gC, gG] at ho
  subst ho
  refine wpIn_append' (.tmp 35) (.tmp 37) 41 _ _ _ rfl rfl rfl hrun ?_
  refine hK _ _ (.inr hS2) (fun _ => ?_)
  clear hK K hrun
  try simp only [Act.put, gD, gE, gF]
  refine wpAnyV_one 8 (by kernel_rfl) (by kernel_rfl) ?_
  intro o ho K hK
  simp only [gA, gB, gC, gG] at ho
  subst ho
  go_simp
  refine hK _ _ (.inr hS2) (fun _ => ?_)
  clear hK K
  try simp only [Act.put, gD, gE, gF]
  refine wpAnyV_one 9 (by kernel_rfl) (by kernel_rfl) ?_
  intro o ho K hK
  simp only [gA, gB, gC, gG] at ho
  subst ho
  go_simp
  refine hK _ _ (.inr hS2) (fun _ => ?_)
  clear hK K
  try simp only [Act.put, gD, gE, gF]
  have f15 := frozen_block hS2.1 15
  have c15 : w'.cell? ⟨p, 15, none⟩ = some (.slice ra l.length rc) := cell_block hS2.1 15
  refine wpAnyV_one 10 (by kernel_rfl) (by kernel_rfl) ?_
  intro o ho K hK
  simp only [gA, gB, gC, gG] at ho
  subst ho
  go_simp
  have zz := block_set hS2.1 15 (.slice xa xN xc)
  have hF : OpenB w00 (w'.setCell ⟨p, 15, none⟩ (.slice xa xN xc)) p s fa fc (l ++ [t]) (.slice xa xN xc) :=
    ⟨⟨zz.trans (by simp [shL]), HI.out.im.below (I0.bl.trans ((hB2.mono (Nat.le_succ p)).setCell (p := ⟨p, 15, none⟩) (Nat.le_refl _) _)) HI.out.sz, ownsRow_set hown' (Nat.lt_succ_self p)⟩,
      HI.out.im, HI.out.sz, I0.bl.trans ((hB2.mono (Nat.le_succ p)).setCell (p := ⟨p, 15, none⟩) (Nat.le_refl _) _)⟩
  have hz : wA.heap.size ≤ (w'.setCell ⟨p, 15, none⟩ (.slice xa xN xc)).heap.size := by have := H0.size; have := hB2.size; simp; omega
  refine hK _ _ (.inl (by kernel_rfl)) (fun _ => ?_)
  clear hK K
  try simp only [Act.put, gD, gE, gF]
  refine wpAnyV_done (by kernel_rfl) ?_ _
  dsimp only [onNormal]
  exact HFIN.out _ _ _ _ _ _ _ _ _ _ _ _ hF hz

def hasP (T : List ITr) (n : Nat) (F : Int) (t : ITr) : Bool := decide ((tellN (T.filter fun x => x.own &&& t.own == 0) n F 0 t.own).many ≠ 0)

theorem ihasT_any (p : Nat) (s : ISheet) (fa : Option Addr) (fc : Nat) (ta : Option Addr) (tc : Nat) (t : ITr) (w : World) (hok : s.ok = true) (hS : SheetAt w p s fa fc ta tc s.trails) (htm : t ∈ s.trails) :
    Calls Try.prog 54 #[.pointer (some ⟨p, 0, none⟩), .agg #[.int .i64 t.a, .int .i64 t.b, .int .i64 t.c]] w fun e w' => e = .returned (.bool (hasP s.trails s.l.length s.flaws t)) ∧ Below w.heap.size w w' := by
  have hn9 : s.l.length ≤ 9 := ((iok_iff s).1 hok).2.2.2.2.2.2.2.2.2
  have hbd : ∀ x ∈ s.trails, ∀ i ∈ [x.a, x.b, x.c], -1 ≤ i ∧ i < 9 := by
    intro x hx i hi
    have hwf := trails_wf x hx
    have ha := hwf.a
    simp only [List.mem_cons, List.not_mem_nil, or_false] at hi
    rcases hi with rfl | rfl | rfl
    · omega
    · rcases hwf.b with h | h <;> omega
    · rcases hwf.c with h | h <;> omega
  have HBD := Lib.hid hbd
  have HOWN := Lib.hid (trails_own hn9)
  have htb := hbd t htm
  have hto := trails_own hn9 t htm
  have HTOK := Lib.hid (trailsOk s hn9)
  have HF : Hid (hasP s.trails s.l.length s.flaws t = decide ((tellN (s.trails.filter fun x => x.own &&& t.own == 0) s.l.length s.flaws 0 t.own).many ≠ 0)) := Lib.hid rfl
  obtain ⟨rv, hrv⟩ : ∃ rv, hasP s.trails s.l.length s.flaws t = rv := ⟨_, rfl⟩
  rw [hrv] at HF ⊢
  clear hrv htm
  obtain ⟨T, hTe⟩ : ∃ T, s.trails = T := ⟨_, rfl⟩
  rw [hTe] at hS HBD HOWN HTOK HF
  clear hbd hTe
  go_enter Try.func54, Try.ntmps54
  go_wp2_with fail
  obtain ⟨W0, hW0⟩ : ∃ W, (w.alloc (.cells #[.int .i64 t.a, .int .i64 t.b, .int .i64 t.c] 32)) = W := ⟨_, rfl⟩
  rw [hW0]
  try simp only [Nat.add_assoc, Nat.reduceAdd]
  have hst_W0 : Steps (fun _ => False) w W0 := by rw [← hW0]; exact Steps.alloc _ w _
  have hz_W0 : W0.heap.size = w.heap.size + 1 := by rw [← hW0]; simp
  have g0_W0 : W0.heap[w.heap.size]? = some (.cells #[.int .i64 t.a, .int .i64 t.b, .int .i64 t.c] 32) := by rw [← hW0]; simp only [alloc_get, World.size_alloc]; repeat (first | exact if_pos trivial | exact if_pos (by omega) | rw [if_neg (by omega)])
  clear hW0
  have hb0 : Below w.heap.size w W0 := hst_W0.below (Nat.le_refl _) (fun _ _ h => h)
  have hS0 := hS.later hb0
  refine (iimages_any t W0 htb).mono ?_
  rintro e w1 ⟨rfl, hb1⟩
  have hS1 := hS0.later hb1
  have hB1 := hb0.trans (hb1.mono hb0.size)
  have c := fun i => cell_block hS1.sh i
  have c0 := c 0
  have c1 := c 1
  have c2 := c 2
  have c3 := c 3
  have c4 := c 4
  have c5 := c 5
  have c6 := c 6
  have c7 := c 7
  have c8 := c 8
  have c9 := c 9
  have c10 := c 10
  have c11 := c 11
  have c12 := c 12
  have c13 := c 13
  have c14 := c 14
  have c15 := c 15
  simp only [shL, List.cons_append, List.nil_append, gA, gB, gC] at c0 c1 c2 c3 c4 c5 c6 c7 c8 c9 c10 c11 c12 c13 c14 c15
  have hpl := World.block_lt_of_cell? w1 _ c0
  dsimp only at hpl
  clear c hst_W0 hz_W0 g0_W0 hb0 hb1 hS0 hS
  have hlenT := HTOK.out.len
  have hli : (T.length : Int) ≤ 5000 := by omega
  go_wp2_with fail
  have hnew := obj_new w1 (.cells #[.int .i64 s.ax.lo, .int .i64 s.ax.hi, .int .i64 s.ay.lo, .int .i64 s.ay.hi, .int .i64 s.bx.lo, .int .i64 s.bx.hi, .int .i64 s.by'.lo, .int .i64 s.by'.hi, .int .i64 s.f.lo, .int .i64 s.f.hi, .int .i64 s.g.lo, .int .i64 s.g.hi, .int .i64 s.limit, .int .i64 s.flaws, .slice fa s.l.length fc, .slice none 0 0] 109)
  have hbn := below_alloc w1 (.cells #[.int .i64 s.ax.lo, .int .i64 s.ax.hi, .int .i64 s.ay.lo, .int .i64 s.ay.hi, .int .i64 s.bx.lo, .int .i64 s.bx.hi, .int .i64 s.by'.lo, .int .i64 s.by'.hi, .int .i64 s.f.lo, .int .i64 s.f.hi, .int .i64 s.g.lo, .int .i64 s.g.hi, .int .i64 s.limit, .int .i64 s.flaws, .slice fa s.l.length fc, .slice none 0 0] 109)
  obtain ⟨p2, hp2⟩ : ∃ p, w1.heap.size = p := ⟨_, rfl⟩
  generalize w1.alloc (.cells #[.int .i64 s.ax.lo, .int .i64 s.ax.hi, .int .i64 s.ay.lo, .int .i64 s.ay.hi, .int .i64 s.bx.lo, .int .i64 s.bx.hi, .int .i64 s.by'.lo, .int .i64 s.by'.hi, .int .i64 s.f.lo, .int .i64 s.f.hi, .int .i64 s.g.lo, .int .i64 s.g.hi, .int .i64 s.limit, .int .i64 s.flaws, .slice fa s.l.length fc, .slice none 0 0] 109) = wz at hnew hbn ⊢
  rw [hp2] at hnew hbn hpl
  try rw [hp2]
  have HP2 := Lib.hid hp2
  have hO : OpenB w1 wz p2 s fa fc [] (.slice none 0 0) := ⟨⟨hnew, hS1.im.below hbn (Nat.le_of_eq hp2), World.ownsRow_nil _ _ _ _⟩, hS1.im, Nat.le_of_eq hp2, hbn⟩
  clear hnew hbn hp2 c0 c1 c2 c3 c4 c5 c6 c7 c8 c9 c10 c11 c12 c13 c14 c15
  have HS1 := Lib.hid hS1
  have htake : ∀ k, ((T.take k).filter fun x => x.own &&& t.own == 0).length ≤ 5000 := fun k => Nat.le_trans (List.length_filter_le _ _) (by rw [List.length_take]; omega)
  have HTK := Lib.hid htake
  clear htake
  go_loopw [8, 22] (fun _ i wr => ∃ (k : Nat) (v : Value), k ≤ T.length ∧ i = .int .i64 k ∧ OpenB w1 wr p2 s fa fc ((T.take k).filter fun x => x.own &&& t.own == 0) v) (fun _ i _ => T.length - (intOf i).toNat)
  case atStart => exact ⟨0, _, Nat.zero_le _, rfl, by simpa using hO⟩
  case round =>
    obtain ⟨k, v, hk, rfl, hOk⟩ := hrel
    clear hO
    have hSr : SheetAt wr p s fa fc ta tc T := HS1.out.later (by rw [HP2.out]; exact hOk.bl)
    by_cases hlt : k < T.length
    · have hki : (k : Int) < T.length := by omega
      obtain ⟨b, o, rfl, hbl, e0, e1, e2⟩ := hSr.tr k hlt
      obtain ⟨x, hx⟩ : ∃ x, T[k] = x := ⟨_, rfl⟩
      have hxm : x ∈ T := by rw [← hx]; exact List.getElem_mem hlt
      have hxo := HOWN.out x hxm
      have hxb := HBD.out x hxm
      have hsn : (T.take (k + 1)).filter (fun x => x.own &&& t.own == 0) = (T.take k).filter (fun x => x.own &&& t.own == 0) ++ if x.own &&& t.own == 0 then [x] else [] := by
        rw [List.take_succ_eq_append_getElem hlt, List.filter_append, hx, List.filter_cons, List.filter_nil]
      have HSN := Lib.hid hsn
      rw [hx] at e0 e1 e2
      clear hsn hx
      go_wp2_with fail
      have hq := obj_new wr (.cells #[.int .i64 x.a, .int .i64 x.b, .int .i64 x.c] 32)
      have hbq := below_alloc wr (.cells #[.int .i64 x.a, .int .i64 x.b, .int .i64 x.c] 32)
      have hvq : ∀ g, v.ownBlock = some g → g < wr.heap.size := fun g hg => (hOk.op.row.lt g hg).2
      have hpq : p2 < wr.heap.size := hOk.op.lt
      generalize wr.alloc (.cells #[.int .i64 x.a, .int .i64 x.b, .int .i64 x.c] 32) = wq at hq hbq ⊢
      have hOq := hOk.later hbq
      obtain ⟨q8, hq8⟩ : ∃ q, wr.heap.size = q := ⟨_, rfl⟩
      rw [hq8] at hq hvq hpq
      try rw [hq8]
      clear hbq hq8 e0 e1 e2 hbl hSr
      refine (iimages_any x wq hxb).mono ?_
      rintro e w2 ⟨rfl, hb2⟩
      have hO2 := hOq.later hb2
      have hq2 := obj_later hb2 hq
      have hand := and_u64 x.own t.own (by omega) (by omega)
      have hll := HTK.out k
      clear hOq hq hb2
      by_cases hz : x.own &&& t.own = 0
      · rw [hz] at hand
        have hif : (T.take (k + 1)).filter (fun x => x.own &&& t.own == 0) = (T.take k).filter (fun x => x.own &&& t.own == 0) ++ [x] := by rw [HSN.out, hz]; rfl
        have HIF := Lib.hid hif
        clear hif hz
        go_upto_region 7 with fail
        refine wp_last (has_reg7 p2 q8 fa fc s _ v x w1 w2 hO2 hq2 hpq hvq hll _ _ ?_)
        intro s31 s32 s33 s34 s35 s36 s37 s38 s39 s40 v' w3 hO3 hz3
        go_wp2_with fail
        go_roundw
        case rel => exact ⟨k + 1, v', hlt, by go_num, by rw [HIF.out]; exact hO3⟩
        case measure => simp [intOf]; omega
      · have hzi : ¬ ((x.own &&& t.own : Nat) : Int) = 0 := by omega
        have hzb : (((x.own &&& t.own : Nat) : Int) == 0) = false := by simpa using hz
        have hif : (T.take (k + 1)).filter (fun x => x.own &&& t.own == 0) = (T.take k).filter (fun x => x.own &&& t.own == 0) := by rw [HSN.out, if_neg (by simpa using hz), List.append_nil]
        have HIF := Lib.hid hif
        clear hif hz
        go_wp2_with fail
        go_roundw
        case rel => exact ⟨k + 1, v, hlt, by go_num, by rw [HIF.out]; exact hO2⟩
        case measure => simp [intOf]; omega
    · obtain rfl : k = T.length := by omega
      rw [List.take_length] at hOk
      obtain ⟨va, vc, rfl⟩ := ownsRow_form hOk.op.row
      obtain ⟨T', hT'⟩ : ∃ T', (T.filter fun x => x.own &&& t.own == 0) = T' := ⟨_, rfl⟩
      have hTok : TOk T' s.l.length := by rw [← hT']; exact HTOK.out.filter _
      rw [hT'] at hOk HF
      have hsh2 : SheetAt wr p2 s fa fc va vc T' := ⟨hOk.op.sh, hOk.op.im, TrSl.owned hOk.op.row, hOk.op.tb, hOk.op.tp⟩
      have c13 : wr.cell? ⟨p, 13, none⟩ = some (.int .i64 s.flaws) := cell_block hSr.sh 13
      have hti := itell_any p2 s.l.length s.flaws fa fc va vc T' wr hsh2.c14 hsh2.c15 hsh2.tr hsh2.tb
      have hBr : Below w.heap.size w wr := hB1.trans (hOk.bl.mono (by have := HP2.out; have := hB1.size; omega))
      go_wp2_with fail
      refine hti.mono ?_
      rintro e w2 ⟨B1, B2, B3, B4, r, rfl, hat, hkn, hr, hb2⟩
      have hon := ion_from hn9 hTok hat hkn 0 t.own (Int.le_refl _) hto
      have hBF := hBr.trans (hb2.mono hBr.size)
      obtain ⟨y, hy⟩ : ∃ y, tellN T' s.l.length s.flaws 0 t.own = y := ⟨_, rfl⟩
      have tf := tfield0 (.int .i64 y.many) (.int .i64 y.flaws) (.int .i64 y.lo) (.int .i64 y.hi) (.int .u64 y.some) (.int .u64 y.all)
      have hrv := HF.out
      rw [hy] at hrv
      have HRV := Lib.hid hrv
      clear HF hrv hti hat hkn
      unfold onV
      go_wp2_with fail
      refine hon.mono ?_
      rintro e w3 ⟨rfl, hs3, _⟩
      rw [hy]
      unfold tdV
      have hBX := hBF.trans (hs3.below (B := w.heap.size) hBF.size (fun k hk h => by have := hBr.size; omega))
      go_wp2_with fail
      go_ret
      refine ⟨?_, hBX⟩
      rw [HRV.out]
      exact congrArg (fun b => Ending.returned (.bool b)) (decide_eq_decide.2 (by omega) : decide (0 < y.many) = decide (y.many ≠ 0))
end Go.Proofs.Ytacioedolmaofaa
namespace Go.Proofs.Ytacioedolmaofaa
set_option linter.unusedVariables false
set_option maxRecDepth 100000

def goesOn (T : List ITr) (n : Nat) (F : Int) (used : Nat) (t : ITr) : Bool := decide ((tellN T n F (t.a + 1) (used ||| t.own)).many ≠ 0)
/-- The first way. -/
def fewW (T : List ITr) (n : Nat) (F : Int) : Nat → Int → Nat → List ITr
  | 0, _, _ => []
  | r + 1, fr, used => if (n : Int) - bitsIn 9 used ≤ F then [] else match (nextOf T fr used).find? (goesOn T n F used) with
    | some t => t::fewW T n F r (t.a + 1) (used ||| t.own)
    | none => []

theorem fold_zero (T : List ITr) (n : Nat) (F : Int) (used : Nat) : ∀ (L : List ITr) (o : ITold), (∀ t ∈ L, (tellN T n F (t.a + 1) (used ||| t.own)).many = 0) → L.foldl (tellStep T n F used) o = o
  | [], _, _ => rfl
  | t::L, o, h => by
    rw [List.foldl_cons]
    have e : tellStep T n F used o t = o := by
      unfold tellStep ITold.add
      rw [if_pos (h t (by simp))]
    rw [e]
    exact fold_zero T n F used L o (fun x hx => h x (by simp [hx]))
theorem goes_some {T : List ITr} {n : Nat} {F : Int} (hT : ∀ t ∈ T, 0 ≤ t.a ∧ t.a < n) {fr : Int} {used : Nat} (hm : (tellN T n F fr used).many ≠ 0) (hF : ¬ (n : Int) - bitsIn 9 used ≤ F) : ∃ t, (nextOf T fr used).find? (goesOn T n F used) = some t := by
  cases hf : (nextOf T fr used).find? (goesOn T n F used) with
  | some t => exact ⟨t, rfl⟩
  | none =>
    exfalso
    apply hm
    rw [tellN_eq F hT, tellTo, fold_zero]
    · unfold leafTold
      rw [if_neg hF]
    · intro t ht
      have := List.find?_eq_none.1 hf t ht
      unfold goesOn at this
      simpa using this
theorem few_step {T : List ITr} {n : Nat} {F : Int} {r : Nat} {fr : Int} {used : Nat} {t : ITr} (hF : ¬ (n : Int) - bitsIn 9 used ≤ F) (hf : (nextOf T fr used).find? (goesOn T n F used) = some t) : fewW T n F (r + 1) fr used = t::fewW T n F r (t.a + 1) (used ||| t.own) := by
  rw [fewW, if_neg hF, hf]
theorem few_end {T : List ITr} {n : Nat} {F : Int} {r : Nat} {fr : Int} {used : Nat} (hF : (n : Int) - bitsIn 9 used ≤ F) : fewW T n F r fr used = [] := by
  cases r with
  | zero => rfl
  | succ r => unfold fewW; rw [if_pos hF]
/-- Whatever the fuel. -/
theorem few_fuel {T : List ITr} {n : Nat} {F : Int} (hT : ∀ t ∈ T, t.a < n) : ∀ (r r' : Nat) (fr : Int) (used : Nat), (n : Int) - fr ≤ r → (n : Int) - fr ≤ r' → fewW T n F r fr used = fewW T n F r' fr used := by
  have h0 : ∀ (r : Nat) (fr : Int) (used : Nat), (n : Int) ≤ fr → fewW T n F r fr used = [] := by
    intro r fr used h
    cases r with
    | zero => rfl
    | succ r => unfold fewW; rw [next_none hT h]; split <;> rfl
  intro r
  induction r with
  | zero => intro r' fr used h h'; rw [h0 0 fr used (by omega), h0 r' fr used (by omega)]
  | succ r ih =>
    intro r' fr used h h'
    cases r' with
    | zero => rw [h0 _ fr used (by omega), h0 0 fr used (by omega)]
    | succ r' =>
      unfold fewW
      split
      · rfl
      · cases hf : (nextOf T fr used).find? (goesOn T n F used) with
        | none => rfl
        | some t =>
          have := (next_mem (List.mem_of_find?_eq_some hf)).2.1
          simp only
          rw [ih r' (t.a + 1) _ (by omega) (by omega)]

/-- What is told of all ways, by a fold over them. -/
theorem tellN_agg {T : List ITr} {n : Nat} (F : Int) (hT : ∀ t ∈ T, t.a < n) (hO : ∀ t ∈ T, t.own < 512) (used : Nat) : tellN T n F 0 used = aggOf n used (waysOf T n F n 0 used) := by
  unfold tellN
  rw [tell_fuel F hT (n + 1) n 0 used (by omega) (by omega)]
  exact tell_agg T n F hO n 0 used (Nat.le_refl _)
theorem agg_flaws (n used : Nat) : ∀ (L : List (List ITr)), (∀ w ∈ L, (aggOf n used L).flaws ≤ flawsW n used w) ∧ (L ≠ [] → (∀ w ∈ L, flawsW n used w ≤ n + 1) → ∃ w ∈ L, (aggOf n used L).flaws = flawsW n used w) := by
  intro L
  suffices h : ∀ (k : Nat) (L : List (List ITr)), L.length = k → (∀ w ∈ L, (aggOf n used L).flaws ≤ flawsW n used w) ∧ (aggOf n used L).flaws ≤ n + 1 ∧ (L ≠ [] → (∀ w ∈ L, flawsW n used w ≤ n + 1) → ∃ w ∈ L, (aggOf n used L).flaws = flawsW n used w) from ⟨(h _ L rfl).1, (h _ L rfl).2.2⟩
  intro k
  induction k with
  | zero =>
    intro L hL
    obtain rfl := List.eq_nil_of_length_eq_zero hL
    refine ⟨by simp, Int.le_refl _, fun h => absurd rfl h⟩
  | succ k ih =>
    intro L hL
    obtain ⟨M, w, rfl⟩ : ∃ M w, L = M ++ [w] := ⟨L.dropLast, L.getLast (fun e => by subst e; cases hL), (List.dropLast_concat_getLast _).symm⟩
    obtain ⟨h1, h2, h3⟩ := ih M (by simpa using hL)
    rw [aggOf_snoc]
    have hf : (wayMore n used (aggOf n used M) w).flaws = min (aggOf n used M).flaws (flawsW n used w) := rfl
    rw [hf]
    refine ⟨fun u hu => ?_, by omega, fun _ hb => ?_⟩
    · rcases List.mem_append.1 hu with hu | hu
      · have := h1 u hu; omega
      · rw [List.mem_singleton] at hu; subst hu; omega
    · rcases Int.le_total (flawsW n used w) (aggOf n used M).flaws with h | h
      · exact ⟨w, by simp, by omega⟩
      · by_cases hM : M = []
        · subst hM
          have : (aggOf n used []).flaws = n + 1 := rfl
          have hw := hb w (by simp)
          exact ⟨w, by simp, by omega⟩
        · obtain ⟨u, hu, e⟩ := h3 hM (fun u hu => hb u (by simp [hu]))
          exact ⟨u, by simp [hu], by omega⟩
/-- With the fewest flaws allowed there is a way, too. -/
theorem few_many {T : List ITr} {n : Nat} (F : Int) (hT : ∀ t ∈ T, t.a < n) (hO : ∀ t ∈ T, t.own < 512) (h : (tellN T n F 0 0).many ≠ 0) : (tellN T n (tellN T n F 0 0).flaws 0 0).many ≠ 0 ∧ (tellN T n F 0 0).flaws ≤ F := by
  rw [tellN_agg F hT hO] at h ⊢
  rw [aggOf_many] at h
  have hne : waysOf T n F n 0 0 ≠ [] := fun e => h (by rw [e]; rfl)
  obtain ⟨w, hw, e⟩ := (agg_flaws n 0 (waysOf T n F n 0 0)).2 hne (fun w _ => by unfold flawsW; have : (bitsIn 9 (0 ||| ownAll w) : Int) ≥ 0 := Int.natCast_nonneg _; omega)
  have hle : (aggOf n 0 (waysOf T n F n 0 0)).flaws ≤ F := by
    rw [e]
    rw [ways_filter T n (Int.le_refl F)] at hw
    have := (List.mem_filter.1 hw).2
    simpa using this
  refine ⟨?_, hle⟩
  rw [tellN_agg _ hT hO, aggOf_many]
  intro h0
  have hz := List.eq_nil_of_length_eq_zero h0
  have : w ∈ waysOf T n (aggOf n 0 (waysOf T n F n 0 0)).flaws n 0 0 := by
    rw [ways_filter T n hle, List.mem_filter]
    exact ⟨hw, by rw [e]; simp⟩
  rw [hz] at this
  cases this
end Go.Proofs.Ytacioedolmaofaa
namespace Go.Proofs.Ytacioedolmaofaa
set_option linter.unusedVariables false
set_option maxRecDepth 100000

/-- Do these trails go on, one after the other? -/
def Goes (T : List ITr) : Int → Nat → List ITr → Prop
  | _, _, [] => True
  | fr, used, t::w => t ∈ nextOf T fr used ∧ Goes T (t.a + 1) (used ||| t.own) w
theorem mem_next {T : List ITr} {fr : Int} {used : Nat} {t : ITr} : t ∈ nextOf T fr used ↔ t ∈ T ∧ fr ≤ t.a ∧ t.own &&& used = 0 := by
  refine ⟨next_mem, fun ⟨h1, h2, h3⟩ => ?_⟩
  unfold nextOf
  rw [List.mem_filter]
  refine ⟨h1, ?_⟩
  rw [Bool.and_eq_true]
  exact ⟨decide_eq_true h2, by rw [h3]; rfl⟩
theorem mem_leaf {n : Nat} {F : Int} {used : Nat} {w : List ITr} : w ∈ (if (n : Int) - bitsIn 9 used ≤ F then [[]] else [] : List (List ITr)) ↔ w = [] ∧ flawsW n used [] ≤ F := by
  rw [flawsW_nil]
  split
  · rename_i h; simp [h]
  · rename_i h; simp [h]
theorem mem_ways {T : List ITr} {n : Nat} (F : Int) (hT : ∀ t ∈ T, t.a < n) : ∀ (r : Nat) (fr : Int) (used : Nat) (w : List ITr), (n : Int) - fr ≤ r → (w ∈ waysOf T n F r fr used ↔ Goes T fr used w ∧ flawsW n used w ≤ F) := by
  intro r
  induction r with
  | zero =>
    intro fr used w h
    unfold waysOf
    rw [mem_leaf]
    cases w with
    | nil => simp [Goes]
    | cons t w =>
      simp only [Goes, next_none hT (show (n : Int) ≤ fr by omega), List.not_mem_nil, false_and, reduceCtorEq]
  | succ r ih =>
    intro fr used w h
    unfold waysOf
    rw [List.mem_append, mem_leaf, List.mem_flatMap]
    cases w with
    | nil =>
      constructor
      · rintro (⟨_, h1⟩ | ⟨t, _, h1⟩)
        · exact ⟨trivial, h1⟩
        · obtain ⟨_, _, h2⟩ := List.mem_map.1 h1; cases h2
      · rintro ⟨_, h1⟩; exact .inl ⟨rfl, h1⟩
    | cons t w =>
      rw [flawsW_cons]
      constructor
      · rintro (⟨h1, _⟩ | ⟨u, hu, h1⟩)
        · cases h1
        · obtain ⟨w', h2, h3⟩ := List.mem_map.1 h1
          cases h3
          have hu2 := mem_next.1 hu
          have := (ih _ _ _ (by omega)).1 h2
          exact ⟨⟨hu, this.1⟩, this.2⟩
      · rintro ⟨⟨h1, h2⟩, h3⟩
        have hu2 := mem_next.1 h1
        exact .inr ⟨t, h1, List.mem_map.2 ⟨w, (ih _ _ _ (by omega)).2 ⟨h2, h3⟩, rfl⟩⟩

/-- What is asked of trails. -/
structure TP (T : List ITr) (n : Nat) : Prop where
  lt : ∀ t ∈ T, t.a < n
  ge : ∀ t ∈ T, 0 ≤ t.a
  own : ∀ t ∈ T, t.own < 512
theorem tp_of {s : ISheet} (hn : s.l.length ≤ 9) : TP s.trails s.l.length := ⟨fun t ht => (trails_wf t ht).a.2, fun t ht => (trails_wf t ht).a.1, trails_own hn⟩
theorem TP.filter {T : List ITr} {n : Nat} (h : TP T n) (p : ITr → Bool) : TP (T.filter p) n := ⟨fun t ht => h.lt t (List.mem_filter.1 ht).1, fun t ht => h.ge t (List.mem_filter.1 ht).1, fun t ht => h.own t (List.mem_filter.1 ht).1⟩

theorem tellN_ways {T : List ITr} {n : Nat} (F : Int) (hT : TP T n) (fr : Int) (h0 : 0 ≤ fr) (used : Nat) : tellN T n F fr used = aggOf n used (waysOf T n F n fr used) := by
  unfold tellN
  rw [tell_fuel F hT.lt (n + 1) n fr used (by omega) (by omega)]
  exact tell_agg T n F hT.own n fr used (Nat.le_refl _)
theorem tellN_many {T : List ITr} {n : Nat} (F : Int) (hT : TP T n) (fr : Int) (h0 : 0 ≤ fr) (used : Nat) : (tellN T n F fr used).many = (waysOf T n F n fr used).length := by
  rw [tellN_ways F hT fr h0, aggOf_many]
theorem many_iff {T : List ITr} {n : Nat} (F : Int) (hT : TP T n) (fr : Int) (h0 : 0 ≤ fr) (used : Nat) : (tellN T n F fr used).many ≠ 0 ↔ ∃ w, Goes T fr used w ∧ flawsW n used w ≤ F := by
  rw [tellN_many F hT fr h0]
  constructor
  · intro h
    cases hw : waysOf T n F n fr used with
    | nil => rw [hw] at h; exact absurd rfl h
    | cons w W =>
      exact ⟨w, (mem_ways F hT.lt n fr used w (by omega)).1 (by rw [hw]; simp)⟩
  · rintro ⟨w, h1, h2⟩ h
    have := (mem_ways F hT.lt n fr used w (by omega)).2 ⟨h1, h2⟩
    rw [List.eq_nil_of_length_eq_zero h] at this
    cases this

theorem flawsW_le (n used : Nat) (w : List ITr) : flawsW n used w ≤ n := by
  unfold flawsW
  have : (bitsIn 9 (used ||| ownAll w) : Int) ≥ 0 := Int.natCast_nonneg _
  omega
/-- The fewest flaws. -/
theorem flaws_min {T : List ITr} {n : Nat} (F : Int) (hT : TP T n) (fr : Int) (h0 : 0 ≤ fr) (used : Nat) (hm : (tellN T n F fr used).many ≠ 0) :
    (∃ w, Goes T fr used w ∧ flawsW n used w = (tellN T n F fr used).flaws) ∧ (tellN T n F fr used).flaws ≤ F ∧ ∀ w, Goes T fr used w → (tellN T n F fr used).flaws ≤ flawsW n used w := by
  rw [tellN_many F hT fr h0] at hm
  rw [tellN_ways F hT fr h0]
  have hne : waysOf T n F n fr used ≠ [] := fun e => hm (by rw [e]; rfl)
  obtain ⟨h1, h2⟩ := agg_flaws n used (waysOf T n F n fr used)
  obtain ⟨w, hw, e⟩ := h2 hne (fun w _ => by have := flawsW_le n used w; omega)
  have hw2 := (mem_ways F hT.lt n fr used w (by omega)).1 hw
  refine ⟨⟨w, hw2.1, e.symm⟩, by rw [e]; exact hw2.2, fun u hu => ?_⟩
  by_cases hF : flawsW n used u ≤ F
  · exact h1 u ((mem_ways F hT.lt n fr used u (by omega)).2 ⟨hu, hF⟩)
  · rw [e]; omega

/-- Does a trail come before another one? -/
def trLt (t u : ITr) : Prop := t.a < u.a ∨ (t.a = u.a ∧ (t.b < u.b ∨ (t.b = u.b ∧ t.c < u.c)))
/-- Is a list of trails no later than another one? -/
def before : List ITr → List ITr → Bool
  | [], _ => true
  | _::_, [] => false
  | t::l, u::m => if t.a ≠ u.a then decide (t.a < u.a) else if t.b ≠ u.b then decide (t.b < u.b) else if t.c ≠ u.c then decide (t.c < u.c) else before l m
theorem before_lt {t u : ITr} (h : trLt t u) (l m : List ITr) : before (t::l) (u::m) = true := by
  unfold before
  rcases h with h | ⟨e, h⟩
  · rw [if_pos (by omega)]; simpa using h
  · rw [if_neg (by omega)]
    rcases h with h | ⟨e2, h⟩
    · rw [if_pos (by omega)]; simpa using h
    · rw [if_neg (by omega), if_pos (by omega)]; simpa using h
theorem before_same (t : ITr) (l m : List ITr) : before (t::l) (t::m) = before l m := by
  conv => lhs; unfold before
  simp
theorem fromNo_sorted (n : Nat) : (fromNo n).Pairwise (· < ·) := by
  unfold fromNo
  rw [List.pairwise_map]
  exact List.Pairwise.imp (fun {a b} h => by omega) List.pairwise_lt_range
theorem trails_sorted (s : ISheet) : s.trails.Pairwise trLt := by
  unfold ISheet.trails
  rw [List.pairwise_flatMap]
  refine ⟨fun a _ => ?_, ?_⟩
  · rw [List.pairwise_flatMap]
    refine ⟨fun b _ => ?_, ?_⟩
    · refine List.Pairwise.filter _ ?_
      rw [List.pairwise_map]
      exact List.Pairwise.imp (fun {c d} h => .inr ⟨rfl, .inr ⟨rfl, h⟩⟩) (fromNo_sorted _)
    · refine List.Pairwise.imp (fun {b c} h x hx y hy => ?_) (fromNo_sorted _)
      obtain ⟨_, _, rfl⟩ := List.mem_map.1 (List.mem_filter.1 hx).1
      obtain ⟨_, _, rfl⟩ := List.mem_map.1 (List.mem_filter.1 hy).1
      exact .inr ⟨rfl, .inl h⟩
  · refine List.Pairwise.imp (fun {a b} h x hx y hy => ?_) List.pairwise_lt_range
    obtain ⟨_, _, hx⟩ := List.mem_flatMap.1 hx
    obtain ⟨_, _, hy⟩ := List.mem_flatMap.1 hy
    obtain ⟨_, _, rfl⟩ := List.mem_map.1 (List.mem_filter.1 hx).1
    obtain ⟨_, _, rfl⟩ := List.mem_map.1 (List.mem_filter.1 hy).1
    exact .inl (by show (a : Int) < b; omega)
theorem find_first {T : List ITr} (hs : T.Pairwise trLt) {p : ITr → Bool} {t u : ITr} (h : T.find? p = some t) (hu : u ∈ T) (hp : p u = true) : u = t ∨ trLt t u := by
  obtain ⟨_, A, B, rfl, hA⟩ := List.find?_eq_some_iff_append.1 h
  rcases List.mem_append.1 hu with h1 | h1
  · have := hA u h1; rw [hp] at this; cases this
  · rcases List.mem_cons.1 h1 with h1 | h1
    · exact .inl h1
    · exact .inr ((List.pairwise_cons.1 (List.pairwise_append.1 hs).2.1).1 u h1)
theorem goesOn_iff {T : List ITr} {n : Nat} {F : Int} (hT : TP T n) {used : Nat} {t : ITr} (h0 : 0 ≤ t.a) : goesOn T n F used t = true ↔ ∃ w, Goes T (t.a + 1) (used ||| t.own) w ∧ flawsW n (used ||| t.own) w ≤ F := by
  unfold goesOn
  rw [decide_eq_true_iff]
  exact many_iff F hT _ (by omega) _

/-- The first way with the fewest flaws. -/
theorem few_spec {T : List ITr} {n : Nat} {F : Int} (hT : TP T n) (hs : T.Pairwise trLt) : ∀ (r : Nat) (fr : Int) (used : Nat), 0 ≤ fr → (n : Int) - fr ≤ r → (∃ w, Goes T fr used w ∧ flawsW n used w ≤ F) → (∀ w, Goes T fr used w → F ≤ flawsW n used w) →
    Goes T fr used (fewW T n F (r + 1) fr used) ∧ flawsW n used (fewW T n F (r + 1) fr used) = F ∧ ∀ w, Goes T fr used w → flawsW n used w = F → before (fewW T n F (r + 1) fr used) w = true := by
  intro r
  induction r with
  | zero =>
    intro fr used h0 hr ⟨w, hw, hF⟩ hmin
    cases w with
    | cons t w =>
      have := mem_next.1 hw.1
      have := hT.lt t this.1
      omega
    | nil =>
      rw [flawsW_nil] at hF
      rw [few_end hF]
      refine ⟨trivial, ?_, fun _ _ _ => rfl⟩
      have := hmin [] trivial
      rw [flawsW_nil] at this ⊢
      omega
  | succ r ih =>
    intro fr used h0 hr ⟨w, hw, hF⟩ hmin
    by_cases hl : (n : Int) - bitsIn 9 used ≤ F
    · rw [few_end hl]
      refine ⟨trivial, ?_, fun _ _ _ => rfl⟩
      have := hmin [] trivial
      rw [flawsW_nil] at this ⊢
      omega
    · have hm := (many_iff F hT fr h0 used).2 ⟨w, hw, hF⟩
      obtain ⟨t, hf⟩ := goes_some (fun t ht => ⟨hT.ge t ht, hT.lt t ht⟩) hm hl
      rw [few_step hl hf]
      have htn := List.mem_of_find?_eq_some hf
      have ht := mem_next.1 htn
      have hta := hT.ge t ht.1
      have hgo : goesOn T n F used t = true := List.find?_some hf
      obtain ⟨h1, h2, h3⟩ := ih (t.a + 1) (used ||| t.own) (by omega) (by omega) ((goesOn_iff hT hta).1 hgo) (fun u hu => by
        have := hmin (t::u) ⟨htn, hu⟩
        rwa [flawsW_cons] at this)
      refine ⟨⟨htn, h1⟩, by rw [flawsW_cons]; exact h2, fun u hu hFu => ?_⟩
      cases u with
      | nil => rw [flawsW_nil] at hFu; omega
      | cons v u =>
        rw [flawsW_cons] at hFu
        have hv := mem_next.1 hu.1
        have hgv : goesOn T n F used v = true := (goesOn_iff hT (hT.ge v hv.1)).2 ⟨u, hu.2, by omega⟩
        rcases find_first (List.Pairwise.filter _ hs) hf hu.1 hgv with e | h
        · subst e
          rw [before_same]
          exact h3 u hu.2 hFu
        · exact before_lt h _ _
end Go.Proofs.Ytacioedolmaofaa
