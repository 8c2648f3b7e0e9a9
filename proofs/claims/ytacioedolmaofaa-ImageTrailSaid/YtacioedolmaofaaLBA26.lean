/- The reference's Of, walked. -/
import Derived.Test.YtacioedolmaofaaLBA16
namespace Go.Proofs.Ytacioedolmaofaa
open Go.RowKit Go.Shelf
set_option maxHeartbeats 6400000
set_option maxRecDepth 100000
set_option linter.unusedSimpArgs false
set_option linter.unusedVariables false

def ofStart (s : ISheet) (t : ITr) : IStar := ⟨(s.at' t.a).x, (s.at' t.a).y, (s.at' t.a).s.meet ⟨s.limit, 1000⟩⟩
/-- How far the star is. -/
def ofStage (s : ISheet) (t : ITr) (e : Nat) (o : IStar) : Prop :=
  (e = 1 → o = ofStart s t) ∧ (e = 2 → starStep s (ofStart s t) t.b s.ax s.ay s.f = some o) ∧ (e = 3 → (starStep s (ofStart s t) t.b s.ax s.ay s.f).bind (fun o => starStep s o t.c s.bx s.by' s.g) = some o)
theorem ofStage.next1 {s : ISheet} {t : ITr} {o o' : IStar} (h : ofStage s t 1 o) (h2 : starStep s o t.b s.ax s.ay s.f = some o') : ofStage s t 2 o' := by
  have := h.1 rfl
  subst this
  exact ⟨by omega, fun _ => h2, by omega⟩
theorem ofStage.next2 {s : ISheet} {t : ITr} {o o' : IStar} (h : ofStage s t 2 o) (h2 : starStep s o t.c s.bx s.by' s.g = some o') : ofStage s t 3 o' := by
  have := h.2.1 rfl
  exact ⟨by omega, by omega, fun _ => by rw [this]; exact h2⟩
theorem ofStage.none1 {s : ISheet} {t : ITr} {o : IStar} (h : ofStage s t 1 o) (h2 : starStep s o t.b s.ax s.ay s.f = none) : s.star t = none := by
  have := h.1 rfl
  subst this
  unfold ISheet.star
  show (starStep s (ofStart s t) t.b s.ax s.ay s.f).bind _ = none
  rw [h2]
  rfl
theorem ofStage.none2 {s : ISheet} {t : ITr} {o : IStar} (h : ofStage s t 2 o) (h2 : starStep s o t.c s.bx s.by' s.g = none) : s.star t = none := by
  have := h.2.1 rfl
  unfold ISheet.star
  show (starStep s (ofStart s t) t.b s.ax s.ay s.f).bind _ = none
  rw [this]
  show (starStep s o t.c s.bx s.by' s.g).bind starEnd = none
  rw [h2]
  rfl
theorem ofStage.end' {s : ISheet} {t : ITr} {o : IStar} (h : ofStage s t 3 o) : s.star t = starEnd o := by
  have h3 := h.2.2 rfl
  unfold ISheet.star
  show (starStep s (ofStart s t) t.b s.ax s.ay s.f).bind (fun o => (starStep s o t.c s.bx s.by' s.g).bind starEnd) = starEnd o
  cases h1 : starStep s (ofStart s t) t.b s.ax s.ay s.f with
  | none => rw [h1] at h3; cases h3
  | some o2 =>
    rw [h1] at h3
    have h3' : starStep s o2 t.c s.bx s.by' s.g = some o := h3
    show (starStep s o2 t.c s.bx s.by' s.g).bind starEnd = starEnd o
    rw [h3']
    rfl

theorem irOf_any (s : ISheet) (fa : Option Addr) (fc : Nat) (t : ITr) (w : World) (hok : s.ok = true) (htk : t.ok s.l.length = true) (hl : ImSl w fa s.l) :
    Calls Try.prog 37 #[.agg #[.int .i64 s.ax.lo, .int .i64 s.ax.hi, .int .i64 s.ay.lo, .int .i64 s.ay.hi, .int .i64 s.bx.lo, .int .i64 s.bx.hi, .int .i64 s.by'.lo, .int .i64 s.by'.hi, .int .i64 s.f.lo, .int .i64 s.f.hi, .int .i64 s.g.lo, .int .i64 s.g.hi, .int .i64 s.limit, .int .i64 s.flaws, .slice fa s.l.length fc], .agg #[.int .i64 t.a, .int .i64 t.b, .int .i64 t.c]] w fun e w' => e = .returned (starV (s.star t)) ∧ Below w.heap.size w w' := by
  have hwf := ITr.wf_of htk
  have hn9 : s.l.length ≤ 9 := ((iok_iff s).1 hok).2.2.2.2.2.2.2.2.2
  have hni : (s.l.length : Int) ≤ 9 := by omega
  have HSM := Lib.hid (ok_smalls s hok)
  have HTK : Hid ((t.b ≠ -1 → 0 ≤ t.b ∧ t.b < s.l.length) ∧ (t.c ≠ -1 → 0 ≤ t.c ∧ t.c < s.l.length)) := Lib.hid ⟨fun h => hwf.b.resolve_left h, fun h => hwf.c.resolve_left h⟩
  obtain ⟨ka, hkae⟩ : ∃ ka : Nat, t.a = ka := ⟨t.a.toNat, by have := hwf.a; omega⟩
  have hka : ka < s.l.length := by have := hwf.a; omega
  have hkai : (ka : Int) < s.l.length := by omega
  obtain ⟨ba, oa, hfa, hba, hEa⟩ := hl ka hka
  have HL := Lib.hid hl
  obtain ⟨pa, hpa⟩ : ∃ pa, s.l[ka] = pa := ⟨_, rfl⟩
  have hata : s.at' t.a = pa := by
    rw [hkae, ← hpa]
    unfold ISheet.at'
    rw [List.getD_eq_getElem?_getD, Int.toNat_natCast, List.getElem?_eq_getElem hka]
    rfl
  rw [hpa] at hEa
  have HATA := Lib.hid hata
  have HKA := Lib.hid hkae
  have HFA := Lib.hid hfa
  clear hpa hata hwf htk hfa
  go_enter Try.func37, Try.ntmps37
  go_upto_region 1 with fail
  rw [hkae]
  obtain ⟨W0, hW0⟩ : ∃ W, (((w.alloc (.cells #[.int .i64 s.ax.lo, .int .i64 s.ax.hi, .int .i64 s.ay.lo, .int .i64 s.ay.hi, .int .i64 s.bx.lo, .int .i64 s.bx.hi, .int .i64 s.by'.lo, .int .i64 s.by'.hi, .int .i64 s.f.lo, .int .i64 s.f.hi, .int .i64 s.g.lo, .int .i64 s.g.hi, .int .i64 s.limit, .int .i64 s.flaws, .slice fa s.l.length fc] 30)).alloc (.cells #[.int .i64 ka, .int .i64 t.b, .int .i64 t.c] 32)).alloc (.cells #[.int .i64 0, .int .i64 0, .int .i64 0, .int .i64 0, .int .i64 0, .int .i64 0] 70)) = W := ⟨_, rfl⟩
  rw [hW0]
  try simp only [Nat.add_assoc, Nat.reduceAdd]
  have hst_W0 : Steps (fun _ => False) w W0 := by rw [← hW0]; exact ((Steps.alloc _ w _).trans (Steps.alloc (fun _ => False) _ _) (fun _ _ h => h)).trans (Steps.alloc (fun _ => False) _ _) (fun _ _ h => h)
  have hz_W0 : W0.heap.size = w.heap.size + 3 := by rw [← hW0]; simp
  have g0_W0 : W0.heap[w.heap.size]? = some (.cells #[.int .i64 s.ax.lo, .int .i64 s.ax.hi, .int .i64 s.ay.lo, .int .i64 s.ay.hi, .int .i64 s.bx.lo, .int .i64 s.bx.hi, .int .i64 s.by'.lo, .int .i64 s.by'.hi, .int .i64 s.f.lo, .int .i64 s.f.hi, .int .i64 s.g.lo, .int .i64 s.g.hi, .int .i64 s.limit, .int .i64 s.flaws, .slice fa s.l.length fc] 30) := by rw [← hW0]; simp only [alloc_get, World.size_alloc]; repeat (first | exact if_pos trivial | exact if_pos (by omega) | rw [if_neg (by omega)])
  have g1_W0 : W0.heap[w.heap.size + 1]? = some (.cells #[.int .i64 ka, .int .i64 t.b, .int .i64 t.c] 32) := by rw [← hW0]; simp only [alloc_get, World.size_alloc]; repeat (first | exact if_pos trivial | exact if_pos (by omega) | rw [if_neg (by omega)])
  have g2_W0 : W0.heap[w.heap.size + 2]? = some (.cells #[.int .i64 0, .int .i64 0, .int .i64 0, .int .i64 0, .int .i64 0, .int .i64 0] 70) := by rw [← hW0]; simp only [alloc_get, World.size_alloc]; repeat (first | exact if_pos trivial | exact if_pos (by omega) | rw [if_neg (by omega)])
  clear hW0
  clear hkae
  have hB0 : Below w.heap.size w W0 := hst_W0.below (Nat.le_refl _) (fun _ _ h => h)
  obtain ⟨z, hz⟩ : ∃ z, w.heap.size = z := ⟨_, rfl⟩
  rw [hz] at g0_W0 g1_W0 g2_W0 hz_W0 hba hB0
  try rw [hz]
  have HZ := Lib.hid hz
  have hs0 : ShAt W0 z s fa fc := ShAt.of (L := []) g0_W0
  have hE0 := hEa.same (hB0.block ba hba)
  obtain ⟨e0, e1, e2, e3, e4, e5⟩ := hE0
  have c14 := hs0.c14
  have y0 := cell_block g1_W0 0
  simp only [List.getElem?_toArray, List.getElem?_cons_zero] at y0
  rw [HFA.out] at c14
  clear hst_W0 hz hl hEa
  go_upto_region 2 with fail
  have hb1 := below_alloc W0 (.cells #[.int .i64 pa.x.lo, .int .i64 pa.x.hi, .int .i64 pa.y.lo, .int .i64 pa.y.hi, .int .i64 pa.s.lo, .int .i64 pa.s.hi] 61)
  have hq6 := obj_new W0 (.cells #[.int .i64 pa.x.lo, .int .i64 pa.x.hi, .int .i64 pa.y.lo, .int .i64 pa.y.hi, .int .i64 pa.s.lo, .int .i64 pa.s.hi] 61)
  generalize W0.alloc (.cells #[.int .i64 pa.x.lo, .int .i64 pa.x.hi, .int .i64 pa.y.lo, .int .i64 pa.y.hi, .int .i64 pa.s.lo, .int .i64 pa.s.hi] 61) = w1 at hb1 hq6 ⊢
  rw [hz_W0] at hq6
  try rw [hz_W0]
  have hs1 := hs0.later hb1
  have hy1 := obj_later hb1 g1_W0
  have hr1 := obj_later hb1 g2_W0
  have hz1 := hb1.size
  have hB1 := hB0.trans (hb1.mono (by omega))
  clear e0 e1 e2 e3 e4 e5 c14 y0 hb1 hs0 g0_W0 g1_W0 g2_W0 hB0
  refine of_reg2 z _ pa s.limit w1 hs1.c12 hq6 _ _ ?_
  intro s19 s20 s21 s22 s23 s24 s25 s26 s27 s28 s29 q7 w2 ⟨hq7, h7, hs2⟩
  have hb2 : Below w1.heap.size w1 w2 := hs2.below (Nat.le_refl _) (fun _ _ h => h)
  have hs2' := hs1.later hb2
  have hy2 := obj_later hb2 hy1
  have hr2 := obj_later hb2 hr1
  have hB2 := hB1.trans (hb2.mono (by omega))
  have hZ : Hid (z + 3 ≤ q7) := Lib.hid (by omega)
  have HBW : Hid (∀ W, Below q7 w2 W → Below z w W) := Lib.hid (fun W h => hB2.trans (h.mono (by omega)))
  have HKEEP : Hid (∀ W, Below q7 w2 W → ShAt W z s fa fc ∧ W.heap[z + 1]? = some (.cells #[.int .i64 ka, .int .i64 t.b, .int .i64 t.c] 32) ∧ W.heap[z + 2]? = some (.cells #[.int .i64 0, .int .i64 0, .int .i64 0, .int .i64 0, .int .i64 0, .int .i64 0] 70)) := Lib.hid (fun W h => ⟨hs2'.same (h.block z (by omega)), (h.block (z + 1) (by omega)).trans hy2, (h.block (z + 2) (by omega)).trans hr2⟩)
  have hstart : ofStage s t 1 ⟨pa.x, pa.y, pa.s.meet ⟨s.limit, 1000⟩⟩ := ⟨fun _ => by unfold ofStart; rw [HATA.out], by omega, by omega⟩
  clear hs1 hy1 hr1 hB1 hs2 hb2 hs2' hy2 hr2 hq6 hB2 hz1 hq7 hz_W0
  go_wp2_with fail
  go_loopw [5, 8, 9, 10, 11, 12] (fun _ i _ _ _ _ wr => ∃ (e : Nat) (o : IStar), 1 ≤ e ∧ e ≤ 3 ∧ i = .int .i64 e ∧ ofStage s t e o ∧ wr.heap[q7]? = some (.cells (irA o) 70) ∧ Below q7 w2 wr) (fun _ i _ _ _ _ _ => 3 - (intOf i).toNat)
  case atStart => exact ⟨1, _, by omega, by omega, rfl, hstart, h7, Below.refl _ _⟩
  case round =>
    clear h7 hstart
    obtain ⟨e, o, he1, he3, rfl, hst, h7, hBr⟩ := hrel
    obtain ⟨hsr, hyr, hrr⟩ := HKEEP.out _ hBr
    by_cases e1 : e = 1
    · subst e1
      have HST : Hid (∀ o', starStep s o t.b s.ax s.ay s.f = some o' → ofStage s t 2 o') := Lib.hid (fun o' h => hst.next1 h)
      have HNO : Hid (starStep s o t.b s.ax s.ay s.f = none → s.star t = none) := Lib.hid (fun h => hst.none1 h)
      clear hst
      go_upto_region 6 with fail
      refine of_reg6_1 z fc s fa wr hsr _ _ ?_
      intro s34 s35 s36 s37 s38 s39 s40 s41 s42 s43 q9 q10 w3 ⟨hq9, hq10, h9, h10, hs3⟩
      have hb3 : Below wr.heap.size wr w3 := hs3.below (Nat.le_refl _) (fun _ _ h => h)
      have hq7l := (Array.getElem?_eq_some_iff.1 h7).1
      replace h7 := obj_later hb3 h7
      have hsr3 := hsr.later hb3
      have hy3 := obj_later hb3 hyr
      have hBr3 := hBr.trans (hb3.mono (Nat.le_of_lt hq7l))
      have hlim := HSM.out.lim
      have hfd := HSM.out.f
      have d0 := cell_block h10 0
      have d1 := cell_block h10 1
      have y1 := cell_block hy3 1
      simp only [gA, gB, gC] at d0 d1 y1
      clear hs3 hsr hyr hBr
      have hBr := hBr3
      clear hBr3
      by_cases hv : t.b = -1
      · have hb1 : (t.b == -1) = true := by simp [hv]
        have hn : starStep s o t.b s.ax s.ay s.f = some { o with s := o.s.meet ⟨0, s.limit - 1 + s.f.hi⟩ } := by unfold starStep; rw [if_pos hv]
        have HN := Lib.hid hn
        have ew1 : IntKind.i64.wrap (s.limit - 1) = s.limit - 1 := by rw [IntKind.wrap_i64]; omega
        have ew2 : IntKind.i64.wrap (s.limit - 1 + s.f.hi) = s.limit - 1 + s.f.hi := by rw [IntKind.wrap_i64]; have := hfd.2; omega
        have c12 := hsr3.c12
        have o4 := cell_block h7 4
        have o5 := cell_block h7 5
        simp only [irA, gA, gB, gC] at o4 o5
        clear hn hv
        go_wp2_with fail
        refine (ircommon_any o.s ⟨0, s.limit - 1 + s.f.hi⟩ w3).mono ?_
        rintro e w4 ⟨rfl, hb4⟩
        have hq7l3 := (Array.getElem?_eq_some_iff.1 h7).1
        replace h7 := obj_later hb4 h7
        replace hBr := hBr.trans (hb4.mono (Nat.le_of_lt hq7l3))
        have f4 := frozen_block h7 4
        have f5 := frozen_block h7 5
        clear o4 o5 ew1 ew2 c12 d0 d1 y1 hb4
        have o4 := cell_block h7 4
        have o5 := cell_block h7 5
        simp only [irA, gA, gB, gC] at o4 o5
        go_wp2_with fail
        have zz := block_set (block_set h7 4 (.int .i64 (o.s.meet ⟨0, s.limit - 1 + s.f.hi⟩).lo)) 5 (.int .i64 (o.s.meet ⟨0, s.limit - 1 + s.f.hi⟩).hi)
        unfold irA at zz
        simp only [gD, gE, gF] at zz
        have hB' := (hBr.setCell (p := ⟨q7, 4, none⟩) (Nat.le_refl _) (.int .i64 (o.s.meet ⟨0, s.limit - 1 + s.f.hi⟩).lo)).setCell (p := ⟨q7, 5, none⟩) (Nat.le_refl _) (.int .i64 (o.s.meet ⟨0, s.limit - 1 + s.f.hi⟩).hi)
        go_roundw
        case rel => exact ⟨2, _, by omega, by omega, rfl, HST.out _ HN.out, zz, hB'⟩
        case measure => simp [intOf]
      · have hb1 : (t.b == -1) = false := by simpa using hv
        have hin : 0 ≤ t.b ∧ t.b < s.l.length := HTK.out.1 hv
        obtain ⟨kb, hkbe⟩ : ∃ kb : Nat, t.b = kb := ⟨t.b.toNat, by omega⟩
        have hkb : kb < s.l.length := by omega
        obtain ⟨bf, of, hfa, hbf, hE⟩ := HL.out kb hkb
        subst hfa
        obtain ⟨p, hp⟩ : ∃ p, s.l[kb] = p := ⟨_, rfl⟩
        rw [hp] at hE
        have hpm : p ∈ s.l := by rw [← hp]; exact List.getElem_mem hkb
        have hpx := HSM.out.x p hpm
        have hpy := HSM.out.y p hpm
        have hps := HSM.out.s p hpm
        have hat : s.at' t.b = p := by
          rw [hkbe, ← hp]
          unfold ISheet.at'
          rw [List.getD_eq_getElem?_getD, Int.toNat_natCast, List.getElem?_eq_getElem hkb]
          rfl
        have hn : starStep s o t.b s.ax s.ay s.f = (if (p.s.meet ⟨s.limit, 1000⟩).none then Option.none else some ⟨o.x.meet (p.x.less s.ax), o.y.meet (p.y.less s.ay), o.s.meet ⟨(p.s.meet ⟨s.limit, 1000⟩).lo + s.f.lo, (p.s.meet ⟨s.limit, 1000⟩).hi + s.f.hi⟩⟩) := by
          unfold starStep
          rw [if_neg hv, hat]
        have HN := Lib.hid hn
        have hE3 : ImAt w3 bf (of + kb * 6) p := hE.same ((HBW.out w3 hBr).block bf (by rw [← HZ.out]; exact hbf))
        have hkbi : (kb : Int) < s.l.length := by omega
        rw [hkbe] at y1 hb1 ⊢
        have HKB := Lib.hid hkbe
        clear hn hv hin hat hp hE hkbe
        go_upto_region 9 with fail
        refine of_reg9_1 z (z + 1) fc kb s.l.length bf of p w3 hsr3.c14 y1 hkbi hE3 _ _ ?_
        intro s59 s60 s61 s62 s63 s64 s65 q11 w4 ⟨hq11, h11, hs4⟩
        have hb4 : Below w3.heap.size w3 w4 := hs4.below (Nat.le_refl _) (fun _ _ h => h)
        have hq7l3 := (Array.getElem?_eq_some_iff.1 h7).1
        replace h7 := obj_later hb4 h7
        replace h9 := obj_later hb4 h9
        replace h10 := obj_later hb4 h10
        have hsr4 := hsr3.later hb4
        replace hBr := hBr.trans (hb4.mono (Nat.le_of_lt hq7l3))
        have c12 := hsr4.c12
        have u4 := cell_block h11 4
        have u5 := cell_block h11 5
        simp only [gA, gB, gC] at u4 u5
        obtain ⟨se, hse⟩ : ∃ se : Sp, p.s.meet ⟨s.limit, 1000⟩ = se := ⟨_, rfl⟩
        have hsel : -4000000 ≤ se.lo ∧ se.lo ≤ 4000000 ∧ -4000000 ≤ se.hi ∧ se.hi ≤ 4000000 := by
          have h1 := hps.1
          have h2 := hps.2
          rw [← hse]
          simp only [Sp.meet]
          omega
        have hn := HN.out
        rw [hse] at hn
        have HN := Lib.hid hn
        clear hn hs4 hb4 hsr3 hE3 hy3 y1 d0 d1
        go_wp2_with fail
        refine (ircommon_any p.s ⟨s.limit, 1000⟩ w4).mono ?_
        rintro e w5 ⟨rfl, hb5⟩
        rw [hse]
        have hq7l4 := (Array.getElem?_eq_some_iff.1 h7).1
        replace h7 := obj_later hb5 h7
        replace h9 := obj_later hb5 h9
        replace h10 := obj_later hb5 h10
        replace h11 := obj_later hb5 h11
        replace hBr := hBr.trans (hb5.mono (Nat.le_of_lt hq7l4))
        clear c12 u4 u5 hb5 hsr4 hse
        go_wp2_with fail
        have h12 := obj_new w5 (.cells #[.int .i64 se.lo, .int .i64 se.hi] 23)
        have hb6 := below_alloc w5 (.cells #[.int .i64 se.lo, .int .i64 se.hi] 23)
        have hq7l5 := (Array.getElem?_eq_some_iff.1 h7).1
        obtain ⟨q12, hq12⟩ : ∃ q, w5.heap.size = q := ⟨_, rfl⟩
        generalize w5.alloc (.cells #[.int .i64 se.lo, .int .i64 se.hi] 23) = w6 at h12 hb6 ⊢
        replace h7 := obj_later hb6 h7
        replace h9 := obj_later hb6 h9
        replace h10 := obj_later hb6 h10
        replace h11 := obj_later hb6 h11
        replace hBr := hBr.trans (hb6.mono (Nat.le_of_lt hq7l5))
        rw [hq12] at h12 hq7l5
        try rw [hq12]
        clear hb6 hq12
        refine (irempty_any se w6).mono ?_
        rintro e w7 ⟨rfl, hb7⟩
        have hq7l6 := (Array.getElem?_eq_some_iff.1 h7).1
        replace h7 := obj_later hb7 h7
        replace h9 := obj_later hb7 h9
        replace h10 := obj_later hb7 h10
        replace h11 := obj_later hb7 h11
        replace h12 := obj_later hb7 h12
        replace hBr := hBr.trans (hb7.mono (Nat.le_of_lt hq7l6))
        obtain ⟨qn, hqn⟩ : ∃ qn, se.none = qn := ⟨_, rfl⟩
        have hn := HN.out
        rw [hqn] at hn
        rw [hqn]
        have HN := Lib.hid hn
        clear hn hqn hb7
        cases qn
        · have hn2 : starStep s o t.b s.ax s.ay s.f = some ⟨o.x.meet (p.x.less s.ax), o.y.meet (p.y.less s.ay), o.s.meet ⟨se.lo + s.f.lo, se.hi + s.f.hi⟩⟩ := by rw [HN.out, if_neg (by simp)]
          have HN := Lib.hid hn2
          clear hn2
          go_upto_region 13 with fail
          refine of_reg13 q7 q9 q11 o p ⟨s.ax, s.ay⟩ w7 h7 h11 h9 hpx HSM.out.ax _ _ ?_
          intro s75 s76 s77 s78 s79 s80 s81 s82 s83 w8 ⟨h7', hs8⟩
          have hq7l7 := (Array.getElem?_eq_some_iff.1 h7).1
          replace h9 := hs8.obj (k := q9) (by omega) h9
          replace h10 := hs8.obj (k := q10) (by omega) h10
          replace h11 := hs8.obj (k := q11) (by omega) h11
          replace h12 := hs8.obj (k := q12) (by omega) h12
          replace hBr := hBr.trans (hs8.below (Nat.le_of_lt hq7l7) (fun k hk h => by omega))
          clear h7 hs8
          go_upto_region 14 with fail
          refine of_reg14 q7 q9 q11 _ p ⟨s.ax, s.ay⟩ w8 h7' h11 h9 hpy HSM.out.ay _ _ ?_
          intro s84 s85 s86 s87 s88 s89 s90 s91 s92 w9 ⟨h7, hs9⟩
          have hq7l8 := (Array.getElem?_eq_some_iff.1 h7').1
          replace h10 := hs9.obj (k := q10) (by omega) h10
          replace h12 := hs9.obj (k := q12) (by omega) h12
          replace hBr := hBr.trans (hs9.below (Nat.le_of_lt hq7l8) (fun k hk h => by omega))
          clear h7' hs9 h9 h11
          have o4 := cell_block h7 4
          have o5 := cell_block h7 5
          have d0 := cell_block h10 0
          have d1 := cell_block h10 1
          have r0 := cell_block h12 0
          have r1 := cell_block h12 1
          simp only [irA, gA, gB, gC] at o4 o5 d0 d1 r0 r1
          obtain ⟨hf1, hf2⟩ := hfd
          have ew1 : IntKind.i64.wrap (se.lo + s.f.lo) = se.lo + s.f.lo := by rw [IntKind.wrap_i64]; omega
          have ew2 : IntKind.i64.wrap (se.hi + s.f.hi) = se.hi + s.f.hi := by rw [IntKind.wrap_i64]; omega
          go_wp2_with fail
          refine (ircommon_any o.s ⟨se.lo + s.f.lo, se.hi + s.f.hi⟩ w9).mono ?_
          rintro e w10 ⟨rfl, hb10⟩
          have hq7l9 := (Array.getElem?_eq_some_iff.1 h7).1
          replace h7 := obj_later hb10 h7
          replace hBr := hBr.trans (hb10.mono (Nat.le_of_lt hq7l9))
          clear o4 o5 d0 d1 r0 r1 ew1 ew2 hb10 h10 h12
          have f4 := frozen_block h7 4
          have f5 := frozen_block h7 5
          have o4 := cell_block h7 4
          have o5 := cell_block h7 5
          simp only [irA, gA, gB, gC] at o4 o5
          go_wp2_with fail
          have zz := block_set (block_set h7 4 (.int .i64 (o.s.meet ⟨se.lo + s.f.lo, se.hi + s.f.hi⟩).lo)) 5 (.int .i64 (o.s.meet ⟨se.lo + s.f.lo, se.hi + s.f.hi⟩).hi)
          unfold irA at zz
          simp only [gD, gE, gF] at zz
          have hB' := (hBr.setCell (p := ⟨q7, 4, none⟩) (Nat.le_refl _) (.int .i64 (o.s.meet ⟨se.lo + s.f.lo, se.hi + s.f.hi⟩).lo)).setCell (p := ⟨q7, 5, none⟩) (Nat.le_refl _) (.int .i64 (o.s.meet ⟨se.lo + s.f.lo, se.hi + s.f.hi⟩).hi)
          rw [← HKB.out]
          go_roundw
          case rel => exact ⟨2, _, by omega, by omega, rfl, HST.out _ HN.out, zz, hB'⟩
          case measure => simp [intOf]
        · have hn2 : s.star t = none := HNO.out (by rw [HN.out, if_pos rfl])
          have HV := Lib.hid hn2
          clear hn2
          obtain ⟨-, -, hrr⟩ := HKEEP.out _ hBr
          have rc := fun i => cell_block hrr i
          have rf := fun i => frozen_block hrr i
          have m0 := rc 0
          have m1 := rc 1
          have m2 := rc 2
          have m3 := rc 3
          have m4 := rc 4
          have m5 := rc 5
          have f0 := rf 0
          have f1 := rf 1
          have f2 := rf 2
          have f3 := rf 3
          have f4 := rf 4
          have f5 := rf 5
          clear rc rf
          simp only [gA, gB, gC] at m0 m1 m2 m3 m4 m5
          have r0 := cell_block h12 0
          have r1 := cell_block h12 1
          simp only [gA, gB, gC] at r0 r1
          go_wp2_with fail
          have zz := star_put hrr (.int .i64 0) (.int .i64 0) (.int .i64 0) (.int .i64 0) (.int .i64 0) (.int .i64 0)
          have hP := star_puts (b := z + 2) (Below.refl (z + 2) w7) (.int .i64 0) (.int .i64 0) (.int .i64 0) (.int .i64 0) (.int .i64 0) (.int .i64 0)
          have m0 := cell_block zz 0
          have m1 := cell_block zz 1
          have m2 := cell_block zz 2
          have m3 := cell_block zz 3
          have m4 := cell_block zz 4
          have m5 := cell_block zz 5
          simp only [gA, gB, gC] at m0 m1 m2 m3 m4 m5
          exact bodyPost_ret (v := .tuple #[.agg #[.int .i64 0, .int .i64 0, .int .i64 0, .int .i64 0, .int .i64 0, .int .i64 0], .bool false]) (by simp [results, Try.results37, go_sem, m0, m1, m2, m3, m4, m5]) rfl ⟨by rw [HV.out]; rfl, by rw [HZ.out]; exact (HBW.out _ hBr).trans (hP.mono (by omega))⟩
    by_cases e2 : e = 2
    · subst e2
      have HST : Hid (∀ o', starStep s o t.c s.bx s.by' s.g = some o' → ofStage s t 3 o') := Lib.hid (fun o' h => hst.next2 h)
      have HNO : Hid (starStep s o t.c s.bx s.by' s.g = none → s.star t = none) := Lib.hid (fun h => hst.none2 h)
      clear hst
      go_upto_region 6 with fail
      refine of_reg6_2 z fc s fa wr hsr _ _ ?_
      intro s34 s35 s36 s37 s38 s39 s40 s41 s42 s43 q9 q10 w3 ⟨hq9, hq10, h9, h10, hs3⟩
      have hb3 : Below wr.heap.size wr w3 := hs3.below (Nat.le_refl _) (fun _ _ h => h)
      have hq7l := (Array.getElem?_eq_some_iff.1 h7).1
      replace h7 := obj_later hb3 h7
      have hsr3 := hsr.later hb3
      have hy3 := obj_later hb3 hyr
      have hBr3 := hBr.trans (hb3.mono (Nat.le_of_lt hq7l))
      have hlim := HSM.out.lim
      have hfd := HSM.out.g
      have d0 := cell_block h10 0
      have d1 := cell_block h10 1
      have y2 := cell_block hy3 2
      simp only [gA, gB, gC] at d0 d1 y2
      clear hs3 hsr hyr hBr
      have hBr := hBr3
      clear hBr3
      by_cases hv : t.c = -1
      · have hb1 : (t.c == -1) = true := by simp [hv]
        have hn : starStep s o t.c s.bx s.by' s.g = some { o with s := o.s.meet ⟨0, s.limit - 1 + s.g.hi⟩ } := by unfold starStep; rw [if_pos hv]
        have HN := Lib.hid hn
        have ew1 : IntKind.i64.wrap (s.limit - 1) = s.limit - 1 := by rw [IntKind.wrap_i64]; omega
        have ew2 : IntKind.i64.wrap (s.limit - 1 + s.g.hi) = s.limit - 1 + s.g.hi := by rw [IntKind.wrap_i64]; have := hfd.2; omega
        have c12 := hsr3.c12
        have o4 := cell_block h7 4
        have o5 := cell_block h7 5
        simp only [irA, gA, gB, gC] at o4 o5
        clear hn hv
        go_wp2_with fail
        refine (ircommon_any o.s ⟨0, s.limit - 1 + s.g.hi⟩ w3).mono ?_
        rintro e w4 ⟨rfl, hb4⟩
        have hq7l3 := (Array.getElem?_eq_some_iff.1 h7).1
        replace h7 := obj_later hb4 h7
        replace hBr := hBr.trans (hb4.mono (Nat.le_of_lt hq7l3))
        have f4 := frozen_block h7 4
        have f5 := frozen_block h7 5
        clear o4 o5 ew1 ew2 c12 d0 d1 y2 hb4
        have o4 := cell_block h7 4
        have o5 := cell_block h7 5
        simp only [irA, gA, gB, gC] at o4 o5
        go_wp2_with fail
        have zz := block_set (block_set h7 4 (.int .i64 (o.s.meet ⟨0, s.limit - 1 + s.g.hi⟩).lo)) 5 (.int .i64 (o.s.meet ⟨0, s.limit - 1 + s.g.hi⟩).hi)
        unfold irA at zz
        simp only [gD, gE, gF] at zz
        have hB' := (hBr.setCell (p := ⟨q7, 4, none⟩) (Nat.le_refl _) (.int .i64 (o.s.meet ⟨0, s.limit - 1 + s.g.hi⟩).lo)).setCell (p := ⟨q7, 5, none⟩) (Nat.le_refl _) (.int .i64 (o.s.meet ⟨0, s.limit - 1 + s.g.hi⟩).hi)
        go_roundw
        case rel => exact ⟨3, _, by omega, by omega, rfl, HST.out _ HN.out, zz, hB'⟩
        case measure => simp [intOf]
      · have hb1 : (t.c == -1) = false := by simpa using hv
        have hin : 0 ≤ t.c ∧ t.c < s.l.length := HTK.out.2 hv
        obtain ⟨kb, hkbe⟩ : ∃ kb : Nat, t.c = kb := ⟨t.c.toNat, by omega⟩
        have hkb : kb < s.l.length := by omega
        obtain ⟨bf, of, hfa, hbf, hE⟩ := HL.out kb hkb
        subst hfa
        obtain ⟨p, hp⟩ : ∃ p, s.l[kb] = p := ⟨_, rfl⟩
        rw [hp] at hE
        have hpm : p ∈ s.l := by rw [← hp]; exact List.getElem_mem hkb
        have hpx := HSM.out.x p hpm
        have hpy := HSM.out.y p hpm
        have hps := HSM.out.s p hpm
        have hat : s.at' t.c = p := by
          rw [hkbe, ← hp]
          unfold ISheet.at'
          rw [List.getD_eq_getElem?_getD, Int.toNat_natCast, List.getElem?_eq_getElem hkb]
          rfl
        have hn : starStep s o t.c s.bx s.by' s.g = (if (p.s.meet ⟨s.limit, 1000⟩).none then Option.none else some ⟨o.x.meet (p.x.less s.bx), o.y.meet (p.y.less s.by'), o.s.meet ⟨(p.s.meet ⟨s.limit, 1000⟩).lo + s.g.lo, (p.s.meet ⟨s.limit, 1000⟩).hi + s.g.hi⟩⟩) := by
          unfold starStep
          rw [if_neg hv, hat]
        have HN := Lib.hid hn
        have hE3 : ImAt w3 bf (of + kb * 6) p := hE.same ((HBW.out w3 hBr).block bf (by rw [← HZ.out]; exact hbf))
        have hkbi : (kb : Int) < s.l.length := by omega
        rw [hkbe] at y2 hb1 ⊢
        have HKB := Lib.hid hkbe
        clear hn hv hin hat hp hE hkbe
        go_upto_region 9 with fail
        refine of_reg9_2 z (z + 1) fc kb s.l.length bf of p w3 hsr3.c14 y2 hkbi hE3 _ _ ?_
        intro s59 s60 s61 s62 s63 s64 s65 q11 w4 ⟨hq11, h11, hs4⟩
        have hb4 : Below w3.heap.size w3 w4 := hs4.below (Nat.le_refl _) (fun _ _ h => h)
        have hq7l3 := (Array.getElem?_eq_some_iff.1 h7).1
        replace h7 := obj_later hb4 h7
        replace h9 := obj_later hb4 h9
        replace h10 := obj_later hb4 h10
        have hsr4 := hsr3.later hb4
        replace hBr := hBr.trans (hb4.mono (Nat.le_of_lt hq7l3))
        have c12 := hsr4.c12
        have u4 := cell_block h11 4
        have u5 := cell_block h11 5
        simp only [gA, gB, gC] at u4 u5
        obtain ⟨se, hse⟩ : ∃ se : Sp, p.s.meet ⟨s.limit, 1000⟩ = se := ⟨_, rfl⟩
        have hsel : -4000000 ≤ se.lo ∧ se.lo ≤ 4000000 ∧ -4000000 ≤ se.hi ∧ se.hi ≤ 4000000 := by
          have h1 := hps.1
          have h2 := hps.2
          rw [← hse]
          simp only [Sp.meet]
          omega
        have hn := HN.out
        rw [hse] at hn
        have HN := Lib.hid hn
        clear hn hs4 hb4 hsr3 hE3 hy3 y2 d0 d1
        go_wp2_with fail
        refine (ircommon_any p.s ⟨s.limit, 1000⟩ w4).mono ?_
        rintro e w5 ⟨rfl, hb5⟩
        rw [hse]
        have hq7l4 := (Array.getElem?_eq_some_iff.1 h7).1
        replace h7 := obj_later hb5 h7
        replace h9 := obj_later hb5 h9
        replace h10 := obj_later hb5 h10
        replace h11 := obj_later hb5 h11
        replace hBr := hBr.trans (hb5.mono (Nat.le_of_lt hq7l4))
        clear c12 u4 u5 hb5 hsr4 hse
        go_wp2_with fail
        have h12 := obj_new w5 (.cells #[.int .i64 se.lo, .int .i64 se.hi] 23)
        have hb6 := below_alloc w5 (.cells #[.int .i64 se.lo, .int .i64 se.hi] 23)
        have hq7l5 := (Array.getElem?_eq_some_iff.1 h7).1
        obtain ⟨q12, hq12⟩ : ∃ q, w5.heap.size = q := ⟨_, rfl⟩
        generalize w5.alloc (.cells #[.int .i64 se.lo, .int .i64 se.hi] 23) = w6 at h12 hb6 ⊢
        replace h7 := obj_later hb6 h7
        replace h9 := obj_later hb6 h9
        replace h10 := obj_later hb6 h10
        replace h11 := obj_later hb6 h11
        replace hBr := hBr.trans (hb6.mono (Nat.le_of_lt hq7l5))
        rw [hq12] at h12 hq7l5
        try rw [hq12]
        clear hb6 hq12
        refine (irempty_any se w6).mono ?_
        rintro e w7 ⟨rfl, hb7⟩
        have hq7l6 := (Array.getElem?_eq_some_iff.1 h7).1
        replace h7 := obj_later hb7 h7
        replace h9 := obj_later hb7 h9
        replace h10 := obj_later hb7 h10
        replace h11 := obj_later hb7 h11
        replace h12 := obj_later hb7 h12
        replace hBr := hBr.trans (hb7.mono (Nat.le_of_lt hq7l6))
        obtain ⟨qn, hqn⟩ : ∃ qn, se.none = qn := ⟨_, rfl⟩
        have hn := HN.out
        rw [hqn] at hn
        rw [hqn]
        have HN := Lib.hid hn
        clear hn hqn hb7
        cases qn
        · have hn2 : starStep s o t.c s.bx s.by' s.g = some ⟨o.x.meet (p.x.less s.bx), o.y.meet (p.y.less s.by'), o.s.meet ⟨se.lo + s.g.lo, se.hi + s.g.hi⟩⟩ := by rw [HN.out, if_neg (by simp)]
          have HN := Lib.hid hn2
          clear hn2
          go_upto_region 13 with fail
          refine of_reg13 q7 q9 q11 o p ⟨s.bx, s.by'⟩ w7 h7 h11 h9 hpx HSM.out.bx _ _ ?_
          intro s75 s76 s77 s78 s79 s80 s81 s82 s83 w8 ⟨h7', hs8⟩
          have hq7l7 := (Array.getElem?_eq_some_iff.1 h7).1
          replace h9 := hs8.obj (k := q9) (by omega) h9
          replace h10 := hs8.obj (k := q10) (by omega) h10
          replace h11 := hs8.obj (k := q11) (by omega) h11
          replace h12 := hs8.obj (k := q12) (by omega) h12
          replace hBr := hBr.trans (hs8.below (Nat.le_of_lt hq7l7) (fun k hk h => by omega))
          clear h7 hs8
          go_upto_region 14 with fail
          refine of_reg14 q7 q9 q11 _ p ⟨s.bx, s.by'⟩ w8 h7' h11 h9 hpy HSM.out.by'' _ _ ?_
          intro s84 s85 s86 s87 s88 s89 s90 s91 s92 w9 ⟨h7, hs9⟩
          have hq7l8 := (Array.getElem?_eq_some_iff.1 h7').1
          replace h10 := hs9.obj (k := q10) (by omega) h10
          replace h12 := hs9.obj (k := q12) (by omega) h12
          replace hBr := hBr.trans (hs9.below (Nat.le_of_lt hq7l8) (fun k hk h => by omega))
          clear h7' hs9 h9 h11
          have o4 := cell_block h7 4
          have o5 := cell_block h7 5
          have d0 := cell_block h10 0
          have d1 := cell_block h10 1
          have r0 := cell_block h12 0
          have r1 := cell_block h12 1
          simp only [irA, gA, gB, gC] at o4 o5 d0 d1 r0 r1
          obtain ⟨hf1, hf2⟩ := hfd
          have ew1 : IntKind.i64.wrap (se.lo + s.g.lo) = se.lo + s.g.lo := by rw [IntKind.wrap_i64]; omega
          have ew2 : IntKind.i64.wrap (se.hi + s.g.hi) = se.hi + s.g.hi := by rw [IntKind.wrap_i64]; omega
          go_wp2_with fail
          refine (ircommon_any o.s ⟨se.lo + s.g.lo, se.hi + s.g.hi⟩ w9).mono ?_
          rintro e w10 ⟨rfl, hb10⟩
          have hq7l9 := (Array.getElem?_eq_some_iff.1 h7).1
          replace h7 := obj_later hb10 h7
          replace hBr := hBr.trans (hb10.mono (Nat.le_of_lt hq7l9))
          clear o4 o5 d0 d1 r0 r1 ew1 ew2 hb10 h10 h12
          have f4 := frozen_block h7 4
          have f5 := frozen_block h7 5
          have o4 := cell_block h7 4
          have o5 := cell_block h7 5
          simp only [irA, gA, gB, gC] at o4 o5
          go_wp2_with fail
          have zz := block_set (block_set h7 4 (.int .i64 (o.s.meet ⟨se.lo + s.g.lo, se.hi + s.g.hi⟩).lo)) 5 (.int .i64 (o.s.meet ⟨se.lo + s.g.lo, se.hi + s.g.hi⟩).hi)
          unfold irA at zz
          simp only [gD, gE, gF] at zz
          have hB' := (hBr.setCell (p := ⟨q7, 4, none⟩) (Nat.le_refl _) (.int .i64 (o.s.meet ⟨se.lo + s.g.lo, se.hi + s.g.hi⟩).lo)).setCell (p := ⟨q7, 5, none⟩) (Nat.le_refl _) (.int .i64 (o.s.meet ⟨se.lo + s.g.lo, se.hi + s.g.hi⟩).hi)
          rw [← HKB.out]
          go_roundw
          case rel => exact ⟨3, _, by omega, by omega, rfl, HST.out _ HN.out, zz, hB'⟩
          case measure => simp [intOf]
        · have hn2 : s.star t = none := HNO.out (by rw [HN.out, if_pos rfl])
          have HV := Lib.hid hn2
          clear hn2
          obtain ⟨-, -, hrr⟩ := HKEEP.out _ hBr
          have rc := fun i => cell_block hrr i
          have rf := fun i => frozen_block hrr i
          have m0 := rc 0
          have m1 := rc 1
          have m2 := rc 2
          have m3 := rc 3
          have m4 := rc 4
          have m5 := rc 5
          have f0 := rf 0
          have f1 := rf 1
          have f2 := rf 2
          have f3 := rf 3
          have f4 := rf 4
          have f5 := rf 5
          clear rc rf
          simp only [gA, gB, gC] at m0 m1 m2 m3 m4 m5
          have r0 := cell_block h12 0
          have r1 := cell_block h12 1
          simp only [gA, gB, gC] at r0 r1
          go_wp2_with fail
          have zz := star_put hrr (.int .i64 0) (.int .i64 0) (.int .i64 0) (.int .i64 0) (.int .i64 0) (.int .i64 0)
          have hP := star_puts (b := z + 2) (Below.refl (z + 2) w7) (.int .i64 0) (.int .i64 0) (.int .i64 0) (.int .i64 0) (.int .i64 0) (.int .i64 0)
          have m0 := cell_block zz 0
          have m1 := cell_block zz 1
          have m2 := cell_block zz 2
          have m3 := cell_block zz 3
          have m4 := cell_block zz 4
          have m5 := cell_block zz 5
          simp only [gA, gB, gC] at m0 m1 m2 m3 m4 m5
          exact bodyPost_ret (v := .tuple #[.agg #[.int .i64 0, .int .i64 0, .int .i64 0, .int .i64 0, .int .i64 0, .int .i64 0], .bool false]) (by simp [results, Try.results37, go_sem, m0, m1, m2, m3, m4, m5]) rfl ⟨by rw [HV.out]; rfl, by rw [HZ.out]; exact (HBW.out _ hBr).trans (hP.mono (by omega))⟩
    obtain rfl : e = 3 := by omega
    have hend := hst.end'
    have HEND := Lib.hid hend
    clear hst hend
    have uc := fun i => cell_block h7 i
    have u0 := uc 0
    have u1 := uc 1
    simp only [irA, gA, gB, gC] at u0 u1
    clear uc
    go_wp2_with fail
    refine (irempty_any o.x wr).mono ?_
    rintro e w3 ⟨rfl, hb3⟩
    have hq0 := (Array.getElem?_eq_some_iff.1 h7).1
    replace h7 := obj_later hb3 h7
    replace hBr := hBr.trans (hb3.mono (Nat.le_of_lt hq0))
    obtain ⟨bx, hbx⟩ : ∃ b, o.x.none = b := ⟨_, rfl⟩
    rw [hbx]
    have HBx := Lib.hid hbx
    clear hb3 hbx u0 u1
    cases bx
    ·
      have u0 := cell_block h7 2
      have u1 := cell_block h7 3
      simp only [irA, gA, gB, gC] at u0 u1
      go_wp2_with fail
      refine (irempty_any o.y w3).mono ?_
      rintro e w4 ⟨rfl, hb4⟩
      have hq1 := (Array.getElem?_eq_some_iff.1 h7).1
      replace h7 := obj_later hb4 h7
      replace hBr := hBr.trans (hb4.mono (Nat.le_of_lt hq1))
      obtain ⟨b_y, hby⟩ : ∃ b, o.y.none = b := ⟨_, rfl⟩
      rw [hby]
      have HBy := Lib.hid hby
      clear hb4 hby u0 u1
      cases b_y
      ·
        have u0 := cell_block h7 4
        have u1 := cell_block h7 5
        simp only [irA, gA, gB, gC] at u0 u1
        go_wp2_with fail
        refine (irempty_any o.s w4).mono ?_
        rintro e w5 ⟨rfl, hb5⟩
        have hq2 := (Array.getElem?_eq_some_iff.1 h7).1
        replace h7 := obj_later hb5 h7
        replace hBr := hBr.trans (hb5.mono (Nat.le_of_lt hq2))
        obtain ⟨bs, hbs⟩ : ∃ b, o.s.none = b := ⟨_, rfl⟩
        rw [hbs]
        have HBs := Lib.hid hbs
        clear hb5 hbs u0 u1
        cases bs
        ·
          have hn2 : s.star t = some o := by rw [HEND.out]; unfold starEnd; rw [if_neg (by rw [HBx.out, HBy.out, HBs.out]; simp)]
          have HV := Lib.hid hn2
          clear hn2
          have uc := fun i => cell_block h7 i
          have u0 := uc 0
          have u1 := uc 1
          have u2 := uc 2
          have u3 := uc 3
          have u4 := uc 4
          have u5 := uc 5
          simp only [irA, gA, gB, gC] at u0 u1 u2 u3 u4 u5
          clear uc
          obtain ⟨-, -, hrr⟩ := HKEEP.out _ hBr
          have rc := fun i => cell_block hrr i
          have rf := fun i => frozen_block hrr i
          have m0 := rc 0
          have m1 := rc 1
          have m2 := rc 2
          have m3 := rc 3
          have m4 := rc 4
          have m5 := rc 5
          have f0 := rf 0
          have f1 := rf 1
          have f2 := rf 2
          have f3 := rf 3
          have f4 := rf 4
          have f5 := rf 5
          clear rc rf
          simp only [gA, gB, gC] at m0 m1 m2 m3 m4 m5
          go_wp2_with fail
          have zz := star_put hrr (.int .i64 o.x.lo) (.int .i64 o.x.hi) (.int .i64 o.y.lo) (.int .i64 o.y.hi) (.int .i64 o.s.lo) (.int .i64 o.s.hi)
          have hP := star_puts (b := z + 2) (Below.refl (z + 2) w5) (.int .i64 o.x.lo) (.int .i64 o.x.hi) (.int .i64 o.y.lo) (.int .i64 o.y.hi) (.int .i64 o.s.lo) (.int .i64 o.s.hi)
          have m0 := cell_block zz 0
          have m1 := cell_block zz 1
          have m2 := cell_block zz 2
          have m3 := cell_block zz 3
          have m4 := cell_block zz 4
          have m5 := cell_block zz 5
          simp only [gA, gB, gC] at m0 m1 m2 m3 m4 m5
          exact bodyPost_ret (v := .tuple #[.agg #[.int .i64 o.x.lo, .int .i64 o.x.hi, .int .i64 o.y.lo, .int .i64 o.y.hi, .int .i64 o.s.lo, .int .i64 o.s.hi], .bool true]) (by simp [results, Try.results37, go_sem, m0, m1, m2, m3, m4, m5]) rfl ⟨by rw [HV.out]; rfl, by rw [HZ.out]; exact (HBW.out _ hBr).trans (hP.mono (by omega))⟩
        ·
          have hn2 : s.star t = none := by rw [HEND.out]; unfold starEnd; rw [if_pos (by rw [HBs.out]; simp)]
          have HV := Lib.hid hn2
          clear hn2
          obtain ⟨-, -, hrr⟩ := HKEEP.out _ hBr
          have rc := fun i => cell_block hrr i
          have rf := fun i => frozen_block hrr i
          have m0 := rc 0
          have m1 := rc 1
          have m2 := rc 2
          have m3 := rc 3
          have m4 := rc 4
          have m5 := rc 5
          have f0 := rf 0
          have f1 := rf 1
          have f2 := rf 2
          have f3 := rf 3
          have f4 := rf 4
          have f5 := rf 5
          clear rc rf
          simp only [gA, gB, gC] at m0 m1 m2 m3 m4 m5
          go_wp2_with fail
          have zz := star_put hrr (.int .i64 0) (.int .i64 0) (.int .i64 0) (.int .i64 0) (.int .i64 0) (.int .i64 0)
          have hP := star_puts (b := z + 2) (Below.refl (z + 2) w5) (.int .i64 0) (.int .i64 0) (.int .i64 0) (.int .i64 0) (.int .i64 0) (.int .i64 0)
          have m0 := cell_block zz 0
          have m1 := cell_block zz 1
          have m2 := cell_block zz 2
          have m3 := cell_block zz 3
          have m4 := cell_block zz 4
          have m5 := cell_block zz 5
          simp only [gA, gB, gC] at m0 m1 m2 m3 m4 m5
          exact bodyPost_ret (v := .tuple #[.agg #[.int .i64 0, .int .i64 0, .int .i64 0, .int .i64 0, .int .i64 0, .int .i64 0], .bool false]) (by simp [results, Try.results37, go_sem, m0, m1, m2, m3, m4, m5]) rfl ⟨by rw [HV.out]; rfl, by rw [HZ.out]; exact (HBW.out _ hBr).trans (hP.mono (by omega))⟩
      ·
        have hn2 : s.star t = none := by rw [HEND.out]; unfold starEnd; rw [if_pos (by rw [HBy.out]; simp)]
        have HV := Lib.hid hn2
        clear hn2
        obtain ⟨-, -, hrr⟩ := HKEEP.out _ hBr
        have rc := fun i => cell_block hrr i
        have rf := fun i => frozen_block hrr i
        have m0 := rc 0
        have m1 := rc 1
        have m2 := rc 2
        have m3 := rc 3
        have m4 := rc 4
        have m5 := rc 5
        have f0 := rf 0
        have f1 := rf 1
        have f2 := rf 2
        have f3 := rf 3
        have f4 := rf 4
        have f5 := rf 5
        clear rc rf
        simp only [gA, gB, gC] at m0 m1 m2 m3 m4 m5
        go_wp2_with fail
        have zz := star_put hrr (.int .i64 0) (.int .i64 0) (.int .i64 0) (.int .i64 0) (.int .i64 0) (.int .i64 0)
        have hP := star_puts (b := z + 2) (Below.refl (z + 2) w4) (.int .i64 0) (.int .i64 0) (.int .i64 0) (.int .i64 0) (.int .i64 0) (.int .i64 0)
        have m0 := cell_block zz 0
        have m1 := cell_block zz 1
        have m2 := cell_block zz 2
        have m3 := cell_block zz 3
        have m4 := cell_block zz 4
        have m5 := cell_block zz 5
        simp only [gA, gB, gC] at m0 m1 m2 m3 m4 m5
        exact bodyPost_ret (v := .tuple #[.agg #[.int .i64 0, .int .i64 0, .int .i64 0, .int .i64 0, .int .i64 0, .int .i64 0], .bool false]) (by simp [results, Try.results37, go_sem, m0, m1, m2, m3, m4, m5]) rfl ⟨by rw [HV.out]; rfl, by rw [HZ.out]; exact (HBW.out _ hBr).trans (hP.mono (by omega))⟩
    ·
      have hn2 : s.star t = none := by rw [HEND.out]; unfold starEnd; rw [if_pos (by rw [HBx.out]; simp)]
      have HV := Lib.hid hn2
      clear hn2
      obtain ⟨-, -, hrr⟩ := HKEEP.out _ hBr
      have rc := fun i => cell_block hrr i
      have rf := fun i => frozen_block hrr i
      have m0 := rc 0
      have m1 := rc 1
      have m2 := rc 2
      have m3 := rc 3
      have m4 := rc 4
      have m5 := rc 5
      have f0 := rf 0
      have f1 := rf 1
      have f2 := rf 2
      have f3 := rf 3
      have f4 := rf 4
      have f5 := rf 5
      clear rc rf
      simp only [gA, gB, gC] at m0 m1 m2 m3 m4 m5
      go_wp2_with fail
      have zz := star_put hrr (.int .i64 0) (.int .i64 0) (.int .i64 0) (.int .i64 0) (.int .i64 0) (.int .i64 0)
      have hP := star_puts (b := z + 2) (Below.refl (z + 2) w3) (.int .i64 0) (.int .i64 0) (.int .i64 0) (.int .i64 0) (.int .i64 0) (.int .i64 0)
      have m0 := cell_block zz 0
      have m1 := cell_block zz 1
      have m2 := cell_block zz 2
      have m3 := cell_block zz 3
      have m4 := cell_block zz 4
      have m5 := cell_block zz 5
      simp only [gA, gB, gC] at m0 m1 m2 m3 m4 m5
      exact bodyPost_ret (v := .tuple #[.agg #[.int .i64 0, .int .i64 0, .int .i64 0, .int .i64 0, .int .i64 0, .int .i64 0], .bool false]) (by simp [results, Try.results37, go_sem, m0, m1, m2, m3, m4, m5]) rfl ⟨by rw [HV.out]; rfl, by rw [HZ.out]; exact (HBW.out _ hBr).trans (hP.mono (by omega))⟩
end Go.Proofs.Ytacioedolmaofaa
