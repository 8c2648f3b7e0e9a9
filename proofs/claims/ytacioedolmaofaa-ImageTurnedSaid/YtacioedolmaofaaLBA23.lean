/- Where. Two regions of the rounds of Fewest. -/
import Derived.Test.YtacioedolmaofaaLBA22
import Derived.Test.YtacioedolmaofaaLBA21
namespace Go.Proofs.Ytacioedolmaofaa
open Go.RowKit Go.Shelf
attribute [local go_sem] Oper.semAt_some
set_option maxHeartbeats 6400000
set_option maxRecDepth 100000
set_option linter.unusedSimpArgs false
set_option linter.unusedVariables false

def noStar : IStar := ⟨⟨0, 0⟩, ⟨0, 0⟩, ⟨0, 0⟩⟩
def whereStep (s : ISheet) (spot : Int) (o : Option IStar) (t : ITr) : Option IStar := if decide (t.a = spot) && hasP s.trails s.l.length s.flaws t then some (match o with
  | none => (s.star t).getD noStar
  | some u => joinTo u ((s.star t).getD noStar) 3) else o
def whereTo (s : ISheet) (spot : Int) (k : Nat) : Option IStar := (s.trails.take k).foldl (whereStep s spot) none
theorem whereTo_succ (s : ISheet) (spot : Int) (k : Nat) (h : k < s.trails.length) : whereTo s spot (k + 1) = whereStep s spot (whereTo s spot k) s.trails[k] := by
  unfold whereTo
  rw [List.take_succ_eq_append_getElem h, List.foldl_append]
  rfl
def spotOk (s : ISheet) (spot : Int) : Bool := decide (0 ≤ spot) && decide (spot ≤ (s.l.length : Int) - 1)
def itWhere (s : ISheet) (spot : Int) : Option IStar × Int := if wayErr s (spotOk s spot) = 0 then (whereTo s spot s.trails.length, if (whereTo s spot s.trails.length).isSome then 0 else 4) else (none, wayErr s (spotOk s spot))
def whereV (r : Option IStar × Int) : Value := match r.1 with
  | some u => .tuple #[.agg #[.int .i64 u.x.lo, .int .i64 u.x.hi], .agg #[.int .i64 u.y.lo, .int .i64 u.y.hi], .agg #[.int .i64 u.s.lo, .int .i64 u.s.hi], .int .i64 r.2]
  | none => .tuple #[.agg #[.int .i64 0, .int .i64 0], .agg #[.int .i64 0, .int .i64 0], .agg #[.int .i64 0, .int .i64 0], .int .i64 r.2]
def outA (o : Option IStar) : Array Value := match o with
  | some u => stA u
  | none => #[.int .i64 0, .int .i64 0, .int .i64 0, .int .i64 0, .int .i64 0, .int .i64 0]
theorem joinTo_zero (u v : IStar) : joinTo u v 0 = u := rfl
theorem joinTo_self (u : IStar) : joinTo u u 3 = u := by
  obtain ⟨⟨a, b⟩, ⟨c, d⟩, ⟨e, f⟩⟩ := u
  simp [joinTo, Sp.join]
theorem trails_star {s : ISheet} {t : ITr} (h : t ∈ s.trails) : ∃ u, s.star t = some u := by
  unfold ISheet.trails at h
  obtain ⟨a, _, h⟩ := List.mem_flatMap.1 h
  obtain ⟨b, _, h⟩ := List.mem_flatMap.1 h
  have := (List.mem_filter.1 h).2
  rw [Bool.and_eq_true] at this
  exact Option.isSome_iff_exists.1 this.2
theorem trails_tok {s : ISheet} {t : ITr} (h : t ∈ s.trails) : t.ok s.l.length = true := by
  unfold ISheet.trails at h
  obtain ⟨a, _, h⟩ := List.mem_flatMap.1 h
  obtain ⟨b, _, h⟩ := List.mem_flatMap.1 h
  have := (List.mem_filter.1 h).2
  rw [Bool.and_eq_true] at this
  exact this.1
/-- Three pairs are stored. -/
def span3 (w : World) (z : Nat) (a0 a1 a2 a3 a4 a5 : Value) : World := (((((w.setCell ⟨z + 1, 0, none⟩ a0).setCell ⟨z + 1, 1, none⟩ a1).setCell ⟨z + 2, 0, none⟩ a2).setCell ⟨z + 2, 1, none⟩ a3).setCell ⟨z + 3, 0, none⟩ a4).setCell ⟨z + 3, 1, none⟩ a5
theorem span3_spec {w : World} {z : Nat} {x0 x1 x2 x3 x4 x5 : Value} {T : TypeId} (h1 : w.heap[z + 1]? = some (.cells #[x0, x1] T)) (h2 : w.heap[z + 2]? = some (.cells #[x2, x3] T)) (h3 : w.heap[z + 3]? = some (.cells #[x4, x5] T)) (a0 a1 a2 a3 a4 a5 : Value) :
    ((span3 w z a0 a1 a2 a3 a4 a5).heap[z + 1]? = some (.cells #[a0, a1] T) ∧ (span3 w z a0 a1 a2 a3 a4 a5).heap[z + 2]? = some (.cells #[a2, a3] T) ∧ (span3 w z a0 a1 a2 a3 a4 a5).heap[z + 3]? = some (.cells #[a4, a5] T)) ∧ Below (z + 1) w (span3 w z a0 a1 a2 a3 a4 a5) := by
  have s1 : ∀ (A : World) (k o : Nat) (v : Value), Steps (fun j => j = k) A (A.setCell ⟨k, o, none⟩ v) := fun A k o v => Steps.setCell (own := fun j => j = k) A (p := ⟨k, o, none⟩) rfl v
  have g1 := two_same a0 a1 h1
  have p1 := (s1 w (z + 1) 0 a0).trans (s1 _ (z + 1) 1 a1) (fun _ _ h => h)
  have g2 := p1.obj (k := z + 2) (by omega) h2
  have g3 := p1.obj (k := z + 3) (by omega) h3
  generalize hA : (w.setCell ⟨z + 1, 0, none⟩ a0).setCell ⟨z + 1, 1, none⟩ a1 = A at g1 p1 g2 g3
  have p2 := (s1 A (z + 2) 0 a2).trans (s1 _ (z + 2) 1 a3) (fun _ _ h => h)
  have g2' := two_same a2 a3 g2
  have g1' := p2.obj (k := z + 1) (by omega) g1
  have g3' := p2.obj (k := z + 3) (by omega) g3
  generalize hB : (A.setCell ⟨z + 2, 0, none⟩ a2).setCell ⟨z + 2, 1, none⟩ a3 = B at g1' p2 g2' g3'
  have p3 := (s1 B (z + 3) 0 a4).trans (s1 _ (z + 3) 1 a5) (fun _ _ h => h)
  have g3'' := two_same a4 a5 g3'
  have g1'' := p3.obj (k := z + 1) (by omega) g1'
  have g2'' := p3.obj (k := z + 2) (by omega) g2'
  have e : span3 w z a0 a1 a2 a3 a4 a5 = (B.setCell ⟨z + 3, 0, none⟩ a4).setCell ⟨z + 3, 1, none⟩ a5 := by unfold span3; rw [hA, hB]
  rw [e]
  refine ⟨⟨g1'', g2'', g3''⟩, ?_⟩
  have h1l := (Array.getElem?_eq_some_iff.1 h1).1
  exact (p1.below (B := z + 1) (by omega) (fun k hk h => by omega)).trans ((p2.below (by have := p1.size; omega) (fun k hk h => by omega)).trans (p3.below (by have := p1.size; have := p2.size; omega) (fun k hk h => by omega)))

theorem iWhere_any (s : ISheet) (fa : Option Addr) (fc : Nat) (spot : Int) (w : World) (hl : ImSl w fa s.l) (hlen : s.l.length < 9223372036854775807) (hl9 : (s.l.length : Int) ≤ 9000000) :
    Calls Try.prog 25 #[.agg #[.int .i64 s.ax.lo, .int .i64 s.ax.hi, .int .i64 s.ay.lo, .int .i64 s.ay.hi, .int .i64 s.bx.lo, .int .i64 s.bx.hi, .int .i64 s.by'.lo, .int .i64 s.by'.hi, .int .i64 s.f.lo, .int .i64 s.f.hi, .int .i64 s.g.lo, .int .i64 s.g.hi, .int .i64 s.limit, .int .i64 s.flaws, .slice fa s.l.length fc], .int .i64 spot] w fun e w' => e = .returned (whereV (itWhere s spot)) ∧ Below w.heap.size w w' := by
  obtain ⟨rv, hrv⟩ : ∃ rv, whereV (itWhere s spot) = rv := ⟨_, rfl⟩
  rw [hrv]
  have HRV := Lib.hid hrv
  clear hrv
  go_enter Try.func25, Try.ntmps25
  go_upto_region 1 with fail
  obtain ⟨W0, hW0⟩ : ∃ W, ((((w.alloc (.cells #[.int .i64 s.ax.lo, .int .i64 s.ax.hi, .int .i64 s.ay.lo, .int .i64 s.ay.hi, .int .i64 s.bx.lo, .int .i64 s.bx.hi, .int .i64 s.by'.lo, .int .i64 s.by'.hi, .int .i64 s.f.lo, .int .i64 s.f.hi, .int .i64 s.g.lo, .int .i64 s.g.hi, .int .i64 s.limit, .int .i64 s.flaws, .slice fa s.l.length fc] 30)).alloc (.cells #[.int .i64 0, .int .i64 0] 23)).alloc (.cells #[.int .i64 0, .int .i64 0] 23)).alloc (.cells #[.int .i64 0, .int .i64 0] 23)) = W := ⟨_, rfl⟩
  rw [hW0]
  try simp only [Nat.add_assoc, Nat.reduceAdd]
  have hst_W0 : Steps (fun _ => False) w W0 := by rw [← hW0]; exact (((Steps.alloc _ w _).trans (Steps.alloc (fun _ => False) _ _) (fun _ _ h => h)).trans (Steps.alloc (fun _ => False) _ _) (fun _ _ h => h)).trans (Steps.alloc (fun _ => False) _ _) (fun _ _ h => h)
  have hz_W0 : W0.heap.size = w.heap.size + 4 := by rw [← hW0]; simp
  have g0_W0 : W0.heap[w.heap.size]? = some (.cells #[.int .i64 s.ax.lo, .int .i64 s.ax.hi, .int .i64 s.ay.lo, .int .i64 s.ay.hi, .int .i64 s.bx.lo, .int .i64 s.bx.hi, .int .i64 s.by'.lo, .int .i64 s.by'.hi, .int .i64 s.f.lo, .int .i64 s.f.hi, .int .i64 s.g.lo, .int .i64 s.g.hi, .int .i64 s.limit, .int .i64 s.flaws, .slice fa s.l.length fc] 30) := by rw [← hW0]; simp only [alloc_get, World.size_alloc]; repeat (first | exact if_pos trivial | exact if_pos (by omega) | rw [if_neg (by omega)])
  have g1_W0 : W0.heap[w.heap.size + 1]? = some (.cells #[.int .i64 0, .int .i64 0] 23) := by rw [← hW0]; simp only [alloc_get, World.size_alloc]; repeat (first | exact if_pos trivial | exact if_pos (by omega) | rw [if_neg (by omega)])
  have g2_W0 : W0.heap[w.heap.size + 2]? = some (.cells #[.int .i64 0, .int .i64 0] 23) := by rw [← hW0]; simp only [alloc_get, World.size_alloc]; repeat (first | exact if_pos trivial | exact if_pos (by omega) | rw [if_neg (by omega)])
  have g3_W0 : W0.heap[w.heap.size + 3]? = some (.cells #[.int .i64 0, .int .i64 0] 23) := by rw [← hW0]; simp only [alloc_get, World.size_alloc]; repeat (first | exact if_pos trivial | exact if_pos (by omega) | rw [if_neg (by omega)])
  clear hW0
  have hb0 : Below w.heap.size w W0 := hst_W0.below (Nat.le_refl _) (fun _ _ h => h)
  have hl0 := hl.below hb0 (Nat.le_refl _)
  obtain ⟨z, hz⟩ : ∃ z, w.heap.size = z := ⟨_, rfl⟩
  rw [hz] at g0_W0 g1_W0 g2_W0 g3_W0 hz_W0
  try rw [hz]
  have HZ := Lib.hid hz
  refine where_reg1 z s fa fc spot (spotOk s spot) W0 g0_W0 hl0 hlen hl9 rfl _ _ ?_
  intro s19 s20 s21 s22 s23 s24 s25 s26 s27 s28 s29 s30 v1 q9 w1 hb1 h1
  have hB1 : Below z w w1 := by rw [← hz]; exact hb0.trans (hb1.mono hb0.size)
  have b1 := obj_later hb1 g1_W0
  have b2 := obj_later hb1 g2_W0
  have b3 := obj_later hb1 g3_W0
  have hz1 := hb1.size
  rw [hz_W0] at hz1
  obtain ⟨er, her⟩ : ∃ er, wayErr s (spotOk s spot) = er := ⟨_, rfl⟩
  rw [her] at h1 ⊢
  have HER := Lib.hid her
  have HW0 := Lib.hid hz_W0
  have FC : Hid (∀ (W : World), W.heap[z + 1]? = some (.cells #[.int .i64 0, .int .i64 0] 23) → W.heap[z + 2]? = some (.cells #[.int .i64 0, .int .i64 0] 23) → W.heap[z + 3]? = some (.cells #[.int .i64 0, .int .i64 0] 23) →
      (W.cell? ⟨z + 1, 0, none⟩ = some (.int .i64 0) ∧ W.cell? ⟨z + 1, 1, none⟩ = some (.int .i64 0) ∧ W.cell? ⟨z + 2, 0, none⟩ = some (.int .i64 0) ∧ W.cell? ⟨z + 2, 1, none⟩ = some (.int .i64 0) ∧ W.cell? ⟨z + 3, 0, none⟩ = some (.int .i64 0) ∧ W.cell? ⟨z + 3, 1, none⟩ = some (.int .i64 0)) ∧
      (W.frozen? ⟨z + 1, 0, none⟩ = false ∧ W.frozen? ⟨z + 1, 1, none⟩ = false ∧ W.frozen? ⟨z + 2, 0, none⟩ = false ∧ W.frozen? ⟨z + 2, 1, none⟩ = false ∧ W.frozen? ⟨z + 3, 0, none⟩ = false ∧ W.frozen? ⟨z + 3, 1, none⟩ = false)) :=
    Lib.hid (fun W h1 h2 h3 => ⟨⟨cell_block h1 0, cell_block h1 1, cell_block h2 0, cell_block h2 1, cell_block h3 0, cell_block h3 1⟩, frozen_block h1 0, frozen_block h1 1, frozen_block h2 0, frozen_block h2 1, frozen_block h3 0, frozen_block h3 1⟩)
  clear her hz hb0 hb1 hl0 hst_W0 hz_W0 g0_W0 g1_W0 g2_W0 g3_W0
  rcases h1 with h0 | ⟨h0, hok, p, ta, tc, rfl, hp, hS⟩
  · obtain ⟨⟨a0, a1, a2, a3, a4, a5⟩, f0, f1, f2, f3, f4, f5⟩ := FC.out w1 b1 b2 b3
    have hrv : whereV (none, er) = rv := by rw [← HRV.out]; unfold itWhere; rw [HER.out, if_neg h0]
    subst hrv
    go_wp2_with fail
    have zz := span3_spec b1 b2 b3 (.int .i64 0) (.int .i64 0) (.int .i64 0) (.int .i64 0) (.int .i64 0) (.int .i64 0)
    have hB := zz.2
    have m0 := cell_block zz.1.1 0
    have m1 := cell_block zz.1.1 1
    have m2 := cell_block zz.1.2.1 0
    have m3 := cell_block zz.1.2.1 1
    have m4 := cell_block zz.1.2.2 0
    have m5 := cell_block zz.1.2.2 1
    simp only [gA, gB, gC] at m0 m1 m2 m3 m4 m5
    unfold span3 at m0 m1 m2 m3 m4 m5 hB
    exact bodyPost_ret (v := whereV (none, er)) (by simp [results, Try.results25, go_sem, m0, m1, m2, m3, m4, m5, whereV]) rfl ⟨rfl, by rw [HZ.out]; exact hB1.trans (hB.mono (by omega))⟩
  · subst h0
    have hn9 : s.l.length ≤ 9 := ((iok_iff s).1 hok).2.2.2.2.2.2.2.2.2
    have hT := trailsOk s hn9
    have hlenT := hT.len
    have hli : (s.trails.length : Int) ≤ 5000 := by omega
    have hrv : whereV (whereTo s spot s.trails.length, if (whereTo s spot s.trails.length).isSome then 0 else 4) = rv := by rw [← HRV.out]; unfold itWhere; rw [HER.out, if_pos rfl]
    have HRV' := Lib.hid hrv
    clear hrv HRV
    have c15 := hS.c15
    have hpl := World.block_lt_of_cell? w1 _ c15
    dsimp only at hpl
    go_wp2_with fail
    have hq := obj_new w1 (.cells #[.int .i64 0, .int .i64 0, .int .i64 0, .int .i64 0, .int .i64 0, .int .i64 0] 84)
    have hbq := below_alloc w1 (.cells #[.int .i64 0, .int .i64 0, .int .i64 0, .int .i64 0, .int .i64 0, .int .i64 0] 84)
    obtain ⟨q10, hq10⟩ : ∃ q, w1.heap.size = q := ⟨_, rfl⟩
    generalize w1.alloc (.cells #[.int .i64 0, .int .i64 0, .int .i64 0, .int .i64 0, .int .i64 0, .int .i64 0] 84) = w2 at hq hbq ⊢
    rw [hq10] at hq hbq
    try rw [hq10]
    have HS := Lib.hid hS
    have HB1 := Lib.hid hB1
    have HQ := Lib.hid hq10
    have hB12 : Below q10 w1 w2 := hbq
    have HBX := Lib.hid (show z + 4 ≤ q10 by omega)
    clear c15 hq10 hbq hS
    go_loopw [11, 14, 15, 16, 17, 44] (fun f _ _ _ _ i wr => ∃ k : Nat, k ≤ s.trails.length ∧ i = .int .i64 k ∧ f = .bool (whereTo s spot k).isSome ∧ wr.heap[q10]? = some (.cells (outA (whereTo s spot k)) 84) ∧ Below q10 w1 wr) (fun _ _ _ _ _ i _ => s.trails.length - (intOf i).toNat)
    case atStart => exact ⟨0, Nat.zero_le _, rfl, rfl, hq, hB12⟩
    case round =>
      obtain ⟨k, hk, rfl, rfl, hor, hbr⟩ := hrel
      have hSr : SheetAt wr p s fa fc ta tc s.trails := HS.out.later (by rw [HQ.out]; exact hbr)
      by_cases hlt : k < s.trails.length
      · have hki : (k : Int) < s.trails.length := by omega
        have hwt := whereTo_succ s spot k hlt
        obtain ⟨b, o, rfl, hbl, e0, e1, e2⟩ := hSr.tr k hlt
        obtain ⟨x, hx⟩ : ∃ x, s.trails[k] = x := ⟨_, rfl⟩
        have hxm : x ∈ s.trails := by rw [← hx]; exact List.getElem_mem hlt
        rw [hx] at e0 e1 e2 hwt
        clear hx
        have HWT := Lib.hid hwt
        clear hwt
        obtain ⟨ow, how⟩ : ∃ ow, whereTo s spot k = ow := ⟨_, rfl⟩
        rw [how] at hor HWT
        rw [how]
        clear how
        by_cases ha : x.a = spot
        · have hab : (x.a != spot) = false := by simp [ha]
          have HA := Lib.hid ha
          clear ha
          go_wp2_with fail
          have hq14 := obj_new wr (.cells #[.int .i64 x.a, .int .i64 x.b, .int .i64 x.c] 32)
          have hb14 := below_alloc wr (.cells #[.int .i64 x.a, .int .i64 x.b, .int .i64 x.c] 32)
          have hor14 := obj_later hb14 hor
          have hS14 := hSr.later hb14
          have hql := (Array.getElem?_eq_some_iff.1 hor).1
          have hb14' : Below q10 w1 (wr.alloc (.cells #[.int .i64 x.a, .int .i64 x.b, .int .i64 x.c] 32)) := hbr.trans (hb14.mono (Nat.le_of_lt hql))
          obtain ⟨q14, hq14e⟩ : ∃ q, wr.heap.size = q := ⟨_, rfl⟩
          generalize wr.alloc (.cells #[.int .i64 x.a, .int .i64 x.b, .int .i64 x.c] 32) = w3 at hq14 hb14 hor14 hS14 hb14' ⊢
          rw [hq14e] at hq14 hql
          try rw [hq14e]
          clear e0 e1 e2 hbl hb14 hq14e
          refine (ihasT_any p s fa fc _ tc x w3 hok hS14 hxm).mono ?_
          rintro e w4 ⟨rfl, hb4⟩
          have hq4 := obj_later hb4 hq14
          have hor4 := obj_later hb4 hor14
          have hS4 := hS14.later hb4
          have hql3 := (Array.getElem?_eq_some_iff.1 hor14).1
          have hb4' := hb14'.trans (hb4.mono (Nat.le_of_lt hql3))
          obtain ⟨hb, hhb⟩ : ∃ hb, hasP s.trails s.l.length s.flaws x = hb := ⟨_, rfl⟩
          rw [hhb]
          have hwt := HWT.out
          unfold whereStep at hwt
          rw [hhb] at hwt
          have HWT := Lib.hid hwt
          clear hwt hhb hq14 hor14 hS14 hb14' hor hbr hSr hb4
          cases hb
          · have hst : whereTo s spot (k + 1) = ow := by rw [HWT.out, if_neg (by simp)]
            have HST := Lib.hid hst
            clear hst
            go_wp2_with fail
            go_roundw
            case rel => exact ⟨k + 1, hlt, by go_num, by rw [HST.out], by rw [HST.out]; exact hor4, hb4'⟩
            case measure => simp [intOf]; omega
          · have qc := fun i => cell_block hq4 i
            have qc0 := qc 0
            have qc1 := qc 1
            have qc2 := qc 2
            simp only [gA, gB, gC] at qc0 qc1 qc2
            clear qc
            go_wp2_with fail
            refine (istar_any p fc fa s x w4 hok (trails_tok hxm) hS4.at' hS4.im).mono ?_
            rintro e w5 ⟨rfl, hb5⟩
            rw [star_same hok]
            obtain ⟨v, hv⟩ := trails_star hxm
            have hwt := HWT.out
            rw [hv] at hwt ⊢
            have hor5 := obj_later hb5 hor4
            have hql4 := (Array.getElem?_eq_some_iff.1 hor4).1
            have hb5' := hb4'.trans (hb5.mono (Nat.le_of_lt hql4))
            have hql5 := (Array.getElem?_eq_some_iff.1 hor5).1
            have h15 := obj_new w5 (.cells #[.int .i64 v.x.lo, .int .i64 v.x.hi, .int .i64 v.y.lo, .int .i64 v.y.hi, .int .i64 v.s.lo, .int .i64 v.s.hi] 84)
            have hba := below_alloc w5 (.cells #[.int .i64 v.x.lo, .int .i64 v.x.hi, .int .i64 v.y.lo, .int .i64 v.y.hi, .int .i64 v.s.lo, .int .i64 v.s.hi] 84)
            have hor6 := obj_later hba hor5
            have hb6 := hb5'.trans (hba.mono (Nat.le_of_lt hql5))
            unfold starV
            dsimp only
            clear qc0 qc1 qc2 hor4 hb4' hb5 hq4 hv hS4 HWT
            have HWT := Lib.hid hwt
            clear hwt
            cases ow with
            | none =>
              clear hor6 hb6 hba h15
              have hst : whereTo s spot (k + 1) = some (joinTo v v 3) := by rw [HWT.out, if_pos (by simp [HA.out]), joinTo_self]; rfl
              have HST := Lib.hid hst
              clear hst
              unfold outA at hor5
              dsimp only at hor5
              have oc := fun i => cell_block hor5 i
              have of := fun i => frozen_block hor5 i
              have o0 := oc 0
              have o1 := oc 1
              have o2 := oc 2
              have o3 := oc 3
              have o4 := oc 4
              have o5 := oc 5
              have f0 := of 0
              have f1 := of 1
              have f2 := of 2
              have f3 := of 3
              have f4 := of 4
              have f5 := of 5
              clear oc of
              simp only [gA, gB, gC] at o0 o1 o2 o3 o4 o5
              go_wp2_with fail
              have zz := star_put hor5 (.int .i64 v.x.lo) (.int .i64 v.x.hi) (.int .i64 v.y.lo) (.int .i64 v.y.hi) (.int .i64 v.s.lo) (.int .i64 v.s.hi)
              have hsx := six_steps q10 (.int .i64 v.x.lo) (.int .i64 v.x.hi) (.int .i64 v.y.lo) (.int .i64 v.y.hi) (.int .i64 v.s.lo) (.int .i64 v.s.hi) w5
              have hszx : (((((((w5.setCell ⟨q10, 0, none⟩ (.int .i64 v.x.lo)).setCell ⟨q10, 1, none⟩ (.int .i64 v.x.hi)).setCell ⟨q10, 2, none⟩ (.int .i64 v.y.lo)).setCell ⟨q10, 3, none⟩ (.int .i64 v.y.hi)).setCell ⟨q10, 4, none⟩ (.int .i64 v.s.lo)).setCell ⟨q10, 5, none⟩ (.int .i64 v.s.hi))).heap.size = w5.heap.size := by simp
              generalize ((((((w5.setCell ⟨q10, 0, none⟩ (.int .i64 v.x.lo)).setCell ⟨q10, 1, none⟩ (.int .i64 v.x.hi)).setCell ⟨q10, 2, none⟩ (.int .i64 v.y.lo)).setCell ⟨q10, 3, none⟩ (.int .i64 v.y.hi)).setCell ⟨q10, 4, none⟩ (.int .i64 v.s.lo)).setCell ⟨q10, 5, none⟩ (.int .i64 v.s.hi)) = wX at zz hsx hszx ⊢
              obtain ⟨q15, hq15⟩ : ∃ q, w5.heap.size = q := ⟨_, rfl⟩
              rw [hq15] at hszx hql5
              try rw [hq15]
              have h15 := obj_new wX (.cells #[.int .i64 v.x.lo, .int .i64 v.x.hi, .int .i64 v.y.lo, .int .i64 v.y.hi, .int .i64 v.s.lo, .int .i64 v.s.hi] 84)
              rw [hszx] at h15
              have hba := below_alloc wX (.cells #[.int .i64 v.x.lo, .int .i64 v.x.hi, .int .i64 v.y.lo, .int .i64 v.y.hi, .int .i64 v.s.lo, .int .i64 v.s.hi] 84)
              have h10 : (wX.alloc (.cells #[.int .i64 v.x.lo, .int .i64 v.x.hi, .int .i64 v.y.lo, .int .i64 v.y.hi, .int .i64 v.s.lo, .int .i64 v.s.hi] 84)).heap[q10]? = some (.cells (stA (joinTo v v 0)) 84) := obj_later hba zz
              have hb6 : Below q10 w1 (wX.alloc (.cells #[.int .i64 v.x.lo, .int .i64 v.x.hi, .int .i64 v.y.lo, .int .i64 v.y.hi, .int .i64 v.s.lo, .int .i64 v.s.hi] 84)) := (hb5'.trans (hsx.below (by omega) (fun k hk h => by omega))).trans (hba.mono (by omega))
              generalize wX.alloc (.cells #[.int .i64 v.x.lo, .int .i64 v.x.hi, .int .i64 v.y.lo, .int .i64 v.y.hi, .int .i64 v.s.lo, .int .i64 v.s.hi] 84) = w6 at h15 h10 hb6 ⊢
              clear hba hsx zz hor5 o0 o1 o2 o3 o4 o5 f0 f1 f2 f3 f4 f5 hszx hq15
              go_loopw [17, 67] (fun _ j wj => ∃ m : Nat, m ≤ 3 ∧ j = .int .i64 m ∧ wj.heap[q10]? = some (.cells (stA (joinTo v v m)) 84) ∧ wj.heap[q15]? = some (.cells (stA v) 84) ∧ Below q10 w1 wj) (fun _ j _ => 3 - (intOf j).toNat)
              case atStart => exact ⟨0, by omega, rfl, h10, h15, hb6⟩
              case round =>
                obtain ⟨m, hm, rfl, h10, h15, hbj⟩ := hrel
                by_cases m0 : m = 0
                · subst m0
                  go_upto_region 16 with fail
                  refine wp_last (where_reg16_0 q10 q15 v v wr h10 h15 _ _ ?_)
                  intro s70 s71 s72 s73 s74 s75 s76 s77 s78 wk h10k hsk
                  go_wp2_with fail
                  go_roundw
                  case rel => exact ⟨1, by omega, rfl, h10k, hsk.obj (k := q15) (by omega) h15, hbj.trans (hsk.below (by have := (Array.getElem?_eq_some_iff.1 h10).1; omega) (fun k hk h => by omega))⟩
                  case measure => simp [intOf]
                by_cases m1 : m = 1
                · subst m1
                  go_upto_region 16 with fail
                  refine wp_last (where_reg16_1 q10 q15 v v wr h10 h15 _ _ ?_)
                  intro s70 s71 s72 s73 s74 s75 s76 s77 s78 wk h10k hsk
                  go_wp2_with fail
                  go_roundw
                  case rel => exact ⟨2, by omega, rfl, h10k, hsk.obj (k := q15) (by omega) h15, hbj.trans (hsk.below (by have := (Array.getElem?_eq_some_iff.1 h10).1; omega) (fun k hk h => by omega))⟩
                  case measure => simp [intOf]
                by_cases m2 : m = 2
                · subst m2
                  go_upto_region 16 with fail
                  refine wp_last (where_reg16_2 q10 q15 v v wr h10 h15 _ _ ?_)
                  intro s70 s71 s72 s73 s74 s75 s76 s77 s78 wk h10k hsk
                  go_wp2_with fail
                  go_roundw
                  case rel => exact ⟨3, by omega, rfl, h10k, hsk.obj (k := q15) (by omega) h15, hbj.trans (hsk.below (by have := (Array.getElem?_eq_some_iff.1 h10).1; omega) (fun k hk h => by omega))⟩
                  case measure => simp [intOf]
                obtain rfl : m = 3 := by omega
                go_wp2_with fail
                go_roundw
                case rel => exact ⟨k + 1, hlt, by go_num, by rw [HST.out]; rfl, by rw [HST.out]; exact h10, hbj⟩
                case measure => simp [intOf]; omega
            | some u =>
              have hst : whereTo s spot (k + 1) = some (joinTo u v 3) := by rw [HWT.out, if_pos (by simp [HA.out])]; rfl
              have HST := Lib.hid hst
              clear hst
              go_wp2_with fail
              generalize w5.alloc (.cells #[.int .i64 v.x.lo, .int .i64 v.x.hi, .int .i64 v.y.lo, .int .i64 v.y.hi, .int .i64 v.s.lo, .int .i64 v.s.hi] 84) = w6 at h15 hba hor6 hb6 ⊢
              obtain ⟨q15, hq15⟩ : ∃ q, w5.heap.size = q := ⟨_, rfl⟩
              rw [hq15] at h15 hql5
              try rw [hq15]
              have h10 : w6.heap[q10]? = some (.cells (stA (joinTo u v 0)) 84) := hor6
              clear hba hor6 hq15
              go_loopw [17, 67] (fun _ j wj => ∃ m : Nat, m ≤ 3 ∧ j = .int .i64 m ∧ wj.heap[q10]? = some (.cells (stA (joinTo u v m)) 84) ∧ wj.heap[q15]? = some (.cells (stA v) 84) ∧ Below q10 w1 wj) (fun _ j _ => 3 - (intOf j).toNat)
              case atStart => exact ⟨0, by omega, rfl, h10, h15, hb6⟩
              case round =>
                obtain ⟨m, hm, rfl, h10, h15, hbj⟩ := hrel
                by_cases m0 : m = 0
                · subst m0
                  go_upto_region 16 with fail
                  refine wp_last (where_reg16_0 q10 q15 u v wr h10 h15 _ _ ?_)
                  intro s70 s71 s72 s73 s74 s75 s76 s77 s78 wk h10k hsk
                  go_wp2_with fail
                  go_roundw
                  case rel => exact ⟨1, by omega, rfl, h10k, hsk.obj (k := q15) (by omega) h15, hbj.trans (hsk.below (by have := (Array.getElem?_eq_some_iff.1 h10).1; omega) (fun k hk h => by omega))⟩
                  case measure => simp [intOf]
                by_cases m1 : m = 1
                · subst m1
                  go_upto_region 16 with fail
                  refine wp_last (where_reg16_1 q10 q15 u v wr h10 h15 _ _ ?_)
                  intro s70 s71 s72 s73 s74 s75 s76 s77 s78 wk h10k hsk
                  go_wp2_with fail
                  go_roundw
                  case rel => exact ⟨2, by omega, rfl, h10k, hsk.obj (k := q15) (by omega) h15, hbj.trans (hsk.below (by have := (Array.getElem?_eq_some_iff.1 h10).1; omega) (fun k hk h => by omega))⟩
                  case measure => simp [intOf]
                by_cases m2 : m = 2
                · subst m2
                  go_upto_region 16 with fail
                  refine wp_last (where_reg16_2 q10 q15 u v wr h10 h15 _ _ ?_)
                  intro s70 s71 s72 s73 s74 s75 s76 s77 s78 wk h10k hsk
                  go_wp2_with fail
                  go_roundw
                  case rel => exact ⟨3, by omega, rfl, h10k, hsk.obj (k := q15) (by omega) h15, hbj.trans (hsk.below (by have := (Array.getElem?_eq_some_iff.1 h10).1; omega) (fun k hk h => by omega))⟩
                  case measure => simp [intOf]
                obtain rfl : m = 3 := by omega
                go_wp2_with fail
                go_roundw
                case rel => exact ⟨k + 1, hlt, by go_num, by rw [HST.out]; rfl, by rw [HST.out]; exact h10, hbj⟩
                case measure => simp [intOf]; omega
        · have hab : (x.a != spot) = true := by simpa using ha
          have hst : whereTo s spot (k + 1) = ow := by rw [HWT.out]; unfold whereStep; rw [if_neg (by simp [ha])]
          have HST := Lib.hid hst
          clear hst ha
          go_wp2_with fail
          go_roundw
          case rel => exact ⟨k + 1, hlt, by go_num, by rw [HST.out], by rw [HST.out]; exact (Below.heap_alloc _ _ _ (Array.getElem?_eq_some_iff.1 hor).1).trans hor, hbr.alloc (by have := HQ.out; have := hbr.size; omega) _⟩
          case measure => simp [intOf]; omega
      · obtain rfl : k = s.trails.length := by omega
        have hbx := HBX.out
        replace b1 := (hbr.block (z + 1) (by omega)).trans b1
        replace b2 := (hbr.block (z + 2) (by omega)).trans b2
        replace b3 := (hbr.block (z + 3) (by omega)).trans b3
        have hBr : Below z w wr := HB1.out.trans (hbr.mono (by omega))
        obtain ⟨ou, hou⟩ : ∃ ou, whereTo s spot s.trails.length = ou := ⟨_, rfl⟩
        rw [hou] at hor HRV'
        rw [hou]
        have hrv := HRV'.out
        clear hou HRV' hSr hbr
        cases ou with
        | none =>
          subst hrv
          obtain ⟨⟨a0, a1, a2, a3, a4, a5⟩, f0, f1, f2, f3, f4, f5⟩ := FC.out wr b1 b2 b3
          go_wp2_with fail
          have zz := span3_spec b1 b2 b3 (.int .i64 0) (.int .i64 0) (.int .i64 0) (.int .i64 0) (.int .i64 0) (.int .i64 0)
          have hB := zz.2
          have m0 := cell_block zz.1.1 0
          have m1 := cell_block zz.1.1 1
          have m2 := cell_block zz.1.2.1 0
          have m3 := cell_block zz.1.2.1 1
          have m4 := cell_block zz.1.2.2 0
          have m5 := cell_block zz.1.2.2 1
          simp only [gA, gB, gC] at m0 m1 m2 m3 m4 m5
          unfold span3 at m0 m1 m2 m3 m4 m5 hB
          exact bodyPost_ret (v := whereV (none, 4)) (by simp [results, Try.results25, go_sem, m0, m1, m2, m3, m4, m5, whereV]) rfl ⟨rfl, by rw [HZ.out]; exact hBr.trans (hB.mono (by omega))⟩
        | some u =>
          have hrv' : whereV (some u, 0) = rv := hrv
          subst hrv'
          clear hrv
          have hor' : wr.heap[q10]? = some (.cells (stA u) 84) := hor
          go_wp2_with fail
          refine (iWhere1_0 q10 u wr hor').mono ?_
          rintro e y1 ⟨rfl, hb1⟩
          have hq1 := obj_later hb1 hor'
          go_wp2_with fail
          refine (iWhere1_1 q10 u y1 hq1).mono ?_
          rintro e y2 ⟨rfl, hb2⟩
          have hq2 := obj_later hb2 hq1
          go_wp2_with fail
          refine (iWhere1_2 q10 u y2 hq2).mono ?_
          rintro e y3 ⟨rfl, hb3⟩
          replace b1 := obj_later hb3 (obj_later hb2 (obj_later hb1 b1))
          replace b2 := obj_later hb3 (obj_later hb2 (obj_later hb1 b2))
          replace b3 := obj_later hb3 (obj_later hb2 (obj_later hb1 b3))
          have hzr := hBr.size
          have hBy : Below z w y3 := by
            have hz := HZ.out
            have s1 := hb1.size
            have s2 := hb2.size
            exact hBr.trans ((hb1.mono (by omega)).trans ((hb2.mono (by omega)).trans (hb3.mono (by omega))))
          obtain ⟨⟨a0, a1, a2, a3, a4, a5⟩, f0, f1, f2, f3, f4, f5⟩ := FC.out y3 b1 b2 b3
          clear hq1 hq2 hb1 hb2 hb3 hor hor'
          go_wp2_with fail
          have zz := span3_spec b1 b2 b3 (.int .i64 u.x.lo) (.int .i64 u.x.hi) (.int .i64 u.y.lo) (.int .i64 u.y.hi) (.int .i64 u.s.lo) (.int .i64 u.s.hi)
          have hB := zz.2
          have m0 := cell_block zz.1.1 0
          have m1 := cell_block zz.1.1 1
          have m2 := cell_block zz.1.2.1 0
          have m3 := cell_block zz.1.2.1 1
          have m4 := cell_block zz.1.2.2 0
          have m5 := cell_block zz.1.2.2 1
          simp only [gA, gB, gC] at m0 m1 m2 m3 m4 m5
          unfold span3 at m0 m1 m2 m3 m4 m5 hB
          exact bodyPost_ret (v := whereV (some u, 0)) (by simp [results, Try.results25, go_sem, m0, m1, m2, m3, m4, m5, whereV]) rfl ⟨rfl, by rw [HZ.out]; exact hBy.trans (hB.mono (by omega))⟩
end Go.Proofs.Ytacioedolmaofaa
namespace Go.Proofs.Ytacioedolmaofaa
open Go.RowKit Go.Shelf
attribute [local go_sem] Oper.semAt_some
set_option maxHeartbeats 6400000
set_option maxRecDepth 100000
set_option linter.unusedSimpArgs false
set_option linter.unusedVariables false

theorem few_reg9 (l0 q7 q8 used : Nat) (t : ITr) (W : World) {z0 z1 z2 z3 z4 z5 z6 z10 z11 z12 z13 z14 z15 z16 z17 z18 z19 z20 z21 z22 z23 z24 z25 z26 z27 z28 z29 z30 z31 z32 z33 z34 z35 z36 z37 z38 z39 z40 z51 z52 z53 z54 z55 z56 z57 z58 z59 z60 z61 : Value} {z9 z41 z42 z43 z44 z45 z46 z47 z48 z49 z50 : Value}
    (h7 : W.cell? ⟨q7, 1, none⟩ = some (.int .u64 used)) (h8 : W.heap[q8]? = some (.cells #[.int .i64 t.a, .int .i64 t.b, .int .i64 t.c] 32)) (hu : used < 2 ^ 64) (hown : t.own < 2 ^ 64) (htb : ∀ i ∈ [t.a, t.b, t.c], -1 ≤ i ∧ i < 9) (K : Act → World → Prop) (Q : Exit → Act → World → Prop)
    (hfin : ∀ (s41 s42 s43 s44 s45 s46 s47 s48 s49 s50 : Value) (q9 : Nat) (w' : World), W.heap.size ≤ q9 → w'.heap[q9]? = some (.cells #[.int .i64 (t.a + 1), .int .u64 (used ||| t.own : Nat)] 94) → Steps (fun _ => False) W w' → K ⟨(z0::z1::z2::z3::z4::z5::z6::(.pointer (some ⟨q7, 0, none⟩))::(.pointer (some ⟨q8, 0, none⟩))::(.pointer (some ⟨q9, 0, none⟩))::z10::z11::z12::z13::z14::z15::z16::z17::z18::z19::z20::z21::z22::z23::z24::z25::z26::z27::z28::z29::z30::z31::z32::z33::z34::z35::z36::z37::z38::z39::z40::s41::s42::s43::s44::s45::s46::s47::s48::s49::s50::z51::z52::z53::z54::z55::z56::z57::z58::z59::z60::z61 :: []).toArray, []⟩ w') :
    Code.wpIn (Fence.wide.inRound l0) 0 Try.prog (((Try.f19.body.bind (findRegIn 9)).getD .skip)) (Exit.then K Q) ⟨(z0::z1::z2::z3::z4::z5::z6::(.pointer (some ⟨q7, 0, none⟩))::(.pointer (some ⟨q8, 0, none⟩))::z9::z10::z11::z12::z13::z14::z15::z16::z17::z18::z19::z20::z21::z22::z23::z24::z25::z26::z27::z28::z29::z30::z31::z32::z33::z34::z35::z36::z37::z38::z39::z40::z41::z42::z43::z44::z45::z46::z47::z48::z49::z50::z51::z52::z53::z54::z55::z56::z57::z58::z59::z60::z61 :: []).toArray, []⟩ W := by
  have HFIN := Lib.hid hfin
  have HTB := Lib.hid htb
  have HUB : Hid (∀ x ∈ [used, t.own], x < 2 ^ 64) := Lib.hid (fun x hx => by
    simp only [List.mem_cons, List.not_mem_nil, or_false] at hx
    rcases hx with rfl | rfl <;> assumption)
  have hwr : IntKind.i64.wrap (t.a + 1) = t.a + 1 := by rw [IntKind.wrap_i64]; have := htb t.a (by simp); omega
  have k7 : ∀ W', Steps (fun _ => False) W W' → W'.cell? ⟨q7, 1, none⟩ = some (.int .u64 used) := fun W' h => cell_apart h (fun h => h) h7
  have k0 : ∀ W', Steps (fun _ => False) W W' → W'.cell? ⟨q8, 0, none⟩ = some (.int .i64 t.a) := fun W' h => cell_apart h (fun h => h) (cell_block h8 0)
  have k1 : ∀ W', Steps (fun _ => False) W W' → W'.cell? ⟨q8, 1, none⟩ = some (.int .i64 t.b) := fun W' h => cell_apart h (fun h => h) (cell_block h8 1)
  have k2 : ∀ W', Steps (fun _ => False) W W' → W'.cell? ⟨q8, 2, none⟩ = some (.int .i64 t.c) := fun W' h => cell_apart h (fun h => h) (cell_block h8 2)
  clear hfin htb h7 h8
  conv => arg 4; whnf
  refine wpIn_region_Wr (S := fun W' => Steps (fun _ => False) W W') l0 12 (by kernel_rfl) (by kernel_rfl) (by kernel_rfl) (Steps.refl _ W).drew (fun H0 => ?_)
  generalize W.drew = w0 at H0 ⊢
  refine wTk 0 41 ?_ ?_ ?_
  rotate_left
  · intro o h w k; (try dsimp only at k); simp only [gA, gB, gC, gG] at h; subst h; go_simp; try with_reducible rfl
  simp only [Act.put, gD, gE, gF]
  refine wTk 1 42 ?_ ?_ ?_
  rotate_left
  · intro o h w k; (try dsimp only at k); simp only [gA, gB, gC, gG] at h; subst h; go_simp; try with_reducible rfl
  simp only [Act.put, gD, gE, gF]
  refine wTk 2 43 ?_ ?_ ?_
  rotate_left
  · intro o h w k; (try dsimp only at k); simp only [gA, gB, gC, gG] at h; subst h; go_simp; try with_reducible rfl
  simp only [Act.put, gD, gE, gF]
  refine wTk 3 44 ?_ ?_ ?_
  rotate_left
  · intro o h w k; (try dsimp only at k); simp only [gA, gB, gC, gG] at h; subst h; go_simp; try with_reducible rfl
  simp only [Act.put, gD, gE, gF]
  refine wTk 4 45 ?_ ?_ ?_
  rotate_left
  · intro o h w k; (try dsimp only at k); simp only [gA, gB, gC, gG] at h; subst h; go_simp; try with_reducible rfl
  simp only [Act.put, gD, gE, gF]
  refine wTk 5 46 ?_ ?_ ?_
  rotate_left
  · intro o h w k; (try dsimp only at k); simp only [gA, gB, gC, gG] at h; subst h; go_simp; try with_reducible rfl
  simp only [Act.put, gD, gE, gF]
  clear k7 k0 k1 k2
  refine wpAnyW_two 6 10 (by kernel_rfl) ⟨by kernel_rfl, by kernel_rfl⟩ ?_ ?_
  ·
    intro oo ho K hK
    simp only [gA, gB, gC, gG] at ho
    subst ho
    go_simp
    have him := iimages_any t w0 HTB.out
    refine ⟨trivial, rfl, CallsIn.mono (callsIn_wide.2 him) ?_⟩
    rintro e w1 ⟨rfl, hb⟩
    have hst : Steps (fun _ => False) w0 w1 := ⟨hb.os, hb.tape, hb.output, hb.size, fun k hk _ => hb.block k hk⟩
    have H1 := H0.trans hst (fun _ _ h => h)
    refine hK _ _ H1 (fun _ => ?_)
    clear hK K him hb
    try simp only [Act.put, gD, gE, gF]
    clear hst
    refine wpAnyW_two 7 10 (by kernel_rfl) ⟨by kernel_rfl, by kernel_rfl⟩ ?_ ?_
    ·
      intro oo ho K hK
      simp only [gA, gB, gC, gG] at ho
      subst ho
      go_simp
      have hst := Steps.alloc (fun _ => False) w1 (.cells #[.int .u64 used, .int .u64 t.own] 88)
      have hnw := obj_new w1 (.cells #[.int .u64 used, .int .u64 t.own] 88)
      have H2 := H1.trans hst (fun _ _ h => h)
      refine hK _ _ H2 (fun _ => ?_)
      clear hK K
      try simp only [Act.put, gD, gE, gF]
      have C2 : SetsAt (w1.alloc (.cells #[.int .u64 used, .int .u64 t.own] 88)) w1.heap.size [used, t.own] := fun k hk => by
        rcases k with _ | _ | k
        · exact cell_new _ _ _ _ _ rfl
        · exact cell_new _ _ _ _ _ rfl
        · simp at hk; omega
      obtain ⟨qs, hqs⟩ : ∃ q, w1.heap.size = q := ⟨_, rfl⟩
      generalize w1.alloc (.cells #[.int .u64 used, .int .u64 t.own] 88) = w2 at hst hnw H2 C2 ⊢
      rw [hqs] at C2
      try rw [hqs]
      clear hst hnw
      refine wpAnyW_two 8 10 (by kernel_rfl) ⟨by kernel_rfl, by kernel_rfl⟩ ?_ ?_
      ·
        intro oo ho K hK
        simp only [gA, gB, gC, gG] at ho
        subst ho
        have hun := iunion_any qs [used, t.own] w2 C2 (by simp) HUB.out
        rw [show orAll [used, t.own] = used ||| t.own by simp [orAll]] at hun
        go_simp
        simp only [List.length_cons, List.length_nil, Nat.zero_add, Nat.reduceAdd] at hun
        refine ⟨trivial, rfl, CallsIn.mono (callsIn_wide.2 hun) ?_⟩
        rintro e w3 ⟨rfl, hww⟩
        rw [← hww]
        clear hww w3
        refine hK _ _ H2 (fun _ => ?_)
        clear hK K hun
        try simp only [Act.put, gD, gE, gF]
        refine wTk 9 50 ?_ ?_ ?_
        rotate_left
        · intro o h w k; (try dsimp only at k); simp only [gA, gB, gC, gG] at h; subst h; go_simp; try with_reducible rfl
        simp only [Act.put, gD, gE, gF]
        refine wpAnyW_one 10 (by kernel_rfl) (by kernel_rfl) ?_
        intro oo ho K hK
        simp only [gA, gB, gC, gG] at ho
        subst ho
        go_simp
        have hst := Steps.alloc (fun _ => False) w2 (.cells #[.int .i64 0, .int .u64 0] 94)
        have hnw := obj_new w2 (.cells #[.int .i64 0, .int .u64 0] 94)
        have H3 := H2.trans hst (fun _ _ h => h)
        refine hK _ _ H3 (fun _ => ?_)
        clear hK K
        try simp only [Act.put, gD, gE, gF]
        obtain ⟨q9, hq9⟩ : ∃ q, w2.heap.size = q := ⟨_, rfl⟩
        generalize w2.alloc (.cells #[.int .i64 0, .int .u64 0] 94) = w3 at hst hnw H3 ⊢
        rw [hq9] at hnw
        try rw [hq9]
        have hqW : W.heap.size ≤ q9 := by have := H2.size; omega
        have G3 := hnw
        clear hst hnw
        have f0 := frozen_block G3 0
        have f1 := frozen_block G3 1
        have c0 := cell_block G3 0
        have c1 := cell_block G3 1
        simp only [gA, gB, gC] at c0 c1
        refine wpAnyW_one 11 (by kernel_rfl) (by kernel_rfl) ?_
        intro o ho K hK
        simp only [gA, gB, gC, gG] at ho
        subst ho
        go_simp
        have zz := two_same (.int .i64 (t.a + 1)) (.int .u64 (used ||| t.own : Nat)) G3
        have hput : Steps (fun k => k = q9) w3 ((w3.setCell ⟨q9, 0, none⟩ (.int .i64 (t.a + 1))).setCell ⟨q9, 1, none⟩ (.int .u64 (used ||| t.own : Nat))) := (Steps.setCell (own := fun k => k = q9) w3 (p := ⟨q9, 0, none⟩) rfl _).trans (Steps.setCell (own := fun k => k = q9) _ (p := ⟨q9, 1, none⟩) rfl _) (fun _ _ h => h)
        have hs := H3.trans hput (fun k hk h => by omega)
        refine hK _ _ hs (fun _ => ?_)
        clear hK K
        try simp only [Act.put, gD, gE, gF]
        refine wpAnyW_done (by kernel_rfl) ?_ _
        dsimp only [onNormal]
        exact HFIN.out _ _ _ _ _ _ _ _ _ _ q9 _ hqW zz hs
      ·
        intro oo ho K hK
        simp only [gA, gB, gC, gG] at ho
        subst ho
        go_simp
        have hst := Steps.alloc (fun _ => False) w2 (.cells #[.int .i64 0, .int .u64 0] 94)
        have hnw := obj_new w2 (.cells #[.int .i64 0, .int .u64 0] 94)
        have H3 := H2.trans hst (fun _ _ h => h)
        refine hK _ _ H3 (fun _ => ?_)
        clear hK K
        try simp only [Act.put, gD, gE, gF]
        obtain ⟨q9, hq9⟩ : ∃ q, w2.heap.size = q := ⟨_, rfl⟩
        generalize w2.alloc (.cells #[.int .i64 0, .int .u64 0] 94) = w3 at hst hnw H3 ⊢
        rw [hq9] at hnw
        try rw [hq9]
        have hqW : W.heap.size ≤ q9 := by have := H2.size; omega
        have G3 := hnw
        have C3 : SetsAt w3 qs [used, t.own] := fun k hk => cell_apart hst (fun h => h) (C2 k hk)
        clear hst hnw
        refine wpAnyW_one 8 (by kernel_rfl) (by kernel_rfl) ?_
        intro oo ho K hK
        simp only [gA, gB, gC, gG] at ho
        subst ho
        have hun := iunion_any qs [used, t.own] w3 C3 (by simp) HUB.out
        rw [show orAll [used, t.own] = used ||| t.own by simp [orAll]] at hun
        go_simp
        simp only [List.length_cons, List.length_nil, Nat.zero_add, Nat.reduceAdd] at hun
        refine ⟨trivial, rfl, CallsIn.mono (callsIn_wide.2 hun) ?_⟩
        rintro e w4 ⟨rfl, hww⟩
        rw [← hww]
        clear hww w4
        refine hK _ _ H3 (fun _ => ?_)
        clear hK K hun
        try simp only [Act.put, gD, gE, gF]
        refine wTk 9 50 ?_ ?_ ?_
        rotate_left
        · intro o h w k; (try dsimp only at k); simp only [gA, gB, gC, gG] at h; subst h; go_simp; try with_reducible rfl
        simp only [Act.put, gD, gE, gF]
        have f0 := frozen_block G3 0
        have f1 := frozen_block G3 1
        have c0 := cell_block G3 0
        have c1 := cell_block G3 1
        simp only [gA, gB, gC] at c0 c1
        refine wpAnyW_one 11 (by kernel_rfl) (by kernel_rfl) ?_
        intro o ho K hK
        simp only [gA, gB, gC, gG] at ho
        subst ho
        go_simp
        have zz := two_same (.int .i64 (t.a + 1)) (.int .u64 (used ||| t.own : Nat)) G3
        have hput : Steps (fun k => k = q9) w3 ((w3.setCell ⟨q9, 0, none⟩ (.int .i64 (t.a + 1))).setCell ⟨q9, 1, none⟩ (.int .u64 (used ||| t.own : Nat))) := (Steps.setCell (own := fun k => k = q9) w3 (p := ⟨q9, 0, none⟩) rfl _).trans (Steps.setCell (own := fun k => k = q9) _ (p := ⟨q9, 1, none⟩) rfl _) (fun _ _ h => h)
        have hs := H3.trans hput (fun k hk h => by omega)
        refine hK _ _ hs (fun _ => ?_)
        clear hK K
        try simp only [Act.put, gD, gE, gF]
        refine wpAnyW_done (by kernel_rfl) ?_ _
        dsimp only [onNormal]
        exact HFIN.out _ _ _ _ _ _ _ _ _ _ q9 _ hqW zz hs
    ·
      intro oo ho K hK
      simp only [gA, gB, gC, gG] at ho
      subst ho
      go_simp
      have hst := Steps.alloc (fun _ => False) w1 (.cells #[.int .i64 0, .int .u64 0] 94)
      have hnw := obj_new w1 (.cells #[.int .i64 0, .int .u64 0] 94)
      have H2 := H1.trans hst (fun _ _ h => h)
      refine hK _ _ H2 (fun _ => ?_)
      clear hK K
      try simp only [Act.put, gD, gE, gF]
      obtain ⟨q9, hq9⟩ : ∃ q, w1.heap.size = q := ⟨_, rfl⟩
      generalize w1.alloc (.cells #[.int .i64 0, .int .u64 0] 94) = w2 at hst hnw H2 ⊢
      rw [hq9] at hnw
      try rw [hq9]
      have hqW : W.heap.size ≤ q9 := by have := H1.size; omega
      have G2 := hnw
      clear hst hnw
      refine wpAnyW_one 7 (by kernel_rfl) (by kernel_rfl) ?_
      intro oo ho K hK
      simp only [gA, gB, gC, gG] at ho
      subst ho
      go_simp
      have hst := Steps.alloc (fun _ => False) w2 (.cells #[.int .u64 used, .int .u64 t.own] 88)
      have hnw := obj_new w2 (.cells #[.int .u64 used, .int .u64 t.own] 88)
      have H3 := H2.trans hst (fun _ _ h => h)
      refine hK _ _ H3 (fun _ => ?_)
      clear hK K
      try simp only [Act.put, gD, gE, gF]
      have C3 : SetsAt (w2.alloc (.cells #[.int .u64 used, .int .u64 t.own] 88)) w2.heap.size [used, t.own] := fun k hk => by
        rcases k with _ | _ | k
        · exact cell_new _ _ _ _ _ rfl
        · exact cell_new _ _ _ _ _ rfl
        · simp at hk; omega
      obtain ⟨qs, hqs⟩ : ∃ q, w2.heap.size = q := ⟨_, rfl⟩
      generalize w2.alloc (.cells #[.int .u64 used, .int .u64 t.own] 88) = w3 at hst hnw H3 C3 ⊢
      rw [hqs] at C3
      try rw [hqs]
      have G3 := hst.obj (fun h => h) G2
      clear hst hnw
      refine wpAnyW_one 8 (by kernel_rfl) (by kernel_rfl) ?_
      intro oo ho K hK
      simp only [gA, gB, gC, gG] at ho
      subst ho
      have hun := iunion_any qs [used, t.own] w3 C3 (by simp) HUB.out
      rw [show orAll [used, t.own] = used ||| t.own by simp [orAll]] at hun
      go_simp
      simp only [List.length_cons, List.length_nil, Nat.zero_add, Nat.reduceAdd] at hun
      refine ⟨trivial, rfl, CallsIn.mono (callsIn_wide.2 hun) ?_⟩
      rintro e w4 ⟨rfl, hww⟩
      rw [← hww]
      clear hww w4
      refine hK _ _ H3 (fun _ => ?_)
      clear hK K hun
      try simp only [Act.put, gD, gE, gF]
      refine wTk 9 50 ?_ ?_ ?_
      rotate_left
      · intro o h w k; (try dsimp only at k); simp only [gA, gB, gC, gG] at h; subst h; go_simp; try with_reducible rfl
      simp only [Act.put, gD, gE, gF]
      have f0 := frozen_block G3 0
      have f1 := frozen_block G3 1
      have c0 := cell_block G3 0
      have c1 := cell_block G3 1
      simp only [gA, gB, gC] at c0 c1
      refine wpAnyW_one 11 (by kernel_rfl) (by kernel_rfl) ?_
      intro o ho K hK
      simp only [gA, gB, gC, gG] at ho
      subst ho
      go_simp
      have zz := two_same (.int .i64 (t.a + 1)) (.int .u64 (used ||| t.own : Nat)) G3
      have hput : Steps (fun k => k = q9) w3 ((w3.setCell ⟨q9, 0, none⟩ (.int .i64 (t.a + 1))).setCell ⟨q9, 1, none⟩ (.int .u64 (used ||| t.own : Nat))) := (Steps.setCell (own := fun k => k = q9) w3 (p := ⟨q9, 0, none⟩) rfl _).trans (Steps.setCell (own := fun k => k = q9) _ (p := ⟨q9, 1, none⟩) rfl _) (fun _ _ h => h)
      have hs := H3.trans hput (fun k hk h => by omega)
      refine hK _ _ hs (fun _ => ?_)
      clear hK K
      try simp only [Act.put, gD, gE, gF]
      refine wpAnyW_done (by kernel_rfl) ?_ _
      dsimp only [onNormal]
      exact HFIN.out _ _ _ _ _ _ _ _ _ _ q9 _ hqW zz hs
  ·
    intro oo ho K hK
    simp only [gA, gB, gC, gG] at ho
    subst ho
    go_simp
    have hst := Steps.alloc (fun _ => False) w0 (.cells #[.int .i64 0, .int .u64 0] 94)
    have hnw := obj_new w0 (.cells #[.int .i64 0, .int .u64 0] 94)
    have H1 := H0.trans hst (fun _ _ h => h)
    refine hK _ _ H1 (fun _ => ?_)
    clear hK K
    try simp only [Act.put, gD, gE, gF]
    obtain ⟨q9, hq9⟩ : ∃ q, w0.heap.size = q := ⟨_, rfl⟩
    generalize w0.alloc (.cells #[.int .i64 0, .int .u64 0] 94) = w1 at hst hnw H1 ⊢
    rw [hq9] at hnw
    try rw [hq9]
    have hqW : W.heap.size ≤ q9 := by have := H0.size; omega
    have G1 := hnw
    clear hst hnw
    refine wpAnyW_one 6 (by kernel_rfl) (by kernel_rfl) ?_
    intro oo ho K hK
    simp only [gA, gB, gC, gG] at ho
    subst ho
    go_simp
    have him := iimages_any t w1 HTB.out
    refine ⟨trivial, rfl, CallsIn.mono (callsIn_wide.2 him) ?_⟩
    rintro e w2 ⟨rfl, hb⟩
    have hst : Steps (fun _ => False) w1 w2 := ⟨hb.os, hb.tape, hb.output, hb.size, fun k hk _ => hb.block k hk⟩
    have H2 := H1.trans hst (fun _ _ h => h)
    refine hK _ _ H2 (fun _ => ?_)
    clear hK K him hb
    try simp only [Act.put, gD, gE, gF]
    have G2 := hst.obj (fun h => h) G1
    clear hst
    refine wpAnyW_one 7 (by kernel_rfl) (by kernel_rfl) ?_
    intro oo ho K hK
    simp only [gA, gB, gC, gG] at ho
    subst ho
    go_simp
    have hst := Steps.alloc (fun _ => False) w2 (.cells #[.int .u64 used, .int .u64 t.own] 88)
    have hnw := obj_new w2 (.cells #[.int .u64 used, .int .u64 t.own] 88)
    have H3 := H2.trans hst (fun _ _ h => h)
    refine hK _ _ H3 (fun _ => ?_)
    clear hK K
    try simp only [Act.put, gD, gE, gF]
    have C3 : SetsAt (w2.alloc (.cells #[.int .u64 used, .int .u64 t.own] 88)) w2.heap.size [used, t.own] := fun k hk => by
      rcases k with _ | _ | k
      · exact cell_new _ _ _ _ _ rfl
      · exact cell_new _ _ _ _ _ rfl
      · simp at hk; omega
    obtain ⟨qs, hqs⟩ : ∃ q, w2.heap.size = q := ⟨_, rfl⟩
    generalize w2.alloc (.cells #[.int .u64 used, .int .u64 t.own] 88) = w3 at hst hnw H3 C3 ⊢
    rw [hqs] at C3
    try rw [hqs]
    have G3 := hst.obj (fun h => h) G2
    clear hst hnw
    refine wpAnyW_one 8 (by kernel_rfl) (by kernel_rfl) ?_
    intro oo ho K hK
    simp only [gA, gB, gC, gG] at ho
    subst ho
    have hun := iunion_any qs [used, t.own] w3 C3 (by simp) HUB.out
    rw [show orAll [used, t.own] = used ||| t.own by simp [orAll]] at hun
    go_simp
    simp only [List.length_cons, List.length_nil, Nat.zero_add, Nat.reduceAdd] at hun
    refine ⟨trivial, rfl, CallsIn.mono (callsIn_wide.2 hun) ?_⟩
    rintro e w4 ⟨rfl, hww⟩
    rw [← hww]
    clear hww w4
    refine hK _ _ H3 (fun _ => ?_)
    clear hK K hun
    try simp only [Act.put, gD, gE, gF]
    refine wTk 9 50 ?_ ?_ ?_
    rotate_left
    · intro o h w k; (try dsimp only at k); simp only [gA, gB, gC, gG] at h; subst h; go_simp; try with_reducible rfl
    simp only [Act.put, gD, gE, gF]
    have f0 := frozen_block G3 0
    have f1 := frozen_block G3 1
    have c0 := cell_block G3 0
    have c1 := cell_block G3 1
    simp only [gA, gB, gC] at c0 c1
    refine wpAnyW_one 11 (by kernel_rfl) (by kernel_rfl) ?_
    intro o ho K hK
    simp only [gA, gB, gC, gG] at ho
    subst ho
    go_simp
    have zz := two_same (.int .i64 (t.a + 1)) (.int .u64 (used ||| t.own : Nat)) G3
    have hput : Steps (fun k => k = q9) w3 ((w3.setCell ⟨q9, 0, none⟩ (.int .i64 (t.a + 1))).setCell ⟨q9, 1, none⟩ (.int .u64 (used ||| t.own : Nat))) := (Steps.setCell (own := fun k => k = q9) w3 (p := ⟨q9, 0, none⟩) rfl _).trans (Steps.setCell (own := fun k => k = q9) _ (p := ⟨q9, 1, none⟩) rfl _) (fun _ _ h => h)
    have hs := H3.trans hput (fun k hk h => by omega)
    refine hK _ _ hs (fun _ => ?_)
    clear hK K
    try simp only [Act.put, gD, gE, gF]
    refine wpAnyW_done (by kernel_rfl) ?_ _
    dsimp only [onNormal]
    exact HFIN.out _ _ _ _ _ _ _ _ _ _ q9 _ hqW zz hs

theorem few_reg11 (l0 base bl q7 q8 q9 : Nat) (l : List ITr) (v : Value) (t : ITr) (e1 : Int) (e2 : Nat) (x0 x1 : Value) (W : World) {z0 z1 z3 z4 z5 z6 z10 z11 z12 z13 z14 z15 z16 z17 z18 z19 z20 z21 z22 z23 z24 z25 z26 z27 z28 z29 z30 z31 z32 z33 z34 z35 z36 z37 z38 z39 z40 z41 z42 z43 z44 z45 z46 z47 z48 z49 z50 z51 z52 z53 z54 z55 z61 : Value} {z56 z57 z58 z59 z60 : Value}
    (hL : W.heap[bl]? = some (.cells #[v] 41)) (hrow : W.ownsRow base 32 3 v l.length (trsCells l)) (hl : l.length ≤ 5000) (h7 : W.heap[q7]? = some (.cells #[x0, x1] 94)) (h8 : W.heap[q8]? = some (.cells #[.int .i64 t.a, .int .i64 t.b, .int .i64 t.c] 32)) (h9 : W.heap[q9]? = some (.cells #[.int .i64 e1, .int .u64 e2] 94))
    (hb : bl < base ∧ q7 < base ∧ bl ≠ q7 ∧ bl ≠ q8 ∧ bl ≠ q9 ∧ q7 ≠ q8 ∧ q7 ≠ q9) (hv : ∀ g, v.ownBlock = some g → g ≠ q8 ∧ g ≠ q9) (hbW : base ≤ W.heap.size) (K : Act → World → Prop) (Q : Exit → Act → World → Prop)
    (hfin : ∀ (s56 s57 s58 s59 s60 v' : Value) (w' : World), w'.ownsRow base 32 3 v' (l ++ [t]).length (trsCells (l ++ [t])) → w'.heap[bl]? = some (.cells #[v'] 41) → w'.heap[q7]? = some (.cells #[.int .i64 e1, .int .u64 e2] 94) → Steps (fun k => k = q7 ∨ k = bl ∨ v.ownBlock = some k) W w' → RowNext W v v' → K ⟨(z0::z1::(.pointer (some ⟨bl, 0, none⟩))::z3::z4::z5::z6::(.pointer (some ⟨q7, 0, none⟩))::(.pointer (some ⟨q8, 0, none⟩))::(.pointer (some ⟨q9, 0, none⟩))::z10::z11::z12::z13::z14::z15::z16::z17::z18::z19::z20::z21::z22::z23::z24::z25::z26::z27::z28::z29::z30::z31::z32::z33::z34::z35::z36::z37::z38::z39::z40::z41::z42::z43::z44::z45::z46::z47::z48::z49::z50::z51::z52::z53::z54::z55::s56::s57::s58::s59::s60::z61 :: []).toArray, []⟩ w') :
    Code.wpIn (Fence.wide.inRound l0) 0 Try.prog (((Try.f19.body.bind (findRegIn 11)).getD .skip)) (Exit.then K Q) ⟨(z0::z1::(.pointer (some ⟨bl, 0, none⟩))::z3::z4::z5::z6::(.pointer (some ⟨q7, 0, none⟩))::(.pointer (some ⟨q8, 0, none⟩))::(.pointer (some ⟨q9, 0, none⟩))::z10::z11::z12::z13::z14::z15::z16::z17::z18::z19::z20::z21::z22::z23::z24::z25::z26::z27::z28::z29::z30::z31::z32::z33::z34::z35::z36::z37::z38::z39::z40::z41::z42::z43::z44::z45::z46::z47::z48::z49::z50::z51::z52::z53::z54::z55::z56::z57::z58::z59::z60::z61 :: []).toArray, []⟩ W := by
  have HFIN := Lib.hid hfin
  obtain ⟨ra, rc, rfl⟩ := ownsRow_form hrow
  obtain ⟨hb1, hb2, hb3, hb4, hb5, hb6, hb7⟩ := hb
  have kl : ∀ W' : World, (W'.heap[bl]? = some (.cells #[Value.slice ra l.length rc] 41) ∧ W'.heap[q8]? = some (.cells #[.int .i64 t.a, .int .i64 t.b, .int .i64 t.c] 32)) → W'.cell? ⟨bl, 0, none⟩ = some (.slice ra l.length rc) := fun W' h => cell_block h.1 0
  have k0 : ∀ W' : World, (W'.heap[bl]? = some (.cells #[Value.slice ra l.length rc] 41) ∧ W'.heap[q8]? = some (.cells #[.int .i64 t.a, .int .i64 t.b, .int .i64 t.c] 32)) → W'.cell? ⟨q8, 0, none⟩ = some (.int .i64 t.a) := fun W' h => cell_block h.2 0
  have k1 : ∀ W' : World, (W'.heap[bl]? = some (.cells #[Value.slice ra l.length rc] 41) ∧ W'.heap[q8]? = some (.cells #[.int .i64 t.a, .int .i64 t.b, .int .i64 t.c] 32)) → W'.cell? ⟨q8, 1, none⟩ = some (.int .i64 t.b) := fun W' h => cell_block h.2 1
  have k2 : ∀ W' : World, (W'.heap[bl]? = some (.cells #[Value.slice ra l.length rc] 41) ∧ W'.heap[q8]? = some (.cells #[.int .i64 t.a, .int .i64 t.b, .int .i64 t.c] 32)) → W'.cell? ⟨q8, 2, none⟩ = some (.int .i64 t.c) := fun W' h => cell_block h.2 2
  have HR := (Steps.refl (fun _ => False) W).drew
  have hrow0 : W.drew.ownsRow base 32 3 (.slice ra l.length rc) l.length (trsCells l) := ownsRow_same hrow (fun _ _ => rfl)
  clear hfin
  conv => arg 4; whnf
  refine wpIn_region_Vr (B := [5, 6]) (S := fun W' => W'.heap[bl]? = some (.cells #[Value.slice ra l.length rc] 41) ∧ W'.heap[q8]? = some (.cells #[.int .i64 t.a, .int .i64 t.b, .int .i64 t.c] 32)) l0 7 (by kernel_rfl) (by kernel_rfl) (by kernel_rfl) ⟨hL, h8⟩ (fun hS => ?_)
  have ZL := HR.obj (fun h => h) hL
  have Z7 := HR.obj (fun h => h) h7
  have Z8 := HR.obj (fun h => h) h8
  have Z9 := HR.obj (fun h => h) h9
  have HFIN' : Hid (∀ (s56 s57 s58 s59 s60 v' : Value) (w' : World), w'.ownsRow base 32 3 v' (l ++ [t]).length (trsCells (l ++ [t])) → w'.heap[bl]? = some (.cells #[v'] 41) → w'.heap[q7]? = some (.cells #[.int .i64 e1, .int .u64 e2] 94) → Steps (fun k => k = q7 ∨ k = bl ∨ (Value.slice ra l.length rc).ownBlock = some k) W.drew w' → RowNext W.drew (.slice ra l.length rc) v' → K ⟨(z0::z1::(.pointer (some ⟨bl, 0, none⟩))::z3::z4::z5::z6::(.pointer (some ⟨q7, 0, none⟩))::(.pointer (some ⟨q8, 0, none⟩))::(.pointer (some ⟨q9, 0, none⟩))::z10::z11::z12::z13::z14::z15::z16::z17::z18::z19::z20::z21::z22::z23::z24::z25::z26::z27::z28::z29::z30::z31::z32::z33::z34::z35::z36::z37::z38::z39::z40::z41::z42::z43::z44::z45::z46::z47::z48::z49::z50::z51::z52::z53::z54::z55::s56::s57::s58::s59::s60::z61 :: []).toArray, []⟩ w') := Lib.hid (fun a56 a57 a58 a59 a60 v' w' b1 b2 b3 b4 b5 => HFIN.out a56 a57 a58 a59 a60 v' w' b1 b2 b3 ((HR.mono (fun _ _ h => h.elim)).trans b4 (fun _ _ h => h)) b5)
  clear HFIN hL h7 h8 h9 hrow
  have hrow := hrow0
  have hbW0 : base ≤ W.drew.heap.size := hbW
  clear hrow0 HR hbW
  have hbW := hbW0
  have HFIN := HFIN'
  clear hbW0 HFIN'
  generalize W.drew = w0 at hS ZL Z7 Z8 Z9 hrow hbW HFIN ⊢
  refine wpAnyV_takeD 0 56 (v := ?_) (by kernel_rfl) (by kernel_rfl) (by kernel_rfl) (by kernel_rfl) (fun _ _ _ h => h) (by kernel_rfl) ?_ (by assumption) ?_
  rotate_left
  · intro oi hoi w hSw; (try dsimp only at hSw); simp only [gA, gB, gC, gG] at hoi; subst hoi; go_simp; try with_reducible rfl
  simp only [Act.put, gD, gE, gF]
  refine wpAnyV_takeD 1 57 (v := ?_) (by kernel_rfl) (by kernel_rfl) (by kernel_rfl) (by kernel_rfl) (fun _ _ _ h => h) (by kernel_rfl) ?_ (by assumption) ?_
  rotate_left
  · intro oi hoi w hSw; (try dsimp only at hSw); simp only [gA, gB, gC, gG] at hoi; subst hoi; go_simp; try with_reducible rfl
  simp only [Act.put, gD, gE, gF]
  clear kl k0 k1 k2
  refine wpAnyV_two 2 4 (by kernel_rfl) (by kernel_rfl) (by kernel_rfl) ?_ ?_
  ·
    intro oo ho K hK
    simp only [gA, gB, gC, gG] at ho
    subst ho
    go_simp
    obtain ⟨v', w2, hrun, hown', hgrow, hnext⟩ := putTr t hrow hl hbW
    obtain ⟨xa, xN, xc, rfl⟩ := ownsRow_any hown'
    have hst := Steps.alloc (fun _ => False) w0 (.cells #[.int .i64 t.a, .int .i64 t.b, .int .i64 t.c] 32)
    have hS : (w0.alloc (.cells #[.int .i64 t.a, .int .i64 t.b, .int .i64 t.c] 32)).heap[bl]? = some (.cells #[Value.slice ra l.length rc] 41) ∧ (w0.alloc (.cells #[.int .i64 t.a, .int .i64 t.b, .int .i64 t.c] 32)).heap[q8]? = some (.cells #[.int .i64 t.a, .int .i64 t.b, .int .i64 t.c] 32) := ⟨hst.obj (fun h => h) ZL, hst.obj (fun h => h) Z8⟩
    refine hK _ _ (.inr hS) (fun _ => ?_)
    clear hK K
    try simp only [Act.put, gD, gE, gF]
    have H2 : Steps (fun k => (Value.slice ra l.length rc).ownBlock = some k) w0 w2 := ⟨hgrow.os, hgrow.tape, hgrow.output, hgrow.size, fun k hk hn => hgrow.block k hk (fun e => hn e.symm)⟩
    have ZL2 := H2.obj (k := bl) (fun e => by have := (hrow.lt _ e).1; omega) ZL
    have Z82 := H2.obj (k := q8) (fun e => (hv _ e).1 rfl) Z8
    have Z72 := H2.obj (k := q7) (fun e => by have := (hrow.lt _ e).1; omega) Z7
    have Z92 := H2.obj (k := q9) (fun e => (hv _ e).2 rfl) Z9
    replace Z9 := hst.obj (fun h => h) Z9
    clear hst
    refine wpAnyV_two 3 4 (by kernel_rfl) (by kernel_rfl) (by kernel_rfl) ?_ ?_
    ·
      intro oo ho K hK
      simp only [gA, gB, gC, gG] at ho
      subst ho
      refine wpIn_append' (.tmp 56) (.tmp 58) 41 _ _ _ rfl rfl rfl hrun ?_
      replace hS := And.intro ZL2 Z82
      refine hK _ _ (.inr hS) (fun _ => ?_)
      clear hK K hrun
      try simp only [Act.put, gD, gE, gF]
      replace Z9 := Z92
      refine wpAnyV_two 4 5 (by kernel_rfl) (by kernel_rfl) (by kernel_rfl) ?_ ?_
      ·
        intro oo ho K hK
        simp only [gA, gB, gC, gG] at ho
        subst ho
        have l0' := cell_block Z9 0
        have l1' := cell_block Z9 1
        simp only [gA, gB, gC] at l0' l1'
        go_simp
        refine hK _ _ (.inr hS) (fun _ => ?_)
        clear hK K l0' l1'
        try simp only [Act.put, gD, gE, gF]
        refine wpAnyV_one 5 (by kernel_rfl) (by kernel_rfl) ?_
        intro oo ho K hK
        simp only [gA, gB, gC, gG] at ho
        subst ho
        have fl := frozen_block ZL2 0
        have cl := cell_block ZL2 0
        simp only [gA, gB, gC] at cl
        go_simp
        refine hK _ _ (.inl (by kernel_rfl)) (fun _ => ?_)
        clear hK K fl cl
        try simp only [Act.put, gD, gE, gF]
        have zl := block_set ZL2 0 (.slice xa xN xc)
        simp only [List.setIfInBounds_toArray, List.set_cons_zero] at zl
        have hst := Steps.setCell (own := fun k => k = bl) w2 (p := ⟨bl, 0, none⟩) rfl (.slice xa xN xc)
        have hown3 := ownsRow_set (p := bl) (o := 0) (u := .slice xa xN xc) hown' hb1
        generalize w2.setCell ⟨bl, 0, none⟩ (.slice xa xN xc) = w3 at zl hst hown3 ⊢
        replace Z9 := hst.obj (fun e => hb5 e.symm) Z92
        have Z73 := hst.obj (k := q7) (fun e => hb3 e.symm) Z72
        have H3 : Steps (fun k => k = q7 ∨ k = bl ∨ (Value.slice ra l.length rc).ownBlock = some k) w0 w3 := (H2.mono (fun _ _ h => .inr (.inr h))).trans hst (fun _ _ h => .inr (.inl h))
        clear hst
        have f0 := frozen_block Z73 0
        have f1 := frozen_block Z73 1
        have c0 := cell_block Z73 0
        have c1 := cell_block Z73 1
        simp only [gA, gB, gC] at c0 c1
        refine wpAnyV_one 6 (by kernel_rfl) (by kernel_rfl) ?_
        intro o ho K hK
        simp only [gA, gB, gC, gG] at ho
        subst ho
        go_simp
        have zz := two_same (.int .i64 e1) (.int .u64 e2) Z73
        have hput : Steps (fun k => k = q7) w3 ((w3.setCell ⟨q7, 0, none⟩ (.int .i64 e1)).setCell ⟨q7, 1, none⟩ (.int .u64 e2)) := (Steps.setCell (own := fun k => k = q7) w3 (p := ⟨q7, 0, none⟩) rfl _).trans (Steps.setCell (own := fun k => k = q7) _ (p := ⟨q7, 1, none⟩) rfl _) (fun _ _ h => h)
        refine hK _ _ (.inl (by kernel_rfl)) (fun _ => ?_)
        clear hK K
        try simp only [Act.put, gD, gE, gF]
        have zl' := hput.obj (k := bl) hb3 zl
        have hall := H3.trans hput (fun _ _ h => .inl h)
        have hown4 := ownsRow_same hown3 (fun g hg => hput.block g (hown3.lt g hg).2 (fun e => by have := (hown3.lt g hg).1; omega))
        refine wpAnyV_done (by kernel_rfl) ?_ _
        dsimp only [onNormal]
        exact HFIN.out _ _ _ _ _ _ _ hown4 zl' zz hall hnext
      ·
        intro oo ho K hK
        simp only [gA, gB, gC, gG] at ho
        subst ho
        have fl := frozen_block ZL2 0
        have cl := cell_block ZL2 0
        simp only [gA, gB, gC] at cl
        go_simp
        refine hK _ _ (.inl (by kernel_rfl)) (fun _ => ?_)
        clear hK K fl cl
        try simp only [Act.put, gD, gE, gF]
        have zl := block_set ZL2 0 (.slice xa xN xc)
        simp only [List.setIfInBounds_toArray, List.set_cons_zero] at zl
        have hst := Steps.setCell (own := fun k => k = bl) w2 (p := ⟨bl, 0, none⟩) rfl (.slice xa xN xc)
        have hown3 := ownsRow_set (p := bl) (o := 0) (u := .slice xa xN xc) hown' hb1
        generalize w2.setCell ⟨bl, 0, none⟩ (.slice xa xN xc) = w3 at zl hst hown3 ⊢
        replace Z9 := hst.obj (fun e => hb5 e.symm) Z92
        have Z73 := hst.obj (k := q7) (fun e => hb3 e.symm) Z72
        have H3 : Steps (fun k => k = q7 ∨ k = bl ∨ (Value.slice ra l.length rc).ownBlock = some k) w0 w3 := (H2.mono (fun _ _ h => .inr (.inr h))).trans hst (fun _ _ h => .inr (.inl h))
        clear hst
        refine wpAnyV_one 4 (by kernel_rfl) (by kernel_rfl) ?_
        intro oo ho K hK
        simp only [gA, gB, gC, gG] at ho
        subst ho
        have l0' := cell_block Z9 0
        have l1' := cell_block Z9 1
        simp only [gA, gB, gC] at l0' l1'
        go_simp
        refine hK _ _ (.inl (by kernel_rfl)) (fun _ => ?_)
        clear hK K l0' l1'
        try simp only [Act.put, gD, gE, gF]
        have f0 := frozen_block Z73 0
        have f1 := frozen_block Z73 1
        have c0 := cell_block Z73 0
        have c1 := cell_block Z73 1
        simp only [gA, gB, gC] at c0 c1
        refine wpAnyV_one 6 (by kernel_rfl) (by kernel_rfl) ?_
        intro o ho K hK
        simp only [gA, gB, gC, gG] at ho
        subst ho
        go_simp
        have zz := two_same (.int .i64 e1) (.int .u64 e2) Z73
        have hput : Steps (fun k => k = q7) w3 ((w3.setCell ⟨q7, 0, none⟩ (.int .i64 e1)).setCell ⟨q7, 1, none⟩ (.int .u64 e2)) := (Steps.setCell (own := fun k => k = q7) w3 (p := ⟨q7, 0, none⟩) rfl _).trans (Steps.setCell (own := fun k => k = q7) _ (p := ⟨q7, 1, none⟩) rfl _) (fun _ _ h => h)
        refine hK _ _ (.inl (by kernel_rfl)) (fun _ => ?_)
        clear hK K
        try simp only [Act.put, gD, gE, gF]
        have zl' := hput.obj (k := bl) hb3 zl
        have hall := H3.trans hput (fun _ _ h => .inl h)
        have hown4 := ownsRow_same hown3 (fun g hg => hput.block g (hown3.lt g hg).2 (fun e => by have := (hown3.lt g hg).1; omega))
        refine wpAnyV_done (by kernel_rfl) ?_ _
        dsimp only [onNormal]
        exact HFIN.out _ _ _ _ _ _ _ hown4 zl' zz hall hnext
    ·
      intro oo ho K hK
      simp only [gA, gB, gC, gG] at ho
      subst ho
      have l0' := cell_block Z9 0
      have l1' := cell_block Z9 1
      simp only [gA, gB, gC] at l0' l1'
      go_simp
      refine hK _ _ (.inr hS) (fun _ => ?_)
      clear hK K l0' l1'
      try simp only [Act.put, gD, gE, gF]
      refine wpAnyV_one 3 (by kernel_rfl) (by kernel_rfl) ?_
      intro oo ho K hK
      simp only [gA, gB, gC, gG] at ho
      subst ho
      refine wpIn_append' (.tmp 56) (.tmp 58) 41 _ _ _ rfl rfl rfl hrun ?_
      replace hS := And.intro ZL2 Z82
      refine hK _ _ (.inr hS) (fun _ => ?_)
      clear hK K hrun
      try simp only [Act.put, gD, gE, gF]
      replace Z9 := Z92
      refine wpAnyV_one 5 (by kernel_rfl) (by kernel_rfl) ?_
      intro oo ho K hK
      simp only [gA, gB, gC, gG] at ho
      subst ho
      have fl := frozen_block ZL2 0
      have cl := cell_block ZL2 0
      simp only [gA, gB, gC] at cl
      go_simp
      refine hK _ _ (.inl (by kernel_rfl)) (fun _ => ?_)
      clear hK K fl cl
      try simp only [Act.put, gD, gE, gF]
      have zl := block_set ZL2 0 (.slice xa xN xc)
      simp only [List.setIfInBounds_toArray, List.set_cons_zero] at zl
      have hst := Steps.setCell (own := fun k => k = bl) w2 (p := ⟨bl, 0, none⟩) rfl (.slice xa xN xc)
      have hown3 := ownsRow_set (p := bl) (o := 0) (u := .slice xa xN xc) hown' hb1
      generalize w2.setCell ⟨bl, 0, none⟩ (.slice xa xN xc) = w3 at zl hst hown3 ⊢
      replace Z9 := hst.obj (fun e => hb5 e.symm) Z92
      have Z73 := hst.obj (k := q7) (fun e => hb3 e.symm) Z72
      have H3 : Steps (fun k => k = q7 ∨ k = bl ∨ (Value.slice ra l.length rc).ownBlock = some k) w0 w3 := (H2.mono (fun _ _ h => .inr (.inr h))).trans hst (fun _ _ h => .inr (.inl h))
      clear hst
      have f0 := frozen_block Z73 0
      have f1 := frozen_block Z73 1
      have c0 := cell_block Z73 0
      have c1 := cell_block Z73 1
      simp only [gA, gB, gC] at c0 c1
      refine wpAnyV_one 6 (by kernel_rfl) (by kernel_rfl) ?_
      intro o ho K hK
      simp only [gA, gB, gC, gG] at ho
      subst ho
      go_simp
      have zz := two_same (.int .i64 e1) (.int .u64 e2) Z73
      have hput : Steps (fun k => k = q7) w3 ((w3.setCell ⟨q7, 0, none⟩ (.int .i64 e1)).setCell ⟨q7, 1, none⟩ (.int .u64 e2)) := (Steps.setCell (own := fun k => k = q7) w3 (p := ⟨q7, 0, none⟩) rfl _).trans (Steps.setCell (own := fun k => k = q7) _ (p := ⟨q7, 1, none⟩) rfl _) (fun _ _ h => h)
      refine hK _ _ (.inl (by kernel_rfl)) (fun _ => ?_)
      clear hK K
      try simp only [Act.put, gD, gE, gF]
      have zl' := hput.obj (k := bl) hb3 zl
      have hall := H3.trans hput (fun _ _ h => .inl h)
      have hown4 := ownsRow_same hown3 (fun g hg => hput.block g (hown3.lt g hg).2 (fun e => by have := (hown3.lt g hg).1; omega))
      refine wpAnyV_done (by kernel_rfl) ?_ _
      dsimp only [onNormal]
      exact HFIN.out _ _ _ _ _ _ _ hown4 zl' zz hall hnext
  ·
    intro oo ho K hK
    simp only [gA, gB, gC, gG] at ho
    subst ho
    have l0' := cell_block Z9 0
    have l1' := cell_block Z9 1
    simp only [gA, gB, gC] at l0' l1'
    go_simp
    refine hK _ _ (.inr hS) (fun _ => ?_)
    clear hK K l0' l1'
    try simp only [Act.put, gD, gE, gF]
    refine wpAnyV_one 2 (by kernel_rfl) (by kernel_rfl) ?_
    intro oo ho K hK
    simp only [gA, gB, gC, gG] at ho
    subst ho
    go_simp
    obtain ⟨v', w2, hrun, hown', hgrow, hnext⟩ := putTr t hrow hl hbW
    obtain ⟨xa, xN, xc, rfl⟩ := ownsRow_any hown'
    have hst := Steps.alloc (fun _ => False) w0 (.cells #[.int .i64 t.a, .int .i64 t.b, .int .i64 t.c] 32)
    have hS : (w0.alloc (.cells #[.int .i64 t.a, .int .i64 t.b, .int .i64 t.c] 32)).heap[bl]? = some (.cells #[Value.slice ra l.length rc] 41) ∧ (w0.alloc (.cells #[.int .i64 t.a, .int .i64 t.b, .int .i64 t.c] 32)).heap[q8]? = some (.cells #[.int .i64 t.a, .int .i64 t.b, .int .i64 t.c] 32) := ⟨hst.obj (fun h => h) ZL, hst.obj (fun h => h) Z8⟩
    refine hK _ _ (.inr hS) (fun _ => ?_)
    clear hK K
    try simp only [Act.put, gD, gE, gF]
    have H2 : Steps (fun k => (Value.slice ra l.length rc).ownBlock = some k) w0 w2 := ⟨hgrow.os, hgrow.tape, hgrow.output, hgrow.size, fun k hk hn => hgrow.block k hk (fun e => hn e.symm)⟩
    have ZL2 := H2.obj (k := bl) (fun e => by have := (hrow.lt _ e).1; omega) ZL
    have Z82 := H2.obj (k := q8) (fun e => (hv _ e).1 rfl) Z8
    have Z72 := H2.obj (k := q7) (fun e => by have := (hrow.lt _ e).1; omega) Z7
    have Z92 := H2.obj (k := q9) (fun e => (hv _ e).2 rfl) Z9
    replace Z9 := hst.obj (fun h => h) Z9
    clear hst
    refine wpAnyV_one 3 (by kernel_rfl) (by kernel_rfl) ?_
    intro oo ho K hK
    simp only [gA, gB, gC, gG] at ho
    subst ho
    refine wpIn_append' (.tmp 56) (.tmp 58) 41 _ _ _ rfl rfl rfl hrun ?_
    replace hS := And.intro ZL2 Z82
    refine hK _ _ (.inr hS) (fun _ => ?_)
    clear hK K hrun
    try simp only [Act.put, gD, gE, gF]
    replace Z9 := Z92
    refine wpAnyV_one 5 (by kernel_rfl) (by kernel_rfl) ?_
    intro oo ho K hK
    simp only [gA, gB, gC, gG] at ho
    subst ho
    have fl := frozen_block ZL2 0
    have cl := cell_block ZL2 0
    simp only [gA, gB, gC] at cl
    go_simp
    refine hK _ _ (.inl (by kernel_rfl)) (fun _ => ?_)
    clear hK K fl cl
    try simp only [Act.put, gD, gE, gF]
    have zl := block_set ZL2 0 (.slice xa xN xc)
    simp only [List.setIfInBounds_toArray, List.set_cons_zero] at zl
    have hst := Steps.setCell (own := fun k => k = bl) w2 (p := ⟨bl, 0, none⟩) rfl (.slice xa xN xc)
    have hown3 := ownsRow_set (p := bl) (o := 0) (u := .slice xa xN xc) hown' hb1
    generalize w2.setCell ⟨bl, 0, none⟩ (.slice xa xN xc) = w3 at zl hst hown3 ⊢
    replace Z9 := hst.obj (fun e => hb5 e.symm) Z92
    have Z73 := hst.obj (k := q7) (fun e => hb3 e.symm) Z72
    have H3 : Steps (fun k => k = q7 ∨ k = bl ∨ (Value.slice ra l.length rc).ownBlock = some k) w0 w3 := (H2.mono (fun _ _ h => .inr (.inr h))).trans hst (fun _ _ h => .inr (.inl h))
    clear hst
    have f0 := frozen_block Z73 0
    have f1 := frozen_block Z73 1
    have c0 := cell_block Z73 0
    have c1 := cell_block Z73 1
    simp only [gA, gB, gC] at c0 c1
    refine wpAnyV_one 6 (by kernel_rfl) (by kernel_rfl) ?_
    intro o ho K hK
    simp only [gA, gB, gC, gG] at ho
    subst ho
    go_simp
    have zz := two_same (.int .i64 e1) (.int .u64 e2) Z73
    have hput : Steps (fun k => k = q7) w3 ((w3.setCell ⟨q7, 0, none⟩ (.int .i64 e1)).setCell ⟨q7, 1, none⟩ (.int .u64 e2)) := (Steps.setCell (own := fun k => k = q7) w3 (p := ⟨q7, 0, none⟩) rfl _).trans (Steps.setCell (own := fun k => k = q7) _ (p := ⟨q7, 1, none⟩) rfl _) (fun _ _ h => h)
    refine hK _ _ (.inl (by kernel_rfl)) (fun _ => ?_)
    clear hK K
    try simp only [Act.put, gD, gE, gF]
    have zl' := hput.obj (k := bl) hb3 zl
    have hall := H3.trans hput (fun _ _ h => .inl h)
    have hown4 := ownsRow_same hown3 (fun g hg => hput.block g (hown3.lt g hg).2 (fun e => by have := (hown3.lt g hg).1; omega))
    refine wpAnyV_done (by kernel_rfl) ?_ _
    dsimp only [onNormal]
    exact HFIN.out _ _ _ _ _ _ _ hown4 zl' zz hall hnext
end Go.Proofs.Ytacioedolmaofaa
