/- Package border: the least and the greatest of some numbers. Package border: what gathers the shifts. -/
import Derived.Test.YtjkegmjjhdmkiaaBU12
import Derived.Test.YtjkegmjjhdmkiaaBU4
namespace Go.Proofs.Ytjkegmjjhdmkiaa
open Go.RowKit Go.Shelf
set_option maxHeartbeats 1600000
set_option maxRecDepth 100000
set_option linter.unusedSimpArgs false

theorem least_any (x n : Int) (q : Nat) (w : World) (h : w.cell? ⟨q, 0, none⟩ = some (.int .i64 n)) :
    Calls Try.prog 112 #[.int .i64 x, .slice (some ⟨q, 0, none⟩) 1 1] w fun e w' => e = .returned (.int .i64 (min x n)) ∧ w = w' := by
  go_enter Try.func112, Try.ntmps112
  go_wp2
  go_loopw [0, 6, 9] (fun s _ i wr => wr = w ∧ ∃ k : Nat, k ≤ 1 ∧ i = .int .i64 k ∧ s = .int .i64 (if k = 0 then x else min x n)) (fun _ _ i _ => 1 - (intOf i).toNat)
  case atStart => exact ⟨rfl, 0, Nat.zero_le _, rfl, rfl⟩
  case round =>
    obtain ⟨rfl, k, hk, rfl, rfl⟩ := hrel
    by_cases hlt : k = 0
    · subst hlt
      go_wp2
      all_goals
        go_roundw
        case rel => exact ⟨trivial, 1, by omega, by go_num, by simp <;> omega⟩
        case measure => simp [intOf]
    · obtain rfl : k = 1 := by omega
      go_wp2
      go_ret
      exact ⟨rfl, rfl⟩

/-- The numbers between which a number was put. -/
structure EndsAt (w : World) (b o : Nat) (lo hi : Int) (some' : Bool) : Prop where
  lo : w.cell? ⟨b, o, none⟩ = some (.int .i64 lo)
  hi : w.cell? ⟨b, o + 1, none⟩ = some (.int .i64 hi)
  sm : w.cell? ⟨b, o + 2, none⟩ = some (.bool some')
  fz : ∀ i, w.frozen? ⟨b, i, none⟩ = false

theorem EndsAt.steps {w w' : World} {own : Nat → Prop} {b o : Nat} {lo hi : Int} {q : Bool} (h : EndsAt w b o lo hi q) (hs : Steps own w w') (hn : ¬ own b) : EndsAt w' b o lo hi q := by
  have hb : b < w.heap.size := World.block_lt_of_cell? w _ h.lo
  have e := hs.block b hb hn
  exact ⟨(World.cell?_of_block e).trans h.lo, (World.cell?_of_block e).trans h.hi, (World.cell?_of_block e).trans h.sm, fun i => (World.frozen?_of_block e).trans (h.fz i)⟩

theorem wrap_near (x : Int) (h : -1000 ≤ x ∧ x ≤ 1000) : IntKind.i64.wrap x = x := by rw [IntKind.wrap_i64]; omega

theorem cell_set {w : World} {b o : Nat} {u : Value} (v : Value) (h : w.cell? ⟨b, o, none⟩ = some u) : (w.setCell ⟨b, o, none⟩ v).cell? ⟨b, o, none⟩ = some v := World.cell?_setCell_same' _ _ _ (by rw [h]; rfl)
theorem cell_far {w : World} {b o b' o' : Nat} {u v : Value} (h : w.cell? ⟨b, o, none⟩ = some u) (hne : b ≠ b' ∨ o ≠ o') : (w.setCell ⟨b', o', none⟩ v).cell? ⟨b, o, none⟩ = some u :=
  (World.cell?_setCell_other w ⟨b', o', none⟩ ⟨b, o, none⟩ v (fun e => by injection e with h1 h2; omega)).trans h

def PutPost (g o : Nat) (lo hi n : Int) (q : Bool) (w : World) (e : Ending) (w' : World) : Prop :=
  e = .returned (.tuple #[]) ∧ Steps (fun k => k = g) w w' ∧ (∀ o', (o' < o ∨ o + 2 < o') → w'.cell? ⟨g, o', none⟩ = w.cell? ⟨g, o', none⟩) ∧ EndsAt w' g o (if q then min lo n else n) (if q then max hi n else n) true

theorem put_post {g o : Nat} {lo hi n : Int} {q : Bool} {w wx W : World} {m : Int} (hx : Steps (fun k => k = g) w wx) (hox : ∀ o', (o' < o ∨ o + 2 < o') → wx.cell? ⟨g, o', none⟩ = w.cell? ⟨g, o', none⟩) (hst : Steps (fun _ => False) wx W) (hg : g < wx.heap.size)
    (h : EndsAt W g o (if q then lo else n) (if q then hi else n) true) (hm : m = max (if q then hi else n) n) :
    PutPost g o lo hi n q w (.returned (.tuple #[])) ((W.setCell ⟨g, o, none⟩ (.int .i64 (min (if q then lo else n) n))).setCell ⟨g, o + 1, none⟩ (.int .i64 m)) := by
  subst hm
  refine ⟨rfl, ?_, fun o' ho => ?_, ?_⟩
  · exact (hx.trans (hst.mono (own' := fun k => k = g) (fun _ _ h => h.elim)) (fun _ _ h => h)).trans ((Steps.setCell (own := fun k => k = g) W rfl _).trans (Steps.setCell (own := fun k => k = g) _ rfl _) (fun _ _ h => h)) (fun _ _ h => h)
  · rw [World.cell?_setCell_other _ ⟨g, o + 1, none⟩ ⟨g, o', none⟩ _ (fun e => by injection e; omega), World.cell?_setCell_other _ ⟨g, o, none⟩ ⟨g, o', none⟩ _ (fun e => by injection e; omega)]
    rw [World.cell?_of_block (w := wx) (hst.block g hg (fun h => h))]
    exact hox o' ho
  · refine ⟨?_, ?_, ?_, fun i => ?_⟩
    · have := cell_far (b' := g) (o' := o + 1) (v := .int .i64 (max (if q then hi else n) n)) (cell_set (.int .i64 (min (if q then lo else n) n)) h.lo) (.inr (by omega))
      rw [this]
      cases q <;> simp
    · have := cell_set (.int .i64 (max (if q then hi else n) n)) (cell_far (b' := g) (o' := o) (v := .int .i64 (min (if q then lo else n) n)) h.hi (.inr (by omega)))
      rw [this]
      cases q <;> simp
    · exact cell_far (cell_far h.sm (.inr (by omega))) (.inr (by omega))
    · rw [World.frozen?_setCell, World.frozen?_setCell]
      exact h.fz i

theorem put_any (g o : Nat) (lo hi n : Int) (q : Bool) (w : World) (h : EndsAt w g o lo hi q) (hn : -100 ≤ n ∧ n ≤ 100) (hl : -100 ≤ lo ∧ lo ≤ 100) (hh : -100 ≤ hi ∧ hi ≤ 100) :
    Calls Try.prog 111 #[.pointer (some ⟨g, o, none⟩), .int .i64 n] w (PutPost g o lo hi n q w) := by
  obtain ⟨n1, n2⟩ := hn
  obtain ⟨l1, l2⟩ := hl
  obtain ⟨i1, i2⟩ := hh
  have h0 := h.lo
  have h1 := h.hi
  have h2 := h.sm
  have f0 := h.fz o
  have f1 := h.fz (o + 1)
  have f2 := h.fz (o + 2)
  have hgw : g < w.heap.size := World.block_lt_of_cell? w _ h0
  go_enter Try.func111, Try.ntmps111
  go_upto_if 8 with fail
  go_cut [8] (fun _ wx => Steps (fun k => k = g) w wx ∧ (∀ o', (o' < o ∨ o + 2 < o') → wx.cell? ⟨g, o', none⟩ = w.cell? ⟨g, o', none⟩) ∧ EndsAt wx g o (if q then lo else n) (if q then hi else n) true)
  case first =>
    cases q with
    | true =>
      go_wp2_with fail
      go_meet
      exact ⟨Steps.refl _ _, fun _ _ => rfl, h⟩
    | false =>
      go_wp2_with fail
      go_meet
      refine ⟨(Steps.setCell (own := fun k => k = g) w rfl _).trans ((Steps.setCell (own := fun k => k = g) _ rfl _).trans (Steps.setCell (own := fun k => k = g) _ rfl _) (fun _ _ h => h)) (fun _ _ h => h), fun o' ho => ?_, ?_, ?_, ?_, fun i => ?_⟩
      · rw [World.cell?_setCell_other _ ⟨g, o + 2, none⟩ ⟨g, o', none⟩ _ (fun e => by injection e; omega), World.cell?_setCell_other _ ⟨g, o + 1, none⟩ ⟨g, o', none⟩ _ (fun e => by injection e; omega), World.cell?_setCell_other _ ⟨g, o, none⟩ ⟨g, o', none⟩ _ (fun e => by injection e; omega)]
      · exact cell_far (cell_far (cell_set _ h0) (.inr (by omega))) (.inr (by omega))
      · exact cell_far (cell_set _ (cell_far h1 (.inr (by omega)))) (.inr (by omega))
      · exact cell_set _ (cell_far (cell_far h2 (.inr (by omega))) (.inr (by omega)))
      · rw [World.frozen?_setCell, World.frozen?_setCell, World.frozen?_setCell]; exact h.fz i
  case rest =>
    obtain ⟨hx, hox, hE⟩ := hcut
    clear h0 h1 h2 f0 f1 f2 h
    have hb : (-100 ≤ (if q then lo else n) ∧ (if q then lo else n) ≤ 100) ∧ (-100 ≤ (if q then hi else n) ∧ (if q then hi else n) ≤ 100) := by cases q <;> simp <;> omega
    have hpp := fun (W : World) (m : Int) => put_post (g := g) (o := o) (lo := lo) (hi := hi) (n := n) (q := q) (w := w) (wx := wc) (W := W) (m := m) hx hox
    generalize (if q then lo else n) = lx at hE hb hpp
    generalize (if q then hi else n) = hx' at hE hb hpp
    obtain ⟨⟨l3, l4⟩, i3, i4⟩ := hb
    have HPP := Lib.hid hpp
    clear hpp
    have hgc : g < wc.heap.size := World.block_lt_of_cell? wc _ hE.lo
    have h0 := hE.lo
    have h1 := hE.hi
    have hn' := wrap_near (-n) (by omega)
    have hh' := wrap_near (-hx') (by omega)
    have hmm : IntKind.i64.wrap (-(min (-hx') (-n))) = max hx' n := by rw [wrap_near _ (by omega)]; omega
    have k0 : ∀ W', KeepCells (fun k => k = g) wc W' → W'.cell? ⟨g, o, none⟩ = some (.int .i64 lx) := fun W' h => h ⟨g, o, none⟩ _ rfl h0
    have k1 : ∀ W', KeepCells (fun k => k = g) wc W' → W'.cell? ⟨g, o + 1, none⟩ = some (.int .i64 hx') := fun W' h => h ⟨g, o + 1, none⟩ _ rfl h1
    go_upto_region 2 with fail
    refine (wpIn_wide (n := 1)).1 ?_
    refine wpIn_region_V (B := [24, 28]) (S := fun W' => KeepCells (fun k => k = g) wc W') 29 (by kernel_rfl) (by kernel_rfl) (fun a v _ h => h) (fun hHeld => ?_)
    have sA : Steps (fun _ => False) wc wc.drew := (Steps.refl _ wc).drew
    generalize wc.drew = WA at hHeld sA ⊢
    refine wpAnyV_takeP 0 18 (v := ?_) (by kernel_rfl) (by kernel_rfl) (by kernel_rfl) (by kernel_rfl) (fun _ _ _ h => h) ?_ (by kernel_rfl) (by first | exact .inr hHeld | exact .inl (by kernel_rfl)) ?_
    rotate_left
    · intro oi hoi w; simp only [List.getElem?_toArray, List.getElem?_cons_zero, List.getElem?_cons_succ, Option.some.injEq] at hoi; subst hoi; go_simp; try with_reducible rfl
    simp only [Act.put, List.setIfInBounds_toArray, List.set_cons_zero, List.set_cons_succ]
    refine wpAnyV_takeP 1 19 (v := ?_) (by kernel_rfl) (by kernel_rfl) (by kernel_rfl) (by kernel_rfl) (fun _ _ _ h => h) ?_ (by kernel_rfl) (by first | exact .inr hHeld | exact .inl (by kernel_rfl)) ?_
    rotate_left
    · intro oi hoi w; simp only [List.getElem?_toArray, List.getElem?_cons_zero, List.getElem?_cons_succ, Option.some.injEq] at hoi; subst hoi; go_simp; try with_reducible rfl
    simp only [Act.put, List.setIfInBounds_toArray, List.set_cons_zero, List.set_cons_succ]
    refine wpAnyV_takeP 2 20 (v := ?_) (by kernel_rfl) (by kernel_rfl) (by kernel_rfl) (by kernel_rfl) (fun _ _ _ h => h) ?_ (by kernel_rfl) (by first | exact .inr hHeld | exact .inl (by kernel_rfl)) ?_
    rotate_left
    · intro oi hoi w; simp only [List.getElem?_toArray, List.getElem?_cons_zero, List.getElem?_cons_succ, Option.some.injEq] at hoi; subst hoi; go_simp; try with_reducible rfl
    simp only [Act.put, List.setIfInBounds_toArray, List.set_cons_zero, List.set_cons_succ]
    refine wpAnyV_takeP 3 21 (v := ?_) (by kernel_rfl) (by kernel_rfl) (by kernel_rfl) (by kernel_rfl) (fun _ _ _ h => h) ?_ (by kernel_rfl) (by first | exact .inr hHeld | exact .inl (by kernel_rfl)) ?_
    rotate_left
    · intro oi hoi w; simp only [List.getElem?_toArray, List.getElem?_cons_zero, List.getElem?_cons_succ, Option.some.injEq] at hoi; subst hoi; go_simp; try with_reducible rfl
    simp only [Act.put, List.setIfInBounds_toArray, List.set_cons_zero, List.set_cons_succ]
    refine wpAnyV_takeP 4 22 (v := ?_) (by kernel_rfl) (by kernel_rfl) (by kernel_rfl) (by kernel_rfl) (fun _ _ _ h => h) ?_ (by kernel_rfl) (by first | exact .inr hHeld | exact .inl (by kernel_rfl)) ?_
    rotate_left
    · intro oi hoi w; simp only [List.getElem?_toArray, List.getElem?_cons_zero, List.getElem?_cons_succ, Option.some.injEq] at hoi; subst hoi; go_simp; try with_reducible rfl
    simp only [Act.put, List.setIfInBounds_toArray, List.set_cons_zero, List.set_cons_succ]
    refine wpAnyV_takeP 5 23 (v := ?_) (by kernel_rfl) (by kernel_rfl) (by kernel_rfl) (by kernel_rfl) (fun _ _ _ h => h) ?_ (by kernel_rfl) (by first | exact .inr hHeld | exact .inl (by kernel_rfl)) ?_
    rotate_left
    · intro oi hoi w; simp only [List.getElem?_toArray, List.getElem?_cons_zero, List.getElem?_cons_succ, Option.some.injEq] at hoi; subst hoi; go_simp; try with_reducible rfl
    simp only [Act.put, List.setIfInBounds_toArray, List.set_cons_zero, List.set_cons_succ]
    refine wpAnyV_takeD 6 24 (v := ?_) (by kernel_rfl) (by kernel_rfl) (by kernel_rfl) (by kernel_rfl) (fun _ _ _ h => h) (by kernel_rfl) ?_ (by assumption) ?_
    rotate_left
    · intro oi hoi w hSw; (try dsimp only at hSw); simp only [List.getElem?_toArray, List.getElem?_cons_zero, List.getElem?_cons_succ, Option.some.injEq] at hoi; subst hoi; go_simp; try with_reducible rfl
    simp only [Act.put, List.setIfInBounds_toArray, List.set_cons_zero, List.set_cons_succ]
    refine wpAnyV_takeP 7 25 (v := ?_) (by kernel_rfl) (by kernel_rfl) (by kernel_rfl) (by kernel_rfl) (fun _ _ _ h => h) ?_ (by kernel_rfl) (by first | exact .inr hHeld | exact .inl (by kernel_rfl)) ?_
    rotate_left
    · intro oi hoi w; simp only [List.getElem?_toArray, List.getElem?_cons_zero, List.getElem?_cons_succ, Option.some.injEq] at hoi; subst hoi; go_simp; try with_reducible rfl
    simp only [Act.put, List.setIfInBounds_toArray, List.set_cons_zero, List.set_cons_succ]
    refine wpAnyV_takeP 10 28 (v := ?_) (by kernel_rfl) (by kernel_rfl) (by kernel_rfl) (by kernel_rfl) (fun _ _ _ h => h) ?_ (by kernel_rfl) (by first | exact .inr hHeld | exact .inl (by kernel_rfl)) ?_
    rotate_left
    · intro oi hoi w; simp only [List.getElem?_toArray, List.getElem?_cons_zero, List.getElem?_cons_succ, Option.some.injEq] at hoi; subst hoi; go_simp; try with_reducible rfl
    simp only [Act.put, List.setIfInBounds_toArray, List.set_cons_zero, List.set_cons_succ]
    refine wpAnyV_takeP 11 29 (v := ?_) (by kernel_rfl) (by kernel_rfl) (by kernel_rfl) (by kernel_rfl) (fun _ _ _ h => h) ?_ (by kernel_rfl) (by first | exact .inr hHeld | exact .inl (by kernel_rfl)) ?_
    rotate_left
    · intro oi hoi w; simp only [List.getElem?_toArray, List.getElem?_cons_zero, List.getElem?_cons_succ, Option.some.injEq] at hoi; subst hoi; go_simp; try with_reducible rfl
    simp only [Act.put, List.setIfInBounds_toArray, List.set_cons_zero, List.set_cons_succ]
    refine wpAnyV_takeP 12 30 (v := ?_) (by kernel_rfl) (by kernel_rfl) (by kernel_rfl) (by kernel_rfl) (fun _ _ _ h => h) ?_ (by kernel_rfl) (by first | exact .inr hHeld | exact .inl (by kernel_rfl)) ?_
    rotate_left
    · intro oi hoi w; simp only [List.getElem?_toArray, List.getElem?_cons_zero, List.getElem?_cons_succ, Option.some.injEq] at hoi; subst hoi; go_simp; try with_reducible rfl
    simp only [Act.put, List.setIfInBounds_toArray, List.set_cons_zero, List.set_cons_succ]
    refine wpAnyV_takeP 13 31 (v := ?_) (by kernel_rfl) (by kernel_rfl) (by kernel_rfl) (by kernel_rfl) (fun _ _ _ h => h) ?_ (by kernel_rfl) (by first | exact .inr hHeld | exact .inl (by kernel_rfl)) ?_
    rotate_left
    · intro oi hoi w; simp only [List.getElem?_toArray, List.getElem?_cons_zero, List.getElem?_cons_succ, Option.some.injEq] at hoi; subst hoi; go_simp; try with_reducible rfl
    simp only [Act.put, List.setIfInBounds_toArray, List.set_cons_zero, List.set_cons_succ]
    refine wpAnyV_takeD 14 32 (v := ?_) (by kernel_rfl) (by kernel_rfl) (by kernel_rfl) (by kernel_rfl) (fun _ _ _ h => h) (by kernel_rfl) ?_ (by assumption) ?_
    rotate_left
    · intro oi hoi w hSw; (try dsimp only at hSw); simp only [List.getElem?_toArray, List.getElem?_cons_zero, List.getElem?_cons_succ, Option.some.injEq] at hoi; subst hoi; go_simp; try with_reducible rfl
    simp only [Act.put, List.setIfInBounds_toArray, List.set_cons_zero, List.set_cons_succ]
    refine wpAnyV_takeP 15 33 (v := ?_) (by kernel_rfl) (by kernel_rfl) (by kernel_rfl) (by kernel_rfl) (fun _ _ _ h => h) ?_ (by kernel_rfl) (by first | exact .inr hHeld | exact .inl (by kernel_rfl)) ?_
    rotate_left
    · intro oi hoi w; simp only [List.getElem?_toArray, List.getElem?_cons_zero, List.getElem?_cons_succ, Option.some.injEq] at hoi; subst hoi; go_simp; try with_reducible rfl
    simp only [Act.put, List.setIfInBounds_toArray, List.set_cons_zero, List.set_cons_succ]
    refine wpAnyV_takeP 16 34 (v := ?_) (by kernel_rfl) (by kernel_rfl) (by kernel_rfl) (by kernel_rfl) (fun _ _ _ h => h) ?_ (by kernel_rfl) (by first | exact .inr hHeld | exact .inl (by kernel_rfl)) ?_
    rotate_left
    · intro oi hoi w; simp only [List.getElem?_toArray, List.getElem?_cons_zero, List.getElem?_cons_succ, Option.some.injEq] at hoi; subst hoi; go_simp; try with_reducible rfl
    simp only [Act.put, List.setIfInBounds_toArray, List.set_cons_zero, List.set_cons_succ]
    refine wpAnyV_takeP 17 35 (v := ?_) (by kernel_rfl) (by kernel_rfl) (by kernel_rfl) (by kernel_rfl) (fun _ _ _ h => h) ?_ (by kernel_rfl) (by first | exact .inr hHeld | exact .inl (by kernel_rfl)) ?_
    rotate_left
    · intro oi hoi w; simp only [List.getElem?_toArray, List.getElem?_cons_zero, List.getElem?_cons_succ, Option.some.injEq] at hoi; subst hoi; go_simp; try with_reducible rfl
    simp only [Act.put, List.setIfInBounds_toArray, List.set_cons_zero, List.set_cons_succ]
    refine wpAnyV_two 8 18 (by kernel_rfl) (by kernel_rfl) (by kernel_rfl) ?va ?vb
    case va =>
      intro o ho K hK
      simp only [List.getElem?_toArray, List.getElem?_cons_zero, List.getElem?_cons_succ, Option.some.injEq] at ho
      subst ho
      go_simp
      obtain ⟨WB, hWB⟩ : ∃ WB, WA.alloc (.cells #[.int .i64 n] 3) = WB := ⟨_, rfl⟩
      rw [hWB]
      obtain ⟨qa, hqa⟩ : ∃ qa, WA.heap.size = qa := ⟨_, rfl⟩
      rw [hqa]
      have cqa : WB.cell? ⟨qa, 0, none⟩ = some (.int .i64 n) := by rw [← hWB, ← hqa]; exact cell_new _ _ _ _ _ rfl
      have sWB : Steps (fun _ => False) WA WB := by rw [← hWB]; exact Steps.alloc _ _ _
      clear hWB hqa
      refine hK _ _ (.inr (KeepCells.trans (by assumption) (KeepCells.of_steps sWB (fun _ _ h => h)))) (fun hS => ?_)
      replace hS := hS.resolve_left (by simp only [Bool.not_eq_true]; kernel_rfl)
      clear hK K
      clear hHeld
      have hHeld := hS
      clear hS
      try simp only [Act.put, List.setIfInBounds_toArray, List.set_cons_zero, List.set_cons_succ]
      refine wpAnyV_two 9 18 (by kernel_rfl) (by kernel_rfl) (by kernel_rfl) ?vc ?vd
      case vc =>
        intro o ho K hK
        simp only [List.getElem?_toArray, List.getElem?_cons_zero, List.getElem?_cons_succ, Option.some.injEq] at ho
        subst ho
        go_simp
        refine ⟨trivial, CallsIn.mono (callsIn_wide.2 (least_any lx n _ _ cqa)) ?_⟩
        rintro e W9 ⟨rfl, rfl⟩
        refine hK _ _ (.inr hHeld) (fun _ => ?_)
        clear hK K
        try simp only [Act.put, List.setIfInBounds_toArray, List.set_cons_zero, List.set_cons_succ]
        refine wpAnyV_one 18 (by kernel_rfl) (by kernel_rfl) ?_
        intro o ho K hK
        simp only [List.getElem?_toArray, List.getElem?_cons_zero, List.getElem?_cons_succ, Option.some.injEq] at ho
        subst ho
        go_simp
        obtain ⟨WC, hWC⟩ : ∃ WC, WB.alloc (.cells #[.int .i64 (-n)] 3) = WC := ⟨_, rfl⟩
        rw [hWC]
        obtain ⟨qb, hqb⟩ : ∃ qb, WB.heap.size = qb := ⟨_, rfl⟩
        rw [hqb]
        have cqb : WC.cell? ⟨qb, 0, none⟩ = some (.int .i64 (-n)) := by rw [← hWC, ← hqb]; exact cell_new _ _ _ _ _ rfl
        have sWC : Steps (fun _ => False) WB WC := by rw [← hWC]; exact Steps.alloc _ _ _
        clear hWC hqb
        refine hK _ _ (.inr (KeepCells.trans (by assumption) (KeepCells.of_steps sWC (fun _ _ h => h)))) (fun hS => ?_)
        replace hS := hS.resolve_left (by simp only [Bool.not_eq_true]; kernel_rfl)
        clear hK K
        clear hHeld
        have hHeld := hS
        clear hS
        try simp only [Act.put, List.setIfInBounds_toArray, List.set_cons_zero, List.set_cons_succ]
        refine wpAnyV_one 19 (by kernel_rfl) (by kernel_rfl) ?_
        intro o ho K hK
        simp only [List.getElem?_toArray, List.getElem?_cons_zero, List.getElem?_cons_succ, Option.some.injEq] at ho
        subst ho
        go_simp
        refine ⟨trivial, CallsIn.mono (callsIn_wide.2 (least_any (-hx') (-n) _ _ cqb)) ?_⟩
        rintro e W9 ⟨rfl, rfl⟩
        refine hK _ _ (.inr hHeld) (fun _ => ?_)
        clear hK K
        try simp only [Act.put, List.setIfInBounds_toArray, List.set_cons_zero, List.set_cons_succ]
        have hst : Steps (fun _ => False) wc WC := sA.trans (sWB.trans sWC (fun _ _ h => h)) (fun _ _ h => h)
        have hkk : KeepCells (fun _ => True) wc WC := KeepCells.of_steps hst (fun _ _ h => h)
        have d0 := hkk _ _ trivial h0
        have d1 := hkk _ _ trivial h1
        have hd := hE.steps hst (fun h => h)
        have e0 := hd.fz o
        have e1 := hd.fz (o + 1)
        refine wpAnyV_takeP 20 38 (v := ?_) (by kernel_rfl) (by kernel_rfl) (by kernel_rfl) (by kernel_rfl) (fun _ _ _ h => h) ?_ (by kernel_rfl) (by first | exact .inr hHeld | exact .inl (by kernel_rfl)) ?_
        rotate_left
        · intro oi hoi w; simp only [List.getElem?_toArray, List.getElem?_cons_zero, List.getElem?_cons_succ, Option.some.injEq] at hoi; subst hoi; go_simp; try with_reducible rfl
        simp only [Act.put, List.setIfInBounds_toArray, List.set_cons_zero, List.set_cons_succ]
        refine wpAnyV_takeP 21 39 (v := ?_) (by kernel_rfl) (by kernel_rfl) (by kernel_rfl) (by kernel_rfl) (fun _ _ _ h => h) ?_ (by kernel_rfl) (by first | exact .inr hHeld | exact .inl (by kernel_rfl)) ?_
        rotate_left
        · intro oi hoi w; simp only [List.getElem?_toArray, List.getElem?_cons_zero, List.getElem?_cons_succ, Option.some.injEq] at hoi; subst hoi; go_simp; try with_reducible rfl
        simp only [Act.put, List.setIfInBounds_toArray, List.set_cons_zero, List.set_cons_succ]
        refine wpAnyV_takeP 22 40 (v := ?_) (by kernel_rfl) (by kernel_rfl) (by kernel_rfl) (by kernel_rfl) (fun _ _ _ h => h) ?_ (by kernel_rfl) (by first | exact .inr hHeld | exact .inl (by kernel_rfl)) ?_
        rotate_left
        · intro oi hoi w; simp only [List.getElem?_toArray, List.getElem?_cons_zero, List.getElem?_cons_succ, Option.some.injEq] at hoi; subst hoi; go_simp; try with_reducible rfl
        simp only [Act.put, List.setIfInBounds_toArray, List.set_cons_zero, List.set_cons_succ]
        refine wpAnyV_takeP 23 41 (v := ?_) (by kernel_rfl) (by kernel_rfl) (by kernel_rfl) (by kernel_rfl) (fun _ _ _ h => h) ?_ (by kernel_rfl) (by first | exact .inr hHeld | exact .inl (by kernel_rfl)) ?_
        rotate_left
        · intro oi hoi w; simp only [List.getElem?_toArray, List.getElem?_cons_zero, List.getElem?_cons_succ, Option.some.injEq] at hoi; subst hoi; go_simp; try with_reducible rfl
        simp only [Act.put, List.setIfInBounds_toArray, List.set_cons_zero, List.set_cons_succ]
        clear hkk k0 k1
        refine wpAnyV_one 24 (by kernel_rfl) (by kernel_rfl) ?_
        intro o ho K hK
        simp only [List.getElem?_toArray, List.getElem?_cons_zero, List.getElem?_cons_succ, Option.some.injEq] at ho
        subst ho
        go_simp
        refine hK _ _ (.inl (by kernel_rfl)) (fun _ => ?_)
        clear hK K
        try simp only [Act.put, List.setIfInBounds_toArray, List.set_cons_zero, List.set_cons_succ]
        refine wpAnyV_takeP 25 42 (v := ?_) (by kernel_rfl) (by kernel_rfl) (by kernel_rfl) (by kernel_rfl) (fun _ _ _ h => h) ?_ (by kernel_rfl) (by first | exact .inr hHeld | exact .inl (by kernel_rfl)) ?_
        rotate_left
        · intro oi hoi w; simp only [List.getElem?_toArray, List.getElem?_cons_zero, List.getElem?_cons_succ, Option.some.injEq] at hoi; subst hoi; go_simp; try with_reducible rfl
        simp only [Act.put, List.setIfInBounds_toArray, List.set_cons_zero, List.set_cons_succ]
        refine wpAnyV_takeP 26 43 (v := ?_) (by kernel_rfl) (by kernel_rfl) (by kernel_rfl) (by kernel_rfl) (fun _ _ _ h => h) ?_ (by kernel_rfl) (by first | exact .inr hHeld | exact .inl (by kernel_rfl)) ?_
        rotate_left
        · intro oi hoi w; simp only [List.getElem?_toArray, List.getElem?_cons_zero, List.getElem?_cons_succ, Option.some.injEq] at hoi; subst hoi; go_simp; try with_reducible rfl
        simp only [Act.put, List.setIfInBounds_toArray, List.set_cons_zero, List.set_cons_succ]
        refine wpAnyV_takeP 27 44 (v := ?_) (by kernel_rfl) (by kernel_rfl) (by kernel_rfl) (by kernel_rfl) (fun _ _ _ h => h) ?_ (by kernel_rfl) (by first | exact .inr hHeld | exact .inl (by kernel_rfl)) ?_
        rotate_left
        · intro oi hoi w; simp only [List.getElem?_toArray, List.getElem?_cons_zero, List.getElem?_cons_succ, Option.some.injEq] at hoi; subst hoi; go_simp; try with_reducible rfl
        simp only [Act.put, List.setIfInBounds_toArray, List.set_cons_zero, List.set_cons_succ]
        refine wpAnyV_one 28 (by kernel_rfl) (by kernel_rfl) ?_
        intro o ho K hK
        simp only [List.getElem?_toArray, List.getElem?_cons_zero, List.getElem?_cons_succ, Option.some.injEq] at ho
        subst ho
        go_simp
        refine hK _ _ (.inl (by kernel_rfl)) (fun _ => ?_)
        clear hK K
        try simp only [Act.put, List.setIfInBounds_toArray, List.set_cons_zero, List.set_cons_succ]
        refine wpAnyV_done (by kernel_rfl) ?_ _
        go_wp2_with fail
        go_end0
        exact HPP.out WC _ hst hgc hd (wrap_near _ (by omega))
      case vd =>
        intro o ho K hK
        simp only [List.getElem?_toArray, List.getElem?_cons_zero, List.getElem?_cons_succ, Option.some.injEq] at ho
        subst ho
        go_simp
        obtain ⟨WC, hWC⟩ : ∃ WC, WB.alloc (.cells #[.int .i64 (-n)] 3) = WC := ⟨_, rfl⟩
        rw [hWC]
        obtain ⟨qb, hqb⟩ : ∃ qb, WB.heap.size = qb := ⟨_, rfl⟩
        rw [hqb]
        have cqb : WC.cell? ⟨qb, 0, none⟩ = some (.int .i64 (-n)) := by rw [← hWC, ← hqb]; exact cell_new _ _ _ _ _ rfl
        have sWC : Steps (fun _ => False) WB WC := by rw [← hWC]; exact Steps.alloc _ _ _
        clear hWC hqb
        refine hK _ _ (.inr (KeepCells.trans (by assumption) (KeepCells.of_steps sWC (fun _ _ h => h)))) (fun hS => ?_)
        replace hS := hS.resolve_left (by simp only [Bool.not_eq_true]; kernel_rfl)
        clear hK K
        clear hHeld
        have hHeld := hS
        clear hS
        try simp only [Act.put, List.setIfInBounds_toArray, List.set_cons_zero, List.set_cons_succ]
        replace cqa := KeepCells.of_steps (bs := fun _ => True) sWC (fun _ _ h => h) _ _ trivial cqa
        refine wpAnyV_one 9 (by kernel_rfl) (by kernel_rfl) ?_
        intro o ho K hK
        simp only [List.getElem?_toArray, List.getElem?_cons_zero, List.getElem?_cons_succ, Option.some.injEq] at ho
        subst ho
        go_simp
        refine ⟨trivial, CallsIn.mono (callsIn_wide.2 (least_any lx n _ _ cqa)) ?_⟩
        rintro e W9 ⟨rfl, rfl⟩
        refine hK _ _ (.inr hHeld) (fun _ => ?_)
        clear hK K
        try simp only [Act.put, List.setIfInBounds_toArray, List.set_cons_zero, List.set_cons_succ]
        refine wpAnyV_one 19 (by kernel_rfl) (by kernel_rfl) ?_
        intro o ho K hK
        simp only [List.getElem?_toArray, List.getElem?_cons_zero, List.getElem?_cons_succ, Option.some.injEq] at ho
        subst ho
        go_simp
        refine ⟨trivial, CallsIn.mono (callsIn_wide.2 (least_any (-hx') (-n) _ _ cqb)) ?_⟩
        rintro e W9 ⟨rfl, rfl⟩
        refine hK _ _ (.inr hHeld) (fun _ => ?_)
        clear hK K
        try simp only [Act.put, List.setIfInBounds_toArray, List.set_cons_zero, List.set_cons_succ]
        have hst : Steps (fun _ => False) wc WC := sA.trans (sWB.trans sWC (fun _ _ h => h)) (fun _ _ h => h)
        have hkk : KeepCells (fun _ => True) wc WC := KeepCells.of_steps hst (fun _ _ h => h)
        have d0 := hkk _ _ trivial h0
        have d1 := hkk _ _ trivial h1
        have hd := hE.steps hst (fun h => h)
        have e0 := hd.fz o
        have e1 := hd.fz (o + 1)
        refine wpAnyV_takeP 20 38 (v := ?_) (by kernel_rfl) (by kernel_rfl) (by kernel_rfl) (by kernel_rfl) (fun _ _ _ h => h) ?_ (by kernel_rfl) (by first | exact .inr hHeld | exact .inl (by kernel_rfl)) ?_
        rotate_left
        · intro oi hoi w; simp only [List.getElem?_toArray, List.getElem?_cons_zero, List.getElem?_cons_succ, Option.some.injEq] at hoi; subst hoi; go_simp; try with_reducible rfl
        simp only [Act.put, List.setIfInBounds_toArray, List.set_cons_zero, List.set_cons_succ]
        refine wpAnyV_takeP 21 39 (v := ?_) (by kernel_rfl) (by kernel_rfl) (by kernel_rfl) (by kernel_rfl) (fun _ _ _ h => h) ?_ (by kernel_rfl) (by first | exact .inr hHeld | exact .inl (by kernel_rfl)) ?_
        rotate_left
        · intro oi hoi w; simp only [List.getElem?_toArray, List.getElem?_cons_zero, List.getElem?_cons_succ, Option.some.injEq] at hoi; subst hoi; go_simp; try with_reducible rfl
        simp only [Act.put, List.setIfInBounds_toArray, List.set_cons_zero, List.set_cons_succ]
        refine wpAnyV_takeP 22 40 (v := ?_) (by kernel_rfl) (by kernel_rfl) (by kernel_rfl) (by kernel_rfl) (fun _ _ _ h => h) ?_ (by kernel_rfl) (by first | exact .inr hHeld | exact .inl (by kernel_rfl)) ?_
        rotate_left
        · intro oi hoi w; simp only [List.getElem?_toArray, List.getElem?_cons_zero, List.getElem?_cons_succ, Option.some.injEq] at hoi; subst hoi; go_simp; try with_reducible rfl
        simp only [Act.put, List.setIfInBounds_toArray, List.set_cons_zero, List.set_cons_succ]
        refine wpAnyV_takeP 23 41 (v := ?_) (by kernel_rfl) (by kernel_rfl) (by kernel_rfl) (by kernel_rfl) (fun _ _ _ h => h) ?_ (by kernel_rfl) (by first | exact .inr hHeld | exact .inl (by kernel_rfl)) ?_
        rotate_left
        · intro oi hoi w; simp only [List.getElem?_toArray, List.getElem?_cons_zero, List.getElem?_cons_succ, Option.some.injEq] at hoi; subst hoi; go_simp; try with_reducible rfl
        simp only [Act.put, List.setIfInBounds_toArray, List.set_cons_zero, List.set_cons_succ]
        clear hkk k0 k1
        refine wpAnyV_one 24 (by kernel_rfl) (by kernel_rfl) ?_
        intro o ho K hK
        simp only [List.getElem?_toArray, List.getElem?_cons_zero, List.getElem?_cons_succ, Option.some.injEq] at ho
        subst ho
        go_simp
        refine hK _ _ (.inl (by kernel_rfl)) (fun _ => ?_)
        clear hK K
        try simp only [Act.put, List.setIfInBounds_toArray, List.set_cons_zero, List.set_cons_succ]
        refine wpAnyV_takeP 25 42 (v := ?_) (by kernel_rfl) (by kernel_rfl) (by kernel_rfl) (by kernel_rfl) (fun _ _ _ h => h) ?_ (by kernel_rfl) (by first | exact .inr hHeld | exact .inl (by kernel_rfl)) ?_
        rotate_left
        · intro oi hoi w; simp only [List.getElem?_toArray, List.getElem?_cons_zero, List.getElem?_cons_succ, Option.some.injEq] at hoi; subst hoi; go_simp; try with_reducible rfl
        simp only [Act.put, List.setIfInBounds_toArray, List.set_cons_zero, List.set_cons_succ]
        refine wpAnyV_takeP 26 43 (v := ?_) (by kernel_rfl) (by kernel_rfl) (by kernel_rfl) (by kernel_rfl) (fun _ _ _ h => h) ?_ (by kernel_rfl) (by first | exact .inr hHeld | exact .inl (by kernel_rfl)) ?_
        rotate_left
        · intro oi hoi w; simp only [List.getElem?_toArray, List.getElem?_cons_zero, List.getElem?_cons_succ, Option.some.injEq] at hoi; subst hoi; go_simp; try with_reducible rfl
        simp only [Act.put, List.setIfInBounds_toArray, List.set_cons_zero, List.set_cons_succ]
        refine wpAnyV_takeP 27 44 (v := ?_) (by kernel_rfl) (by kernel_rfl) (by kernel_rfl) (by kernel_rfl) (fun _ _ _ h => h) ?_ (by kernel_rfl) (by first | exact .inr hHeld | exact .inl (by kernel_rfl)) ?_
        rotate_left
        · intro oi hoi w; simp only [List.getElem?_toArray, List.getElem?_cons_zero, List.getElem?_cons_succ, Option.some.injEq] at hoi; subst hoi; go_simp; try with_reducible rfl
        simp only [Act.put, List.setIfInBounds_toArray, List.set_cons_zero, List.set_cons_succ]
        refine wpAnyV_one 28 (by kernel_rfl) (by kernel_rfl) ?_
        intro o ho K hK
        simp only [List.getElem?_toArray, List.getElem?_cons_zero, List.getElem?_cons_succ, Option.some.injEq] at ho
        subst ho
        go_simp
        refine hK _ _ (.inl (by kernel_rfl)) (fun _ => ?_)
        clear hK K
        try simp only [Act.put, List.setIfInBounds_toArray, List.set_cons_zero, List.set_cons_succ]
        refine wpAnyV_done (by kernel_rfl) ?_ _
        go_wp2_with fail
        go_end0
        exact HPP.out WC _ hst hgc hd (wrap_near _ (by omega))
    case vb =>
      intro o ho K hK
      simp only [List.getElem?_toArray, List.getElem?_cons_zero, List.getElem?_cons_succ, Option.some.injEq] at ho
      subst ho
      go_simp
      obtain ⟨WB, hWB⟩ : ∃ WB, WA.alloc (.cells #[.int .i64 (-n)] 3) = WB := ⟨_, rfl⟩
      rw [hWB]
      obtain ⟨qb, hqb⟩ : ∃ qb, WA.heap.size = qb := ⟨_, rfl⟩
      rw [hqb]
      have cqb : WB.cell? ⟨qb, 0, none⟩ = some (.int .i64 (-n)) := by rw [← hWB, ← hqb]; exact cell_new _ _ _ _ _ rfl
      have sWB : Steps (fun _ => False) WA WB := by rw [← hWB]; exact Steps.alloc _ _ _
      clear hWB hqb
      refine hK _ _ (.inr (KeepCells.trans (by assumption) (KeepCells.of_steps sWB (fun _ _ h => h)))) (fun hS => ?_)
      replace hS := hS.resolve_left (by simp only [Bool.not_eq_true]; kernel_rfl)
      clear hK K
      clear hHeld
      have hHeld := hS
      clear hS
      try simp only [Act.put, List.setIfInBounds_toArray, List.set_cons_zero, List.set_cons_succ]
      refine wpAnyV_one 8 (by kernel_rfl) (by kernel_rfl) ?_
      intro o ho K hK
      simp only [List.getElem?_toArray, List.getElem?_cons_zero, List.getElem?_cons_succ, Option.some.injEq] at ho
      subst ho
      go_simp
      obtain ⟨WC, hWC⟩ : ∃ WC, WB.alloc (.cells #[.int .i64 n] 3) = WC := ⟨_, rfl⟩
      rw [hWC]
      obtain ⟨qa, hqa⟩ : ∃ qa, WB.heap.size = qa := ⟨_, rfl⟩
      rw [hqa]
      have cqa : WC.cell? ⟨qa, 0, none⟩ = some (.int .i64 n) := by rw [← hWC, ← hqa]; exact cell_new _ _ _ _ _ rfl
      have sWC : Steps (fun _ => False) WB WC := by rw [← hWC]; exact Steps.alloc _ _ _
      clear hWC hqa
      refine hK _ _ (.inr (KeepCells.trans (by assumption) (KeepCells.of_steps sWC (fun _ _ h => h)))) (fun hS => ?_)
      replace hS := hS.resolve_left (by simp only [Bool.not_eq_true]; kernel_rfl)
      clear hK K
      clear hHeld
      have hHeld := hS
      clear hS
      try simp only [Act.put, List.setIfInBounds_toArray, List.set_cons_zero, List.set_cons_succ]
      replace cqb := KeepCells.of_steps (bs := fun _ => True) sWC (fun _ _ h => h) _ _ trivial cqb
      refine wpAnyV_one 9 (by kernel_rfl) (by kernel_rfl) ?_
      intro o ho K hK
      simp only [List.getElem?_toArray, List.getElem?_cons_zero, List.getElem?_cons_succ, Option.some.injEq] at ho
      subst ho
      go_simp
      refine ⟨trivial, CallsIn.mono (callsIn_wide.2 (least_any lx n _ _ cqa)) ?_⟩
      rintro e W9 ⟨rfl, rfl⟩
      refine hK _ _ (.inr hHeld) (fun _ => ?_)
      clear hK K
      try simp only [Act.put, List.setIfInBounds_toArray, List.set_cons_zero, List.set_cons_succ]
      refine wpAnyV_one 19 (by kernel_rfl) (by kernel_rfl) ?_
      intro o ho K hK
      simp only [List.getElem?_toArray, List.getElem?_cons_zero, List.getElem?_cons_succ, Option.some.injEq] at ho
      subst ho
      go_simp
      refine ⟨trivial, CallsIn.mono (callsIn_wide.2 (least_any (-hx') (-n) _ _ cqb)) ?_⟩
      rintro e W9 ⟨rfl, rfl⟩
      refine hK _ _ (.inr hHeld) (fun _ => ?_)
      clear hK K
      try simp only [Act.put, List.setIfInBounds_toArray, List.set_cons_zero, List.set_cons_succ]
      have hst : Steps (fun _ => False) wc WC := sA.trans (sWB.trans sWC (fun _ _ h => h)) (fun _ _ h => h)
      have hkk : KeepCells (fun _ => True) wc WC := KeepCells.of_steps hst (fun _ _ h => h)
      have d0 := hkk _ _ trivial h0
      have d1 := hkk _ _ trivial h1
      have hd := hE.steps hst (fun h => h)
      have e0 := hd.fz o
      have e1 := hd.fz (o + 1)
      refine wpAnyV_takeP 20 38 (v := ?_) (by kernel_rfl) (by kernel_rfl) (by kernel_rfl) (by kernel_rfl) (fun _ _ _ h => h) ?_ (by kernel_rfl) (by first | exact .inr hHeld | exact .inl (by kernel_rfl)) ?_
      rotate_left
      · intro oi hoi w; simp only [List.getElem?_toArray, List.getElem?_cons_zero, List.getElem?_cons_succ, Option.some.injEq] at hoi; subst hoi; go_simp; try with_reducible rfl
      simp only [Act.put, List.setIfInBounds_toArray, List.set_cons_zero, List.set_cons_succ]
      refine wpAnyV_takeP 21 39 (v := ?_) (by kernel_rfl) (by kernel_rfl) (by kernel_rfl) (by kernel_rfl) (fun _ _ _ h => h) ?_ (by kernel_rfl) (by first | exact .inr hHeld | exact .inl (by kernel_rfl)) ?_
      rotate_left
      · intro oi hoi w; simp only [List.getElem?_toArray, List.getElem?_cons_zero, List.getElem?_cons_succ, Option.some.injEq] at hoi; subst hoi; go_simp; try with_reducible rfl
      simp only [Act.put, List.setIfInBounds_toArray, List.set_cons_zero, List.set_cons_succ]
      refine wpAnyV_takeP 22 40 (v := ?_) (by kernel_rfl) (by kernel_rfl) (by kernel_rfl) (by kernel_rfl) (fun _ _ _ h => h) ?_ (by kernel_rfl) (by first | exact .inr hHeld | exact .inl (by kernel_rfl)) ?_
      rotate_left
      · intro oi hoi w; simp only [List.getElem?_toArray, List.getElem?_cons_zero, List.getElem?_cons_succ, Option.some.injEq] at hoi; subst hoi; go_simp; try with_reducible rfl
      simp only [Act.put, List.setIfInBounds_toArray, List.set_cons_zero, List.set_cons_succ]
      refine wpAnyV_takeP 23 41 (v := ?_) (by kernel_rfl) (by kernel_rfl) (by kernel_rfl) (by kernel_rfl) (fun _ _ _ h => h) ?_ (by kernel_rfl) (by first | exact .inr hHeld | exact .inl (by kernel_rfl)) ?_
      rotate_left
      · intro oi hoi w; simp only [List.getElem?_toArray, List.getElem?_cons_zero, List.getElem?_cons_succ, Option.some.injEq] at hoi; subst hoi; go_simp; try with_reducible rfl
      simp only [Act.put, List.setIfInBounds_toArray, List.set_cons_zero, List.set_cons_succ]
      clear hkk k0 k1
      refine wpAnyV_one 24 (by kernel_rfl) (by kernel_rfl) ?_
      intro o ho K hK
      simp only [List.getElem?_toArray, List.getElem?_cons_zero, List.getElem?_cons_succ, Option.some.injEq] at ho
      subst ho
      go_simp
      refine hK _ _ (.inl (by kernel_rfl)) (fun _ => ?_)
      clear hK K
      try simp only [Act.put, List.setIfInBounds_toArray, List.set_cons_zero, List.set_cons_succ]
      refine wpAnyV_takeP 25 42 (v := ?_) (by kernel_rfl) (by kernel_rfl) (by kernel_rfl) (by kernel_rfl) (fun _ _ _ h => h) ?_ (by kernel_rfl) (by first | exact .inr hHeld | exact .inl (by kernel_rfl)) ?_
      rotate_left
      · intro oi hoi w; simp only [List.getElem?_toArray, List.getElem?_cons_zero, List.getElem?_cons_succ, Option.some.injEq] at hoi; subst hoi; go_simp; try with_reducible rfl
      simp only [Act.put, List.setIfInBounds_toArray, List.set_cons_zero, List.set_cons_succ]
      refine wpAnyV_takeP 26 43 (v := ?_) (by kernel_rfl) (by kernel_rfl) (by kernel_rfl) (by kernel_rfl) (fun _ _ _ h => h) ?_ (by kernel_rfl) (by first | exact .inr hHeld | exact .inl (by kernel_rfl)) ?_
      rotate_left
      · intro oi hoi w; simp only [List.getElem?_toArray, List.getElem?_cons_zero, List.getElem?_cons_succ, Option.some.injEq] at hoi; subst hoi; go_simp; try with_reducible rfl
      simp only [Act.put, List.setIfInBounds_toArray, List.set_cons_zero, List.set_cons_succ]
      refine wpAnyV_takeP 27 44 (v := ?_) (by kernel_rfl) (by kernel_rfl) (by kernel_rfl) (by kernel_rfl) (fun _ _ _ h => h) ?_ (by kernel_rfl) (by first | exact .inr hHeld | exact .inl (by kernel_rfl)) ?_
      rotate_left
      · intro oi hoi w; simp only [List.getElem?_toArray, List.getElem?_cons_zero, List.getElem?_cons_succ, Option.some.injEq] at hoi; subst hoi; go_simp; try with_reducible rfl
      simp only [Act.put, List.setIfInBounds_toArray, List.set_cons_zero, List.set_cons_succ]
      refine wpAnyV_one 28 (by kernel_rfl) (by kernel_rfl) ?_
      intro o ho K hK
      simp only [List.getElem?_toArray, List.getElem?_cons_zero, List.getElem?_cons_succ, Option.some.injEq] at ho
      subst ho
      go_simp
      refine hK _ _ (.inl (by kernel_rfl)) (fun _ => ?_)
      clear hK K
      try simp only [Act.put, List.setIfInBounds_toArray, List.set_cons_zero, List.set_cons_succ]
      refine wpAnyV_done (by kernel_rfl) ?_ _
      go_wp2_with fail
      go_end0
      exact HPP.out WC _ hst hgc hd (wrap_near _ (by omega))
end Go.Proofs.Ytjkegmjjhdmkiaa
namespace Go.Proofs.Ytjkegmjjhdmkiaa
open Go.RowKit Go.Shelf
set_option maxHeartbeats 1600000
set_option maxRecDepth 100000
set_option linter.unusedSimpArgs false

structure Ends where
  lo : Int
  hi : Int
  some : Bool
def Ends.put (e : Ends) (n : Int) : Ends := ⟨if e.some then min e.lo n else n, if e.some then max e.hi n else n, true⟩
def endsOf (l : List Int) : Ends := l.foldl Ends.put ⟨0, 0, false⟩
theorem endsOf_snoc (l : List Int) (n : Int) : endsOf (l ++ [n]) = (endsOf l).put n := by simp [endsOf]
theorem ends_near (l : List Int) : ∀ e : Ends, (-100 ≤ e.lo ∧ e.lo ≤ 100) ∧ (-100 ≤ e.hi ∧ e.hi ≤ 100) → (∀ n ∈ l, -100 ≤ n ∧ n ≤ 100) →
    (-100 ≤ (l.foldl Ends.put e).lo ∧ (l.foldl Ends.put e).lo ≤ 100) ∧ (-100 ≤ (l.foldl Ends.put e).hi ∧ (l.foldl Ends.put e).hi ≤ 100) := by
  induction l with
  | nil => exact fun e he _ => he
  | cons n l ih =>
    intro e he h
    have hn := h n (by simp)
    refine ih (e.put n) ?_ (fun m hm => h m (by simp [hm]))
    unfold Ends.put
    cases e.some <;> simp <;> omega
theorem endsOf_near (l : List Int) (h : ∀ n ∈ l, -100 ≤ n ∧ n ≤ 100) : (-100 ≤ (endsOf l).lo ∧ (endsOf l).lo ≤ 100) ∧ (-100 ≤ (endsOf l).hi ∧ (endsOf l).hi ≤ 100) :=
  ends_near l _ (by simp) h

/-- What 'reach' holds. -/
structure ReachA (g : Nat) (b : Bo) (own : Nat → Prop) (pre : List Joined) (W : World) : Prop where
  o : ¬ own g
  e : EndsAt W g 0 (endsOf (pre.map (·.1.1))).lo (endsOf (pre.map (·.1.1))).hi (endsOf (pre.map (·.1.1))).some
  n : EndsAt W g 3 (endsOf (pre.map (·.1.2))).lo (endsOf (pre.map (·.1.2))).hi (endsOf (pre.map (·.1.2))).some
  s : ∀ z ∈ pre, z.1 ∈ shiftsOf b

theorem EndsAt.lt {w : World} {b o : Nat} {lo hi : Int} {q : Bool} (h : EndsAt w b o lo hi q) : b < w.heap.size := World.block_lt_of_cell? w _ h.lo

theorem near_of {b : Bo} (hok : b.ok = true) {pre : List Joined} (h : ∀ z ∈ pre, z.1 ∈ shiftsOf b) : (∀ n ∈ pre.map (·.1.1), -100 ≤ n ∧ n ≤ 100) ∧ (∀ n ∈ pre.map (·.1.2), -100 ≤ n ∧ n ≤ 100) := by
  constructor <;>
  · intro n hn
    obtain ⟨z, hz, rfl⟩ := List.mem_map.1 hn
    have := shift_bd hok (shifts_mem (h z hz))
    omega

theorem reach_adder (N g r : Nat) (b : Bo) (f s : Nat) (hok : b.ok = true) (hgr : g ≠ r) : Adder 110 g r b f s N (ReachA g b) where
  bides := by
    rintro own own' pre A C ⟨h1, h2, h3, h4⟩ hs ho
    exact ⟨fun h => by rcases ho g h with h | h; exact h1 h; have := h2.lt; omega, h2.steps hs h1, h3.steps hs h1, h4⟩
  known := by
    rintro own pre A C ⟨h1, h2, h3, h4⟩ hs
    exact ⟨h1, h2.steps hs hgr, h3.steps hs hgr, h4⟩
  add := by
    rintro own pre z x q cap W ⟨h1, h2, h3, h4⟩ hz hx hqN hq hqg hqr hql hqi hown
    obtain ⟨hne, hnn⟩ := near_of hok h4
    obtain ⟨⟨e1, e2⟩, e3, e4⟩ := endsOf_near _ hne
    obtain ⟨⟨n1, n2⟩, n3, n4⟩ := endsOf_near _ hnn
    have hsh := shift_bd hok (shifts_mem hz)
    have hgW := h2.lt
    unfold shV
    go_enter Try.func110, Try.ntmps110
    go_upto_region 1 with fail
    obtain ⟨W1, hW1⟩ : ∃ W1, W.alloc (.cells #[.int .i64 z.1, .int .i64 z.2] 72) = W1 := ⟨_, rfl⟩
    rw [hW1]
    have hs1 : Steps (fun _ => False) W W1 := by rw [← hW1]; exact Steps.alloc _ _ _
    have b1 : W1.heap[W.heap.size]? = some (.cells #[.int .i64 z.1, .int .i64 z.2] 72) := by rw [← hW1]; exact obj_new _ _
    clear hW1
    have c0 := cell_block b1 0
    have c1 := cell_block b1 1
    simp only [List.getElem?_toArray, List.getElem?_cons_zero, List.getElem?_cons_succ] at c0 c1
    have k0 : ∀ W', KeepCells (fun k => k = W.heap.size) W1 W' → W'.cell? ⟨W.heap.size, 0, none⟩ = some (.int .i64 z.1) := fun W' h => h ⟨W.heap.size, 0, none⟩ _ rfl c0
    have k1 : ∀ W', KeepCells (fun k => k = W.heap.size) W1 W' → W'.cell? ⟨W.heap.size, 1, none⟩ = some (.int .i64 z.2) := fun W' h => h ⟨W.heap.size, 1, none⟩ _ rfl c1
    refine (wpIn_wide (n := 1)).1 ?_
    refine wpIn_region_W (S := fun W' => KeepCells (fun k => k = W.heap.size) W1 W') 6 (by kernel_rfl) (by kernel_rfl) (fun a v _ h => h) (fun hHeld => ?_)
    refine wpAnyW_takeD 0 6 (v := ?_) (by kernel_rfl) (by kernel_rfl) (by kernel_rfl) (by kernel_rfl) (fun _ _ _ h => h) ?_ (by assumption) ?_
    rotate_left
    · intro oi hoi w hSw; (try dsimp only at hSw); simp only [List.getElem?_toArray, List.getElem?_cons_zero, List.getElem?_cons_succ, Option.some.injEq] at hoi; subst hoi; go_simp; try with_reducible rfl
    simp only [Act.put, List.setIfInBounds_toArray, List.set_cons_zero, List.set_cons_succ]
    refine wpAnyW_takeD 1 7 (v := ?_) (by kernel_rfl) (by kernel_rfl) (by kernel_rfl) (by kernel_rfl) (fun _ _ _ h => h) ?_ (by assumption) ?_
    rotate_left
    · intro oi hoi w hSw; (try dsimp only at hSw); simp only [List.getElem?_toArray, List.getElem?_cons_zero, List.getElem?_cons_succ, Option.some.injEq] at hoi; subst hoi; go_simp; try with_reducible rfl
    simp only [Act.put, List.setIfInBounds_toArray, List.set_cons_zero, List.set_cons_succ]
    refine wpAnyW_takeD 2 8 (v := ?_) (by kernel_rfl) (by kernel_rfl) (by kernel_rfl) (by kernel_rfl) (fun _ _ _ h => h) ?_ (by assumption) ?_
    rotate_left
    · intro oi hoi w hSw; (try dsimp only at hSw); simp only [List.getElem?_toArray, List.getElem?_cons_zero, List.getElem?_cons_succ, Option.some.injEq] at hoi; subst hoi; go_simp; try with_reducible rfl
    simp only [Act.put, List.setIfInBounds_toArray, List.set_cons_zero, List.set_cons_succ]
    refine wpAnyW_takeD 3 9 (v := ?_) (by kernel_rfl) (by kernel_rfl) (by kernel_rfl) (by kernel_rfl) (fun _ _ _ h => h) ?_ (by assumption) ?_
    rotate_left
    · intro oi hoi w hSw; (try dsimp only at hSw); simp only [List.getElem?_toArray, List.getElem?_cons_zero, List.getElem?_cons_succ, Option.some.injEq] at hoi; subst hoi; go_simp; try with_reducible rfl
    simp only [Act.put, List.setIfInBounds_toArray, List.set_cons_zero, List.set_cons_succ]
    refine wpAnyW_takeD 4 10 (v := ?_) (by kernel_rfl) (by kernel_rfl) (by kernel_rfl) (by kernel_rfl) (fun _ _ _ h => h) ?_ (by assumption) ?_
    rotate_left
    · intro oi hoi w hSw; (try dsimp only at hSw); simp only [List.getElem?_toArray, List.getElem?_cons_zero, List.getElem?_cons_succ, Option.some.injEq] at hoi; subst hoi; go_simp; try with_reducible rfl
    simp only [Act.put, List.setIfInBounds_toArray, List.set_cons_zero, List.set_cons_succ]
    have hp := put_any g 0 _ _ z.1 _ W1.drew ((h2.steps hs1 (fun h => h)).steps (Steps.refl (fun _ => False) W1).drew (fun h => h)) (by omega) (by omega) (by omega)
    refine wpAnyW_one 5 (by kernel_rfl) (by kernel_rfl) ?_
    intro o ho K hK
    simp only [List.getElem?_toArray, List.getElem?_cons_zero, List.getElem?_cons_succ, Option.some.injEq] at ho
    subst ho
    go_simp
    refine ⟨trivial, CallsIn.mono (callsIn_wide.2 hp) ?_⟩
    rintro e W2 ⟨rfl, hs2, ho2, hE2⟩
    have hWg : ¬ W.heap.size = g := by omega
    have hgs : Steps (fun k => k = g) W W2 := (hs1.mono (own' := fun k => k = g) (fun _ _ h => h.elim)).trans ((Steps.refl (fun k => k = g) W1).drew.trans hs2 (fun _ _ h => h)) (fun _ _ h => h)
    have hk2 : KeepCells (fun k => k = W.heap.size) W1 W2 := fun a v ha hv => KeepCells.of_steps (bs := fun k => k = W.heap.size) hs2 (fun k (hk : k = W.heap.size) (h : k = g) => hWg (hk.symm.trans h)) a v ha hv
    refine hK _ _ hk2 (fun _ => ?_)
    clear hK K
    try simp only [Act.put, List.setIfInBounds_toArray, List.set_cons_zero, List.set_cons_succ]
    refine wpAnyW_done (by kernel_rfl) ?_ _
    have hN2 : EndsAt W2 g 3 (endsOf (pre.map (·.1.2))).lo (endsOf (pre.map (·.1.2))).hi (endsOf (pre.map (·.1.2))).some := by
      have hN1 := h3.steps hs1 (fun h => h)
      exact ⟨(ho2 3 (by omega)).trans hN1.lo, (ho2 4 (by omega)).trans hN1.hi, (ho2 5 (by omega)).trans hN1.sm, hE2.fz⟩
    have d1 := hk2 ⟨W.heap.size, 1, none⟩ _ rfl c1
    clear k0 k1 hHeld
    go_upto_region 2 with fail
    have k1 : ∀ W', KeepCells (fun k => k = W.heap.size) W2 W' → W'.cell? ⟨W.heap.size, 1, none⟩ = some (.int .i64 z.2) := fun W' h => h ⟨W.heap.size, 1, none⟩ _ rfl d1
    refine (wpIn_wide (n := 1)).1 ?_
    refine wpIn_region_W (S := fun W' => KeepCells (fun k => k = W.heap.size) W2 W') 6 (by kernel_rfl) (by kernel_rfl) (fun a v _ h => h) (fun hHeld => ?_)
    refine wpAnyW_takeD 0 12 (v := ?_) (by kernel_rfl) (by kernel_rfl) (by kernel_rfl) (by kernel_rfl) (fun _ _ _ h => h) ?_ (by assumption) ?_
    rotate_left
    · intro oi hoi w hSw; (try dsimp only at hSw); simp only [List.getElem?_toArray, List.getElem?_cons_zero, List.getElem?_cons_succ, Option.some.injEq] at hoi; subst hoi; go_simp; try with_reducible rfl
    simp only [Act.put, List.setIfInBounds_toArray, List.set_cons_zero, List.set_cons_succ]
    refine wpAnyW_takeD 1 13 (v := ?_) (by kernel_rfl) (by kernel_rfl) (by kernel_rfl) (by kernel_rfl) (fun _ _ _ h => h) ?_ (by assumption) ?_
    rotate_left
    · intro oi hoi w hSw; (try dsimp only at hSw); simp only [List.getElem?_toArray, List.getElem?_cons_zero, List.getElem?_cons_succ, Option.some.injEq] at hoi; subst hoi; go_simp; try with_reducible rfl
    simp only [Act.put, List.setIfInBounds_toArray, List.set_cons_zero, List.set_cons_succ]
    refine wpAnyW_takeD 2 14 (v := ?_) (by kernel_rfl) (by kernel_rfl) (by kernel_rfl) (by kernel_rfl) (fun _ _ _ h => h) ?_ (by assumption) ?_
    rotate_left
    · intro oi hoi w hSw; (try dsimp only at hSw); simp only [List.getElem?_toArray, List.getElem?_cons_zero, List.getElem?_cons_succ, Option.some.injEq] at hoi; subst hoi; go_simp; try with_reducible rfl
    simp only [Act.put, List.setIfInBounds_toArray, List.set_cons_zero, List.set_cons_succ]
    refine wpAnyW_takeD 3 15 (v := ?_) (by kernel_rfl) (by kernel_rfl) (by kernel_rfl) (by kernel_rfl) (fun _ _ _ h => h) ?_ (by assumption) ?_
    rotate_left
    · intro oi hoi w hSw; (try dsimp only at hSw); simp only [List.getElem?_toArray, List.getElem?_cons_zero, List.getElem?_cons_succ, Option.some.injEq] at hoi; subst hoi; go_simp; try with_reducible rfl
    simp only [Act.put, List.setIfInBounds_toArray, List.set_cons_zero, List.set_cons_succ]
    refine wpAnyW_takeD 4 16 (v := ?_) (by kernel_rfl) (by kernel_rfl) (by kernel_rfl) (by kernel_rfl) (fun _ _ _ h => h) ?_ (by assumption) ?_
    rotate_left
    · intro oi hoi w hSw; (try dsimp only at hSw); simp only [List.getElem?_toArray, List.getElem?_cons_zero, List.getElem?_cons_succ, Option.some.injEq] at hoi; subst hoi; go_simp; try with_reducible rfl
    simp only [Act.put, List.setIfInBounds_toArray, List.set_cons_zero, List.set_cons_succ]
    have hp2 := put_any g 3 _ _ z.2 _ W2.drew (hN2.steps (Steps.refl (fun _ => False) W2).drew (fun h => h)) (by omega) (by omega) (by omega)
    refine wpAnyW_one 5 (by kernel_rfl) (by kernel_rfl) ?_
    intro o ho K hK
    simp only [List.getElem?_toArray, List.getElem?_cons_zero, List.getElem?_cons_succ, Option.some.injEq] at ho
    subst ho
    go_simp
    refine ⟨trivial, CallsIn.mono (callsIn_wide.2 hp2) ?_⟩
    rintro e W3 ⟨rfl, hs3, ho3, hE3⟩
    refine hK _ _ (fun a v ha hv => KeepCells.of_steps (bs := fun k => k = W.heap.size) hs3 (fun k (hk : k = W.heap.size) (h : k = g) => hWg (hk.symm.trans h)) a v ha hv) (fun _ => ?_)
    clear hK K
    try simp only [Act.put, List.setIfInBounds_toArray, List.set_cons_zero, List.set_cons_succ]
    refine wpAnyW_done (by kernel_rfl) ?_ _
    go_wp2_with fail
    go_end0
    refine ⟨rfl, hgs.trans ((Steps.refl (fun k => k = g) W2).drew.trans hs3 (fun _ _ h => h)) (fun _ _ h => h), h1, ?_, ?_, ?_⟩
    · rw [List.map_append, List.map_singleton, endsOf_snoc]
      exact ⟨(ho3 0 (by omega)).trans hE2.lo, (ho3 1 (by omega)).trans hE2.hi, (ho3 2 (by omega)).trans hE2.sm, hE3.fz⟩
    · rw [List.map_append, List.map_singleton, endsOf_snoc]
      exact hE3
    · intro y hy
      rcases List.mem_append.1 hy with h | h
      · exact h4 y h
      · rw [List.mem_singleton] at h; subst h; exact hz
end Go.Proofs.Ytjkegmjjhdmkiaa
