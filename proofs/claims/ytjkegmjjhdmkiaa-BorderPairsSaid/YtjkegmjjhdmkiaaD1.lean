/- Package border: the least and the greatest of some numbers. -/
import Derived.Test.YtjkegmjjhdmkiaaC8
import Derived.Test.YtjkegmjjhdmkiaaFence2
namespace Go.Proofs.Ytjkegmjjhdmkiaa
open Go.RowKit Go.Shelf
set_option maxHeartbeats 1600000
set_option maxRecDepth 100000
set_option linter.unusedSimpArgs false

theorem least_any (x n : Int) (q : Nat) (w : World) (h : w.cell? ⟨q, 0, none⟩ = some (.int .i64 n)) :
    Calls Try.prog 112 #[.int .i64 x, .slice (some ⟨q, 0, none⟩) 1 1] w fun e w' => e = .returned (.int .i64 (min x n)) ∧ w = w' := by
  go_enter Try.func112, Try.ntmps112
  go_wp2
  go_loopw [0, 6, 9] (fun s _ i wr => wr = w ∧ ∃ k : Nat, k ≤ 1 ∧ i = .int .i64 k ∧ s = .int .i64 (if k = 0 then x else min x n)) (fun _ _ i _ => 1 - (intOf i).toNat)
  case atStart => exact ⟨rfl, 0, Nat.zero_le _, rfl, rfl⟩
  case round =>
    obtain ⟨rfl, k, hk, rfl, rfl⟩ := hrel
    by_cases hlt : k = 0
    · subst hlt
      go_wp2
      all_goals
        go_roundw
        case rel => exact ⟨trivial, 1, by omega, by go_num, by simp <;> omega⟩
        case measure => simp [intOf]
    · obtain rfl : k = 1 := by omega
      go_wp2
      go_ret
      exact ⟨rfl, rfl⟩

/-- The numbers between which a number was put. -/
structure EndsAt (w : World) (b o : Nat) (lo hi : Int) (some' : Bool) : Prop where
  lo : w.cell? ⟨b, o, none⟩ = some (.int .i64 lo)
  hi : w.cell? ⟨b, o + 1, none⟩ = some (.int .i64 hi)
  sm : w.cell? ⟨b, o + 2, none⟩ = some (.bool some')
  fz : ∀ i, w.frozen? ⟨b, i, none⟩ = false

theorem EndsAt.steps {w w' : World} {own : Nat → Prop} {b o : Nat} {lo hi : Int} {q : Bool} (h : EndsAt w b o lo hi q) (hs : Steps own w w') (hn : ¬ own b) : EndsAt w' b o lo hi q := by
  have hb : b < w.heap.size := World.block_lt_of_cell? w _ h.lo
  have e := hs.block b hb hn
  exact ⟨(World.cell?_of_block e).trans h.lo, (World.cell?_of_block e).trans h.hi, (World.cell?_of_block e).trans h.sm, fun i => (World.frozen?_of_block e).trans (h.fz i)⟩

theorem wrap_near (x : Int) (h : -1000 ≤ x ∧ x ≤ 1000) : IntKind.i64.wrap x = x := by rw [IntKind.wrap_i64]; omega

theorem cell_set {w : World} {b o : Nat} {u : Value} (v : Value) (h : w.cell? ⟨b, o, none⟩ = some u) : (w.setCell ⟨b, o, none⟩ v).cell? ⟨b, o, none⟩ = some v := World.cell?_setCell_same' _ _ _ (by rw [h]; rfl)
theorem cell_far {w : World} {b o b' o' : Nat} {u v : Value} (h : w.cell? ⟨b, o, none⟩ = some u) (hne : b ≠ b' ∨ o ≠ o') : (w.setCell ⟨b', o', none⟩ v).cell? ⟨b, o, none⟩ = some u :=
  (World.cell?_setCell_other w ⟨b', o', none⟩ ⟨b, o, none⟩ v (fun e => by injection e with h1 h2; omega)).trans h

def PutPost (g o : Nat) (lo hi n : Int) (q : Bool) (w : World) (e : Ending) (w' : World) : Prop :=
  e = .returned (.tuple #[]) ∧ Steps (fun k => k = g) w w' ∧ (∀ o', (o' < o ∨ o + 2 < o') → w'.cell? ⟨g, o', none⟩ = w.cell? ⟨g, o', none⟩) ∧ EndsAt w' g o (if q then min lo n else n) (if q then max hi n else n) true

theorem put_post {g o : Nat} {lo hi n : Int} {q : Bool} {w wx W : World} {m : Int} (hx : Steps (fun k => k = g) w wx) (hox : ∀ o', (o' < o ∨ o + 2 < o') → wx.cell? ⟨g, o', none⟩ = w.cell? ⟨g, o', none⟩) (hst : Steps (fun _ => False) wx W) (hg : g < wx.heap.size)
    (h : EndsAt W g o (if q then lo else n) (if q then hi else n) true) (hm : m = max (if q then hi else n) n) :
    PutPost g o lo hi n q w (.returned (.tuple #[])) ((W.setCell ⟨g, o, none⟩ (.int .i64 (min (if q then lo else n) n))).setCell ⟨g, o + 1, none⟩ (.int .i64 m)) := by
  subst hm
  refine ⟨rfl, ?_, fun o' ho => ?_, ?_⟩
  · exact (hx.trans (hst.mono (own' := fun k => k = g) (fun _ _ h => h.elim)) (fun _ _ h => h)).trans ((Steps.setCell (own := fun k => k = g) W rfl _).trans (Steps.setCell (own := fun k => k = g) _ rfl _) (fun _ _ h => h)) (fun _ _ h => h)
  · rw [World.cell?_setCell_other _ ⟨g, o + 1, none⟩ ⟨g, o', none⟩ _ (fun e => by injection e; omega), World.cell?_setCell_other _ ⟨g, o, none⟩ ⟨g, o', none⟩ _ (fun e => by injection e; omega)]
    rw [World.cell?_of_block (w := wx) (hst.block g hg (fun h => h))]
    exact hox o' ho
  · refine ⟨?_, ?_, ?_, fun i => ?_⟩
    · have := cell_far (b' := g) (o' := o + 1) (v := .int .i64 (max (if q then hi else n) n)) (cell_set (.int .i64 (min (if q then lo else n) n)) h.lo) (.inr (by omega))
      rw [this]
      cases q <;> simp
    · have := cell_set (.int .i64 (max (if q then hi else n) n)) (cell_far (b' := g) (o' := o) (v := .int .i64 (min (if q then lo else n) n)) h.hi (.inr (by omega)))
      rw [this]
      cases q <;> simp
    · exact cell_far (cell_far h.sm (.inr (by omega))) (.inr (by omega))
    · rw [World.frozen?_setCell, World.frozen?_setCell]
      exact h.fz i

theorem put_any (g o : Nat) (lo hi n : Int) (q : Bool) (w : World) (h : EndsAt w g o lo hi q) (hn : -100 ≤ n ∧ n ≤ 100) (hl : -100 ≤ lo ∧ lo ≤ 100) (hh : -100 ≤ hi ∧ hi ≤ 100) :
    Calls Try.prog 111 #[.pointer (some ⟨g, o, none⟩), .int .i64 n] w (PutPost g o lo hi n q w) := by
  obtain ⟨n1, n2⟩ := hn
  obtain ⟨l1, l2⟩ := hl
  obtain ⟨i1, i2⟩ := hh
  have h0 := h.lo
  have h1 := h.hi
  have h2 := h.sm
  have f0 := h.fz o
  have f1 := h.fz (o + 1)
  have f2 := h.fz (o + 2)
  have hgw : g < w.heap.size := World.block_lt_of_cell? w _ h0
  go_enter Try.func111, Try.ntmps111
  go_upto_if 8 with fail
  go_cut [8] (fun _ wx => Steps (fun k => k = g) w wx ∧ (∀ o', (o' < o ∨ o + 2 < o') → wx.cell? ⟨g, o', none⟩ = w.cell? ⟨g, o', none⟩) ∧ EndsAt wx g o (if q then lo else n) (if q then hi else n) true)
  case first =>
    cases q with
    | true =>
      go_wp2_with fail
      go_meet
      exact ⟨Steps.refl _ _, fun _ _ => rfl, h⟩
    | false =>
      go_wp2_with fail
      go_meet
      refine ⟨(Steps.setCell (own := fun k => k = g) w rfl _).trans ((Steps.setCell (own := fun k => k = g) _ rfl _).trans (Steps.setCell (own := fun k => k = g) _ rfl _) (fun _ _ h => h)) (fun _ _ h => h), fun o' ho => ?_, ?_, ?_, ?_, fun i => ?_⟩
      · rw [World.cell?_setCell_other _ ⟨g, o + 2, none⟩ ⟨g, o', none⟩ _ (fun e => by injection e; omega), World.cell?_setCell_other _ ⟨g, o + 1, none⟩ ⟨g, o', none⟩ _ (fun e => by injection e; omega), World.cell?_setCell_other _ ⟨g, o, none⟩ ⟨g, o', none⟩ _ (fun e => by injection e; omega)]
      · exact cell_far (cell_far (cell_set _ h0) (.inr (by omega))) (.inr (by omega))
      · exact cell_far (cell_set _ (cell_far h1 (.inr (by omega)))) (.inr (by omega))
      · exact cell_set _ (cell_far (cell_far h2 (.inr (by omega))) (.inr (by omega)))
      · rw [World.frozen?_setCell, World.frozen?_setCell, World.frozen?_setCell]; exact h.fz i
  case rest =>
    obtain ⟨hx, hox, hE⟩ := hcut
    clear h0 h1 h2 f0 f1 f2 h
    have hb : (-100 ≤ (if q then lo else n) ∧ (if q then lo else n) ≤ 100) ∧ (-100 ≤ (if q then hi else n) ∧ (if q then hi else n) ≤ 100) := by cases q <;> simp <;> omega
    have hpp := fun (W : World) (m : Int) => put_post (g := g) (o := o) (lo := lo) (hi := hi) (n := n) (q := q) (w := w) (wx := wc) (W := W) (m := m) hx hox
    generalize (if q then lo else n) = lx at hE hb hpp
    generalize (if q then hi else n) = hx' at hE hb hpp
    obtain ⟨⟨l3, l4⟩, i3, i4⟩ := hb
    have HPP := Lib.hid hpp
    clear hpp
    have hgc : g < wc.heap.size := World.block_lt_of_cell? wc _ hE.lo
    have h0 := hE.lo
    have h1 := hE.hi
    have hn' := wrap_near (-n) (by omega)
    have hh' := wrap_near (-hx') (by omega)
    have hmm : IntKind.i64.wrap (-(min (-hx') (-n))) = max hx' n := by rw [wrap_near _ (by omega)]; omega
    have k0 : ∀ W', KeepCells (fun k => k = g) wc W' → W'.cell? ⟨g, o, none⟩ = some (.int .i64 lx) := fun W' h => h ⟨g, o, none⟩ _ rfl h0
    have k1 : ∀ W', KeepCells (fun k => k = g) wc W' → W'.cell? ⟨g, o + 1, none⟩ = some (.int .i64 hx') := fun W' h => h ⟨g, o + 1, none⟩ _ rfl h1
    go_upto_region 2 with fail
    refine (wpIn_wide (n := 1)).1 ?_
    refine wpIn_region_V (B := [24, 28]) (S := fun W' => KeepCells (fun k => k = g) wc W') 29 (by kernel_rfl) (by kernel_rfl) (fun a v _ h => h) (fun hHeld => ?_)
    have sA : Steps (fun _ => False) wc wc.drew := (Steps.refl _ wc).drew
    generalize wc.drew = WA at hHeld sA ⊢
    refine wpAnyV_takeP 0 18 (v := ?_) (by kernel_rfl) (by kernel_rfl) (by kernel_rfl) (by kernel_rfl) (fun _ _ _ h => h) ?_ (by kernel_rfl) (by first | exact .inr hHeld | exact .inl (by kernel_rfl)) ?_
    rotate_left
    · intro oi hoi w; simp only [List.getElem?_toArray, List.getElem?_cons_zero, List.getElem?_cons_succ, Option.some.injEq] at hoi; subst hoi; go_simp; try with_reducible rfl
    simp only [Act.put, List.setIfInBounds_toArray, List.set_cons_zero, List.set_cons_succ]
    refine wpAnyV_takeP 1 19 (v := ?_) (by kernel_rfl) (by kernel_rfl) (by kernel_rfl) (by kernel_rfl) (fun _ _ _ h => h) ?_ (by kernel_rfl) (by first | exact .inr hHeld | exact .inl (by kernel_rfl)) ?_
    rotate_left
    · intro oi hoi w; simp only [List.getElem?_toArray, List.getElem?_cons_zero, List.getElem?_cons_succ, Option.some.injEq] at hoi; subst hoi; go_simp; try with_reducible rfl
    simp only [Act.put, List.setIfInBounds_toArray, List.set_cons_zero, List.set_cons_succ]
    refine wpAnyV_takeP 2 20 (v := ?_) (by kernel_rfl) (by kernel_rfl) (by kernel_rfl) (by kernel_rfl) (fun _ _ _ h => h) ?_ (by kernel_rfl) (by first | exact .inr hHeld | exact .inl (by kernel_rfl)) ?_
    rotate_left
    · intro oi hoi w; simp only [List.getElem?_toArray, List.getElem?_cons_zero, List.getElem?_cons_succ, Option.some.injEq] at hoi; subst hoi; go_simp; try with_reducible rfl
    simp only [Act.put, List.setIfInBounds_toArray, List.set_cons_zero, List.set_cons_succ]
    refine wpAnyV_takeP 3 21 (v := ?_) (by kernel_rfl) (by kernel_rfl) (by kernel_rfl) (by kernel_rfl) (fun _ _ _ h => h) ?_ (by kernel_rfl) (by first | exact .inr hHeld | exact .inl (by kernel_rfl)) ?_
    rotate_left
    · intro oi hoi w; simp only [List.getElem?_toArray, List.getElem?_cons_zero, List.getElem?_cons_succ, Option.some.injEq] at hoi; subst hoi; go_simp; try with_reducible rfl
    simp only [Act.put, List.setIfInBounds_toArray, List.set_cons_zero, List.set_cons_succ]
    refine wpAnyV_takeP 4 22 (v := ?_) (by kernel_rfl) (by kernel_rfl) (by kernel_rfl) (by kernel_rfl) (fun _ _ _ h => h) ?_ (by kernel_rfl) (by first | exact .inr hHeld | exact .inl (by kernel_rfl)) ?_
    rotate_left
    · intro oi hoi w; simp only [List.getElem?_toArray, List.getElem?_cons_zero, List.getElem?_cons_succ, Option.some.injEq] at hoi; subst hoi; go_simp; try with_reducible rfl
    simp only [Act.put, List.setIfInBounds_toArray, List.set_cons_zero, List.set_cons_succ]
    refine wpAnyV_takeP 5 23 (v := ?_) (by kernel_rfl) (by kernel_rfl) (by kernel_rfl) (by kernel_rfl) (fun _ _ _ h => h) ?_ (by kernel_rfl) (by first | exact .inr hHeld | exact .inl (by kernel_rfl)) ?_
    rotate_left
    · intro oi hoi w; simp only [List.getElem?_toArray, List.getElem?_cons_zero, List.getElem?_cons_succ, Option.some.injEq] at hoi; subst hoi; go_simp; try with_reducible rfl
    simp only [Act.put, List.setIfInBounds_toArray, List.set_cons_zero, List.set_cons_succ]
    refine wpAnyV_takeD 6 24 (v := ?_) (by kernel_rfl) (by kernel_rfl) (by kernel_rfl) (by kernel_rfl) (fun _ _ _ h => h) (by kernel_rfl) ?_ (by assumption) ?_
    rotate_left
    · intro oi hoi w hSw; (try dsimp only at hSw); simp only [List.getElem?_toArray, List.getElem?_cons_zero, List.getElem?_cons_succ, Option.some.injEq] at hoi; subst hoi; go_simp; try with_reducible rfl
    simp only [Act.put, List.setIfInBounds_toArray, List.set_cons_zero, List.set_cons_succ]
    refine wpAnyV_takeP 7 25 (v := ?_) (by kernel_rfl) (by kernel_rfl) (by kernel_rfl) (by kernel_rfl) (fun _ _ _ h => h) ?_ (by kernel_rfl) (by first | exact .inr hHeld | exact .inl (by kernel_rfl)) ?_
    rotate_left
    · intro oi hoi w; simp only [List.getElem?_toArray, List.getElem?_cons_zero, List.getElem?_cons_succ, Option.some.injEq] at hoi; subst hoi; go_simp; try with_reducible rfl
    simp only [Act.put, List.setIfInBounds_toArray, List.set_cons_zero, List.set_cons_succ]
    refine wpAnyV_takeP 10 28 (v := ?_) (by kernel_rfl) (by kernel_rfl) (by kernel_rfl) (by kernel_rfl) (fun _ _ _ h => h) ?_ (by kernel_rfl) (by first | exact .inr hHeld | exact .inl (by kernel_rfl)) ?_
    rotate_left
    · intro oi hoi w; simp only [List.getElem?_toArray, List.getElem?_cons_zero, List.getElem?_cons_succ, Option.some.injEq] at hoi; subst hoi; go_simp; try with_reducible rfl
    simp only [Act.put, List.setIfInBounds_toArray, List.set_cons_zero, List.set_cons_succ]
    refine wpAnyV_takeP 11 29 (v := ?_) (by kernel_rfl) (by kernel_rfl) (by kernel_rfl) (by kernel_rfl) (fun _ _ _ h => h) ?_ (by kernel_rfl) (by first | exact .inr hHeld | exact .inl (by kernel_rfl)) ?_
    rotate_left
    · intro oi hoi w; simp only [List.getElem?_toArray, List.getElem?_cons_zero, List.getElem?_cons_succ, Option.some.injEq] at hoi; subst hoi; go_simp; try with_reducible rfl
    simp only [Act.put, List.setIfInBounds_toArray, List.set_cons_zero, List.set_cons_succ]
    refine wpAnyV_takeP 12 30 (v := ?_) (by kernel_rfl) (by kernel_rfl) (by kernel_rfl) (by kernel_rfl) (fun _ _ _ h => h) ?_ (by kernel_rfl) (by first | exact .inr hHeld | exact .inl (by kernel_rfl)) ?_
    rotate_left
    · intro oi hoi w; simp only [List.getElem?_toArray, List.getElem?_cons_zero, List.getElem?_cons_succ, Option.some.injEq] at hoi; subst hoi; go_simp; try with_reducible rfl
    simp only [Act.put, List.setIfInBounds_toArray, List.set_cons_zero, List.set_cons_succ]
    refine wpAnyV_takeP 13 31 (v := ?_) (by kernel_rfl) (by kernel_rfl) (by kernel_rfl) (by kernel_rfl) (fun _ _ _ h => h) ?_ (by kernel_rfl) (by first | exact .inr hHeld | exact .inl (by kernel_rfl)) ?_
    rotate_left
    · intro oi hoi w; simp only [List.getElem?_toArray, List.getElem?_cons_zero, List.getElem?_cons_succ, Option.some.injEq] at hoi; subst hoi; go_simp; try with_reducible rfl
    simp only [Act.put, List.setIfInBounds_toArray, List.set_cons_zero, List.set_cons_succ]
    refine wpAnyV_takeD 14 32 (v := ?_) (by kernel_rfl) (by kernel_rfl) (by kernel_rfl) (by kernel_rfl) (fun _ _ _ h => h) (by kernel_rfl) ?_ (by assumption) ?_
    rotate_left
    · intro oi hoi w hSw; (try dsimp only at hSw); simp only [List.getElem?_toArray, List.getElem?_cons_zero, List.getElem?_cons_succ, Option.some.injEq] at hoi; subst hoi; go_simp; try with_reducible rfl
    simp only [Act.put, List.setIfInBounds_toArray, List.set_cons_zero, List.set_cons_succ]
    refine wpAnyV_takeP 15 33 (v := ?_) (by kernel_rfl) (by kernel_rfl) (by kernel_rfl) (by kernel_rfl) (fun _ _ _ h => h) ?_ (by kernel_rfl) (by first | exact .inr hHeld | exact .inl (by kernel_rfl)) ?_
    rotate_left
    · intro oi hoi w; simp only [List.getElem?_toArray, List.getElem?_cons_zero, List.getElem?_cons_succ, Option.some.injEq] at hoi; subst hoi; go_simp; try with_reducible rfl
    simp only [Act.put, List.setIfInBounds_toArray, List.set_cons_zero, List.set_cons_succ]
    refine wpAnyV_takeP 16 34 (v := ?_) (by kernel_rfl) (by kernel_rfl) (by kernel_rfl) (by kernel_rfl) (fun _ _ _ h => h) ?_ (by kernel_rfl) (by first | exact .inr hHeld | exact .inl (by kernel_rfl)) ?_
    rotate_left
    · intro oi hoi w; simp only [List.getElem?_toArray, List.getElem?_cons_zero, List.getElem?_cons_succ, Option.some.injEq] at hoi; subst hoi; go_simp; try with_reducible rfl
    simp only [Act.put, List.setIfInBounds_toArray, List.set_cons_zero, List.set_cons_succ]
    refine wpAnyV_takeP 17 35 (v := ?_) (by kernel_rfl) (by kernel_rfl) (by kernel_rfl) (by kernel_rfl) (fun _ _ _ h => h) ?_ (by kernel_rfl) (by first | exact .inr hHeld | exact .inl (by kernel_rfl)) ?_
    rotate_left
    · intro oi hoi w; simp only [List.getElem?_toArray, List.getElem?_cons_zero, List.getElem?_cons_succ, Option.some.injEq] at hoi; subst hoi; go_simp; try with_reducible rfl
    simp only [Act.put, List.setIfInBounds_toArray, List.set_cons_zero, List.set_cons_succ]
    refine wpAnyV_two 8 18 (by kernel_rfl) (by kernel_rfl) (by kernel_rfl) ?va ?vb
    case va =>
      intro o ho K hK
      simp only [List.getElem?_toArray, List.getElem?_cons_zero, List.getElem?_cons_succ, Option.some.injEq] at ho
      subst ho
      go_simp
      obtain ⟨WB, hWB⟩ : ∃ WB, WA.alloc (.cells #[.int .i64 n] 3) = WB := ⟨_, rfl⟩
      rw [hWB]
      obtain ⟨qa, hqa⟩ : ∃ qa, WA.heap.size = qa := ⟨_, rfl⟩
      rw [hqa]
      have cqa : WB.cell? ⟨qa, 0, none⟩ = some (.int .i64 n) := by rw [← hWB, ← hqa]; exact cell_new _ _ _ _ _ rfl
      have sWB : Steps (fun _ => False) WA WB := by rw [← hWB]; exact Steps.alloc _ _ _
      clear hWB hqa
      refine hK _ _ (.inr (KeepCells.trans (by assumption) (KeepCells.of_steps sWB (fun _ _ h => h)))) (fun hS => ?_)
      replace hS := hS.resolve_left (by simp only [Bool.not_eq_true]; kernel_rfl)
      clear hK K
      clear hHeld
      have hHeld := hS
      clear hS
      try simp only [Act.put, List.setIfInBounds_toArray, List.set_cons_zero, List.set_cons_succ]
      refine wpAnyV_two 9 18 (by kernel_rfl) (by kernel_rfl) (by kernel_rfl) ?vc ?vd
      case vc =>
        intro o ho K hK
        simp only [List.getElem?_toArray, List.getElem?_cons_zero, List.getElem?_cons_succ, Option.some.injEq] at ho
        subst ho
        go_simp
        refine ⟨trivial, CallsIn.mono (callsIn_wide.2 (least_any lx n _ _ cqa)) ?_⟩
        rintro e W9 ⟨rfl, rfl⟩
        refine hK _ _ (.inr hHeld) (fun _ => ?_)
        clear hK K
        try simp only [Act.put, List.setIfInBounds_toArray, List.set_cons_zero, List.set_cons_succ]
        refine wpAnyV_one 18 (by kernel_rfl) (by kernel_rfl) ?_
        intro o ho K hK
        simp only [List.getElem?_toArray, List.getElem?_cons_zero, List.getElem?_cons_succ, Option.some.injEq] at ho
        subst ho
        go_simp
        obtain ⟨WC, hWC⟩ : ∃ WC, WB.alloc (.cells #[.int .i64 (-n)] 3) = WC := ⟨_, rfl⟩
        rw [hWC]
        obtain ⟨qb, hqb⟩ : ∃ qb, WB.heap.size = qb := ⟨_, rfl⟩
        rw [hqb]
        have cqb : WC.cell? ⟨qb, 0, none⟩ = some (.int .i64 (-n)) := by rw [← hWC, ← hqb]; exact cell_new _ _ _ _ _ rfl
        have sWC : Steps (fun _ => False) WB WC := by rw [← hWC]; exact Steps.alloc _ _ _
        clear hWC hqb
        refine hK _ _ (.inr (KeepCells.trans (by assumption) (KeepCells.of_steps sWC (fun _ _ h => h)))) (fun hS => ?_)
        replace hS := hS.resolve_left (by simp only [Bool.not_eq_true]; kernel_rfl)
        clear hK K
        clear hHeld
        have hHeld := hS
        clear hS
        try simp only [Act.put, List.setIfInBounds_toArray, List.set_cons_zero, List.set_cons_succ]
        refine wpAnyV_one 19 (by kernel_rfl) (by kernel_rfl) ?_
        intro o ho K hK
        simp only [List.getElem?_toArray, List.getElem?_cons_zero, List.getElem?_cons_succ, Option.some.injEq] at ho
        subst ho
        go_simp
        refine ⟨trivial, CallsIn.mono (callsIn_wide.2 (least_any (-hx') (-n) _ _ cqb)) ?_⟩
        rintro e W9 ⟨rfl, rfl⟩
        refine hK _ _ (.inr hHeld) (fun _ => ?_)
        clear hK K
        try simp only [Act.put, List.setIfInBounds_toArray, List.set_cons_zero, List.set_cons_succ]
        have hst : Steps (fun _ => False) wc WC := sA.trans (sWB.trans sWC (fun _ _ h => h)) (fun _ _ h => h)
        have hkk : KeepCells (fun _ => True) wc WC := KeepCells.of_steps hst (fun _ _ h => h)
        have d0 := hkk _ _ trivial h0
        have d1 := hkk _ _ trivial h1
        have hd := hE.steps hst (fun h => h)
        have e0 := hd.fz o
        have e1 := hd.fz (o + 1)
        refine wpAnyV_takeP 20 38 (v := ?_) (by kernel_rfl) (by kernel_rfl) (by kernel_rfl) (by kernel_rfl) (fun _ _ _ h => h) ?_ (by kernel_rfl) (by first | exact .inr hHeld | exact .inl (by kernel_rfl)) ?_
        rotate_left
        · intro oi hoi w; simp only [List.getElem?_toArray, List.getElem?_cons_zero, List.getElem?_cons_succ, Option.some.injEq] at hoi; subst hoi; go_simp; try with_reducible rfl
        simp only [Act.put, List.setIfInBounds_toArray, List.set_cons_zero, List.set_cons_succ]
        refine wpAnyV_takeP 21 39 (v := ?_) (by kernel_rfl) (by kernel_rfl) (by kernel_rfl) (by kernel_rfl) (fun _ _ _ h => h) ?_ (by kernel_rfl) (by first | exact .inr hHeld | exact .inl (by kernel_rfl)) ?_
        rotate_left
        · intro oi hoi w; simp only [List.getElem?_toArray, List.getElem?_cons_zero, List.getElem?_cons_succ, Option.some.injEq] at hoi; subst hoi; go_simp; try with_reducible rfl
        simp only [Act.put, List.setIfInBounds_toArray, List.set_cons_zero, List.set_cons_succ]
        refine wpAnyV_takeP 22 40 (v := ?_) (by kernel_rfl) (by kernel_rfl) (by kernel_rfl) (by kernel_rfl) (fun _ _ _ h => h) ?_ (by kernel_rfl) (by first | exact .inr hHeld | exact .inl (by kernel_rfl)) ?_
        rotate_left
        · intro oi hoi w; simp only [List.getElem?_toArray, List.getElem?_cons_zero, List.getElem?_cons_succ, Option.some.injEq] at hoi; subst hoi; go_simp; try with_reducible rfl
        simp only [Act.put, List.setIfInBounds_toArray, List.set_cons_zero, List.set_cons_succ]
        refine wpAnyV_takeP 23 41 (v := ?_) (by kernel_rfl) (by kernel_rfl) (by kernel_rfl) (by kernel_rfl) (fun _ _ _ h => h) ?_ (by kernel_rfl) (by first | exact .inr hHeld | exact .inl (by kernel_rfl)) ?_
        rotate_left
        · intro oi hoi w; simp only [List.getElem?_toArray, List.getElem?_cons_zero, List.getElem?_cons_succ, Option.some.injEq] at hoi; subst hoi; go_simp; try with_reducible rfl
        simp only [Act.put, List.setIfInBounds_toArray, List.set_cons_zero, List.set_cons_succ]
        clear hkk k0 k1
        refine wpAnyV_one 24 (by kernel_rfl) (by kernel_rfl) ?_
        intro o ho K hK
        simp only [List.getElem?_toArray, List.getElem?_cons_zero, List.getElem?_cons_succ, Option.some.injEq] at ho
        subst ho
        go_simp
        refine hK _ _ (.inl (by kernel_rfl)) (fun _ => ?_)
        clear hK K
        try simp only [Act.put, List.setIfInBounds_toArray, List.set_cons_zero, List.set_cons_succ]
        refine wpAnyV_takeP 25 42 (v := ?_) (by kernel_rfl) (by kernel_rfl) (by kernel_rfl) (by kernel_rfl) (fun _ _ _ h => h) ?_ (by kernel_rfl) (by first | exact .inr hHeld | exact .inl (by kernel_rfl)) ?_
        rotate_left
        · intro oi hoi w; simp only [List.getElem?_toArray, List.getElem?_cons_zero, List.getElem?_cons_succ, Option.some.injEq] at hoi; subst hoi; go_simp; try with_reducible rfl
        simp only [Act.put, List.setIfInBounds_toArray, List.set_cons_zero, List.set_cons_succ]
        refine wpAnyV_takeP 26 43 (v := ?_) (by kernel_rfl) (by kernel_rfl) (by kernel_rfl) (by kernel_rfl) (fun _ _ _ h => h) ?_ (by kernel_rfl) (by first | exact .inr hHeld | exact .inl (by kernel_rfl)) ?_
        rotate_left
        · intro oi hoi w; simp only [List.getElem?_toArray, List.getElem?_cons_zero, List.getElem?_cons_succ, Option.some.injEq] at hoi; subst hoi; go_simp; try with_reducible rfl
        simp only [Act.put, List.setIfInBounds_toArray, List.set_cons_zero, List.set_cons_succ]
        refine wpAnyV_takeP 27 44 (v := ?_) (by kernel_rfl) (by kernel_rfl) (by kernel_rfl) (by kernel_rfl) (fun _ _ _ h => h) ?_ (by kernel_rfl) (by first | exact .inr hHeld | exact .inl (by kernel_rfl)) ?_
        rotate_left
        · intro oi hoi w; simp only [List.getElem?_toArray, List.getElem?_cons_zero, List.getElem?_cons_succ, Option.some.injEq] at hoi; subst hoi; go_simp; try with_reducible rfl
        simp only [Act.put, List.setIfInBounds_toArray, List.set_cons_zero, List.set_cons_succ]
        refine wpAnyV_one 28 (by kernel_rfl) (by kernel_rfl) ?_
        intro o ho K hK
        simp only [List.getElem?_toArray, List.getElem?_cons_zero, List.getElem?_cons_succ, Option.some.injEq] at ho
        subst ho
        go_simp
        refine hK _ _ (.inl (by kernel_rfl)) (fun _ => ?_)
        clear hK K
        try simp only [Act.put, List.setIfInBounds_toArray, List.set_cons_zero, List.set_cons_succ]
        refine wpAnyV_done (by kernel_rfl) ?_ _
        go_wp2_with fail
        go_end0
        exact HPP.out WC _ hst hgc hd (wrap_near _ (by omega))
      case vd =>
        intro o ho K hK
        simp only [List.getElem?_toArray, List.getElem?_cons_zero, List.getElem?_cons_succ, Option.some.injEq] at ho
        subst ho
        go_simp
        obtain ⟨WC, hWC⟩ : ∃ WC, WB.alloc (.cells #[.int .i64 (-n)] 3) = WC := ⟨_, rfl⟩
        rw [hWC]
        obtain ⟨qb, hqb⟩ : ∃ qb, WB.heap.size = qb := ⟨_, rfl⟩
        rw [hqb]
        have cqb : WC.cell? ⟨qb, 0, none⟩ = some (.int .i64 (-n)) := by rw [← hWC, ← hqb]; exact cell_new _ _ _ _ _ rfl
        have sWC : Steps (fun _ => False) WB WC := by rw [← hWC]; exact Steps.alloc _ _ _
        clear hWC hqb
        refine hK _ _ (.inr (KeepCells.trans (by assumption) (KeepCells.of_steps sWC (fun _ _ h => h)))) (fun hS => ?_)
        replace hS := hS.resolve_left (by simp only [Bool.not_eq_true]; kernel_rfl)
        clear hK K
        clear hHeld
        have hHeld := hS
        clear hS
        try simp only [Act.put, List.setIfInBounds_toArray, List.set_cons_zero, List.set_cons_succ]
        replace cqa := KeepCells.of_steps (bs := fun _ => True) sWC (fun _ _ h => h) _ _ trivial cqa
        refine wpAnyV_one 9 (by kernel_rfl) (by kernel_rfl) ?_
        intro o ho K hK
        simp only [List.getElem?_toArray, List.getElem?_cons_zero, List.getElem?_cons_succ, Option.some.injEq] at ho
        subst ho
        go_simp
        refine ⟨trivial, CallsIn.mono (callsIn_wide.2 (least_any lx n _ _ cqa)) ?_⟩
        rintro e W9 ⟨rfl, rfl⟩
        refine hK _ _ (.inr hHeld) (fun _ => ?_)
        clear hK K
        try simp only [Act.put, List.setIfInBounds_toArray, List.set_cons_zero, List.set_cons_succ]
        refine wpAnyV_one 19 (by kernel_rfl) (by kernel_rfl) ?_
        intro o ho K hK
        simp only [List.getElem?_toArray, List.getElem?_cons_zero, List.getElem?_cons_succ, Option.some.injEq] at ho
        subst ho
        go_simp
        refine ⟨trivial, CallsIn.mono (callsIn_wide.2 (least_any (-hx') (-n) _ _ cqb)) ?_⟩
        rintro e W9 ⟨rfl, rfl⟩
        refine hK _ _ (.inr hHeld) (fun _ => ?_)
        clear hK K
        try simp only [Act.put, List.setIfInBounds_toArray, List.set_cons_zero, List.set_cons_succ]
        have hst : Steps (fun _ => False) wc WC := sA.trans (sWB.trans sWC (fun _ _ h => h)) (fun _ _ h => h)
        have hkk : KeepCells (fun _ => True) wc WC := KeepCells.of_steps hst (fun _ _ h => h)
        have d0 := hkk _ _ trivial h0
        have d1 := hkk _ _ trivial h1
        have hd := hE.steps hst (fun h => h)
        have e0 := hd.fz o
        have e1 := hd.fz (o + 1)
        refine wpAnyV_takeP 20 38 (v := ?_) (by kernel_rfl) (by kernel_rfl) (by kernel_rfl) (by kernel_rfl) (fun _ _ _ h => h) ?_ (by kernel_rfl) (by first | exact .inr hHeld | exact .inl (by kernel_rfl)) ?_
        rotate_left
        · intro oi hoi w; simp only [List.getElem?_toArray, List.getElem?_cons_zero, List.getElem?_cons_succ, Option.some.injEq] at hoi; subst hoi; go_simp; try with_reducible rfl
        simp only [Act.put, List.setIfInBounds_toArray, List.set_cons_zero, List.set_cons_succ]
        refine wpAnyV_takeP 21 39 (v := ?_) (by kernel_rfl) (by kernel_rfl) (by kernel_rfl) (by kernel_rfl) (fun _ _ _ h => h) ?_ (by kernel_rfl) (by first | exact .inr hHeld | exact .inl (by kernel_rfl)) ?_
        rotate_left
        · intro oi hoi w; simp only [List.getElem?_toArray, List.getElem?_cons_zero, List.getElem?_cons_succ, Option.some.injEq] at hoi; subst hoi; go_simp; try with_reducible rfl
        simp only [Act.put, List.setIfInBounds_toArray, List.set_cons_zero, List.set_cons_succ]
        refine wpAnyV_takeP 22 40 (v := ?_) (by kernel_rfl) (by kernel_rfl) (by kernel_rfl) (by kernel_rfl) (fun _ _ _ h => h) ?_ (by kernel_rfl) (by first | exact .inr hHeld | exact .inl (by kernel_rfl)) ?_
        rotate_left
        · intro oi hoi w; simp only [List.getElem?_toArray, List.getElem?_cons_zero, List.getElem?_cons_succ, Option.some.injEq] at hoi; subst hoi; go_simp; try with_reducible rfl
        simp only [Act.put, List.setIfInBounds_toArray, List.set_cons_zero, List.set_cons_succ]
        refine wpAnyV_takeP 23 41 (v := ?_) (by kernel_rfl) (by kernel_rfl) (by kernel_rfl) (by kernel_rfl) (fun _ _ _ h => h) ?_ (by kernel_rfl) (by first | exact .inr hHeld | exact .inl (by kernel_rfl)) ?_
        rotate_left
        · intro oi hoi w; simp only [List.getElem?_toArray, List.getElem?_cons_zero, List.getElem?_cons_succ, Option.some.injEq] at hoi; subst hoi; go_simp; try with_reducible rfl
        simp only [Act.put, List.setIfInBounds_toArray, List.set_cons_zero, List.set_cons_succ]
        clear hkk k0 k1
        refine wpAnyV_one 24 (by kernel_rfl) (by kernel_rfl) ?_
        intro o ho K hK
        simp only [List.getElem?_toArray, List.getElem?_cons_zero, List.getElem?_cons_succ, Option.some.injEq] at ho
        subst ho
        go_simp
        refine hK _ _ (.inl (by kernel_rfl)) (fun _ => ?_)
        clear hK K
        try simp only [Act.put, List.setIfInBounds_toArray, List.set_cons_zero, List.set_cons_succ]
        refine wpAnyV_takeP 25 42 (v := ?_) (by kernel_rfl) (by kernel_rfl) (by kernel_rfl) (by kernel_rfl) (fun _ _ _ h => h) ?_ (by kernel_rfl) (by first | exact .inr hHeld | exact .inl (by kernel_rfl)) ?_
        rotate_left
        · intro oi hoi w; simp only [List.getElem?_toArray, List.getElem?_cons_zero, List.getElem?_cons_succ, Option.some.injEq] at hoi; subst hoi; go_simp; try with_reducible rfl
        simp only [Act.put, List.setIfInBounds_toArray, List.set_cons_zero, List.set_cons_succ]
        refine wpAnyV_takeP 26 43 (v := ?_) (by kernel_rfl) (by kernel_rfl) (by kernel_rfl) (by kernel_rfl) (fun _ _ _ h => h) ?_ (by kernel_rfl) (by first | exact .inr hHeld | exact .inl (by kernel_rfl)) ?_
        rotate_left
        · intro oi hoi w; simp only [List.getElem?_toArray, List.getElem?_cons_zero, List.getElem?_cons_succ, Option.some.injEq] at hoi; subst hoi; go_simp; try with_reducible rfl
        simp only [Act.put, List.setIfInBounds_toArray, List.set_cons_zero, List.set_cons_succ]
        refine wpAnyV_takeP 27 44 (v := ?_) (by kernel_rfl) (by kernel_rfl) (by kernel_rfl) (by kernel_rfl) (fun _ _ _ h => h) ?_ (by kernel_rfl) (by first | exact .inr hHeld | exact .inl (by kernel_rfl)) ?_
        rotate_left
        · intro oi hoi w; simp only [List.getElem?_toArray, List.getElem?_cons_zero, List.getElem?_cons_succ, Option.some.injEq] at hoi; subst hoi; go_simp; try with_reducible rfl
        simp only [Act.put, List.setIfInBounds_toArray, List.set_cons_zero, List.set_cons_succ]
        refine wpAnyV_one 28 (by kernel_rfl) (by kernel_rfl) ?_
        intro o ho K hK
        simp only [List.getElem?_toArray, List.getElem?_cons_zero, List.getElem?_cons_succ, Option.some.injEq] at ho
        subst ho
        go_simp
        refine hK _ _ (.inl (by kernel_rfl)) (fun _ => ?_)
        clear hK K
        try simp only [Act.put, List.setIfInBounds_toArray, List.set_cons_zero, List.set_cons_succ]
        refine wpAnyV_done (by kernel_rfl) ?_ _
        go_wp2_with fail
        go_end0
        exact HPP.out WC _ hst hgc hd (wrap_near _ (by omega))
    case vb =>
      intro o ho K hK
      simp only [List.getElem?_toArray, List.getElem?_cons_zero, List.getElem?_cons_succ, Option.some.injEq] at ho
      subst ho
      go_simp
      obtain ⟨WB, hWB⟩ : ∃ WB, WA.alloc (.cells #[.int .i64 (-n)] 3) = WB := ⟨_, rfl⟩
      rw [hWB]
      obtain ⟨qb, hqb⟩ : ∃ qb, WA.heap.size = qb := ⟨_, rfl⟩
      rw [hqb]
      have cqb : WB.cell? ⟨qb, 0, none⟩ = some (.int .i64 (-n)) := by rw [← hWB, ← hqb]; exact cell_new _ _ _ _ _ rfl
      have sWB : Steps (fun _ => False) WA WB := by rw [← hWB]; exact Steps.alloc _ _ _
      clear hWB hqb
      refine hK _ _ (.inr (KeepCells.trans (by assumption) (KeepCells.of_steps sWB (fun _ _ h => h)))) (fun hS => ?_)
      replace hS := hS.resolve_left (by simp only [Bool.not_eq_true]; kernel_rfl)
      clear hK K
      clear hHeld
      have hHeld := hS
      clear hS
      try simp only [Act.put, List.setIfInBounds_toArray, List.set_cons_zero, List.set_cons_succ]
      refine wpAnyV_one 8 (by kernel_rfl) (by kernel_rfl) ?_
      intro o ho K hK
      simp only [List.getElem?_toArray, List.getElem?_cons_zero, List.getElem?_cons_succ, Option.some.injEq] at ho
      subst ho
      go_simp
      obtain ⟨WC, hWC⟩ : ∃ WC, WB.alloc (.cells #[.int .i64 n] 3) = WC := ⟨_, rfl⟩
      rw [hWC]
      obtain ⟨qa, hqa⟩ : ∃ qa, WB.heap.size = qa := ⟨_, rfl⟩
      rw [hqa]
      have cqa : WC.cell? ⟨qa, 0, none⟩ = some (.int .i64 n) := by rw [← hWC, ← hqa]; exact cell_new _ _ _ _ _ rfl
      have sWC : Steps (fun _ => False) WB WC := by rw [← hWC]; exact Steps.alloc _ _ _
      clear hWC hqa
      refine hK _ _ (.inr (KeepCells.trans (by assumption) (KeepCells.of_steps sWC (fun _ _ h => h)))) (fun hS => ?_)
      replace hS := hS.resolve_left (by simp only [Bool.not_eq_true]; kernel_rfl)
      clear hK K
      clear hHeld
      have hHeld := hS
      clear hS
      try simp only [Act.put, List.setIfInBounds_toArray, List.set_cons_zero, List.set_cons_succ]
      replace cqb := KeepCells.of_steps (bs := fun _ => True) sWC (fun _ _ h => h) _ _ trivial cqb
      refine wpAnyV_one 9 (by kernel_rfl) (by kernel_rfl) ?_
      intro o ho K hK
      simp only [List.getElem?_toArray, List.getElem?_cons_zero, List.getElem?_cons_succ, Option.some.injEq] at ho
      subst ho
      go_simp
      refine ⟨trivial, CallsIn.mono (callsIn_wide.2 (least_any lx n _ _ cqa)) ?_⟩
      rintro e W9 ⟨rfl, rfl⟩
      refine hK _ _ (.inr hHeld) (fun _ => ?_)
      clear hK K
      try simp only [Act.put, List.setIfInBounds_toArray, List.set_cons_zero, List.set_cons_succ]
      refine wpAnyV_one 19 (by kernel_rfl) (by kernel_rfl) ?_
      intro o ho K hK
      simp only [List.getElem?_toArray, List.getElem?_cons_zero, List.getElem?_cons_succ, Option.some.injEq] at ho
      subst ho
      go_simp
      refine ⟨trivial, CallsIn.mono (callsIn_wide.2 (least_any (-hx') (-n) _ _ cqb)) ?_⟩
      rintro e W9 ⟨rfl, rfl⟩
      refine hK _ _ (.inr hHeld) (fun _ => ?_)
      clear hK K
      try simp only [Act.put, List.setIfInBounds_toArray, List.set_cons_zero, List.set_cons_succ]
      have hst : Steps (fun _ => False) wc WC := sA.trans (sWB.trans sWC (fun _ _ h => h)) (fun _ _ h => h)
      have hkk : KeepCells (fun _ => True) wc WC := KeepCells.of_steps hst (fun _ _ h => h)
      have d0 := hkk _ _ trivial h0
      have d1 := hkk _ _ trivial h1
      have hd := hE.steps hst (fun h => h)
      have e0 := hd.fz o
      have e1 := hd.fz (o + 1)
      refine wpAnyV_takeP 20 38 (v := ?_) (by kernel_rfl) (by kernel_rfl) (by kernel_rfl) (by kernel_rfl) (fun _ _ _ h => h) ?_ (by kernel_rfl) (by first | exact .inr hHeld | exact .inl (by kernel_rfl)) ?_
      rotate_left
      · intro oi hoi w; simp only [List.getElem?_toArray, List.getElem?_cons_zero, List.getElem?_cons_succ, Option.some.injEq] at hoi; subst hoi; go_simp; try with_reducible rfl
      simp only [Act.put, List.setIfInBounds_toArray, List.set_cons_zero, List.set_cons_succ]
      refine wpAnyV_takeP 21 39 (v := ?_) (by kernel_rfl) (by kernel_rfl) (by kernel_rfl) (by kernel_rfl) (fun _ _ _ h => h) ?_ (by kernel_rfl) (by first | exact .inr hHeld | exact .inl (by kernel_rfl)) ?_
      rotate_left
      · intro oi hoi w; simp only [List.getElem?_toArray, List.getElem?_cons_zero, List.getElem?_cons_succ, Option.some.injEq] at hoi; subst hoi; go_simp; try with_reducible rfl
      simp only [Act.put, List.setIfInBounds_toArray, List.set_cons_zero, List.set_cons_succ]
      refine wpAnyV_takeP 22 40 (v := ?_) (by kernel_rfl) (by kernel_rfl) (by kernel_rfl) (by kernel_rfl) (fun _ _ _ h => h) ?_ (by kernel_rfl) (by first | exact .inr hHeld | exact .inl (by kernel_rfl)) ?_
      rotate_left
      · intro oi hoi w; simp only [List.getElem?_toArray, List.getElem?_cons_zero, List.getElem?_cons_succ, Option.some.injEq] at hoi; subst hoi; go_simp; try with_reducible rfl
      simp only [Act.put, List.setIfInBounds_toArray, List.set_cons_zero, List.set_cons_succ]
      refine wpAnyV_takeP 23 41 (v := ?_) (by kernel_rfl) (by kernel_rfl) (by kernel_rfl) (by kernel_rfl) (fun _ _ _ h => h) ?_ (by kernel_rfl) (by first | exact .inr hHeld | exact .inl (by kernel_rfl)) ?_
      rotate_left
      · intro oi hoi w; simp only [List.getElem?_toArray, List.getElem?_cons_zero, List.getElem?_cons_succ, Option.some.injEq] at hoi; subst hoi; go_simp; try with_reducible rfl
      simp only [Act.put, List.setIfInBounds_toArray, List.set_cons_zero, List.set_cons_succ]
      clear hkk k0 k1
      refine wpAnyV_one 24 (by kernel_rfl) (by kernel_rfl) ?_
      intro o ho K hK
      simp only [List.getElem?_toArray, List.getElem?_cons_zero, List.getElem?_cons_succ, Option.some.injEq] at ho
      subst ho
      go_simp
      refine hK _ _ (.inl (by kernel_rfl)) (fun _ => ?_)
      clear hK K
      try simp only [Act.put, List.setIfInBounds_toArray, List.set_cons_zero, List.set_cons_succ]
      refine wpAnyV_takeP 25 42 (v := ?_) (by kernel_rfl) (by kernel_rfl) (by kernel_rfl) (by kernel_rfl) (fun _ _ _ h => h) ?_ (by kernel_rfl) (by first | exact .inr hHeld | exact .inl (by kernel_rfl)) ?_
      rotate_left
      · intro oi hoi w; simp only [List.getElem?_toArray, List.getElem?_cons_zero, List.getElem?_cons_succ, Option.some.injEq] at hoi; subst hoi; go_simp; try with_reducible rfl
      simp only [Act.put, List.setIfInBounds_toArray, List.set_cons_zero, List.set_cons_succ]
      refine wpAnyV_takeP 26 43 (v := ?_) (by kernel_rfl) (by kernel_rfl) (by kernel_rfl) (by kernel_rfl) (fun _ _ _ h => h) ?_ (by kernel_rfl) (by first | exact .inr hHeld | exact .inl (by kernel_rfl)) ?_
      rotate_left
      · intro oi hoi w; simp only [List.getElem?_toArray, List.getElem?_cons_zero, List.getElem?_cons_succ, Option.some.injEq] at hoi; subst hoi; go_simp; try with_reducible rfl
      simp only [Act.put, List.setIfInBounds_toArray, List.set_cons_zero, List.set_cons_succ]
      refine wpAnyV_takeP 27 44 (v := ?_) (by kernel_rfl) (by kernel_rfl) (by kernel_rfl) (by kernel_rfl) (fun _ _ _ h => h) ?_ (by kernel_rfl) (by first | exact .inr hHeld | exact .inl (by kernel_rfl)) ?_
      rotate_left
      · intro oi hoi w; simp only [List.getElem?_toArray, List.getElem?_cons_zero, List.getElem?_cons_succ, Option.some.injEq] at hoi; subst hoi; go_simp; try with_reducible rfl
      simp only [Act.put, List.setIfInBounds_toArray, List.set_cons_zero, List.set_cons_succ]
      refine wpAnyV_one 28 (by kernel_rfl) (by kernel_rfl) ?_
      intro o ho K hK
      simp only [List.getElem?_toArray, List.getElem?_cons_zero, List.getElem?_cons_succ, Option.some.injEq] at ho
      subst ho
      go_simp
      refine hK _ _ (.inl (by kernel_rfl)) (fun _ => ?_)
      clear hK K
      try simp only [Act.put, List.setIfInBounds_toArray, List.set_cons_zero, List.set_cons_succ]
      refine wpAnyV_done (by kernel_rfl) ?_ _
      go_wp2_with fail
      go_end0
      exact HPP.out WC _ hst hgc hd (wrap_near _ (by omega))
end Go.Proofs.Ytjkegmjjhdmkiaa
