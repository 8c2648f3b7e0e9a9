/- The reference's Fits. The reference: rows of ways that a call collects. The reference's ways, plain: from some trails on, by three numbers. Plain Lean: what the law ImageFew asks of the first way with the fewest flaws. Plain Lean: ways as sets of trails; which trails some way has; where a star is. Plain Lean: what the law ImageOpen asks. Plain: bits of small numbers, as int. -/
import Derived.Test.YtacioedolmaofaaLBA26
import Derived.Test.YtacioedolmaofaaLBA20
import Derived.BigQuiet
import Derived.Test.YtacioedolmaofaaLBA21
import Derived.Test.YtacioedolmaofaaLBA24
import Derived.Test.YtacioedolmaofaaLBA23
import Derived.Test.YtacioedolmaofaaLBA4
namespace Go.Proofs.Ytacioedolmaofaa
open Go.RowKit Go.Shelf
set_option maxHeartbeats 6400000
set_option maxRecDepth 100000
set_option linter.unusedSimpArgs false
set_option linter.unusedVariables false

theorem irFits_any (s : ISheet) (fa : Option Addr) (fc : Nat) (t : ITr) (w : World) (hl : ImSl w fa s.l) (hlen : s.l.length < 9223372036854775807) :
    Calls Try.prog 14 #[.agg #[.int .i64 s.ax.lo, .int .i64 s.ax.hi, .int .i64 s.ay.lo, .int .i64 s.ay.hi, .int .i64 s.bx.lo, .int .i64 s.bx.hi, .int .i64 s.by'.lo, .int .i64 s.by'.hi, .int .i64 s.f.lo, .int .i64 s.f.hi, .int .i64 s.g.lo, .int .i64 s.g.hi, .int .i64 s.limit, .int .i64 s.flaws, .slice fa s.l.length fc], .agg #[.int .i64 t.a, .int .i64 t.b, .int .i64 t.c]] w fun e w' => e = .returned (.tuple #[.bool (itFits s t).1, .int .i64 (itFits s t).2]) ∧ Below w.heap.size w w' := by
  obtain ⟨rv, hrv⟩ : ∃ rv, itFits s t = rv := ⟨_, rfl⟩
  rw [hrv]
  have HRV := Lib.hid hrv
  clear hrv
  unfold itFits at HRV
  go_enter Try.func14, Try.ntmps14
  go_wp2_with fail
  obtain ⟨W0, hW0⟩ : ∃ W, ((w.alloc (.cells #[.int .i64 s.ax.lo, .int .i64 s.ax.hi, .int .i64 s.ay.lo, .int .i64 s.ay.hi, .int .i64 s.bx.lo, .int .i64 s.bx.hi, .int .i64 s.by'.lo, .int .i64 s.by'.hi, .int .i64 s.f.lo, .int .i64 s.f.hi, .int .i64 s.g.lo, .int .i64 s.g.hi, .int .i64 s.limit, .int .i64 s.flaws, .slice fa s.l.length fc] 30)).alloc (.cells #[.int .i64 t.a, .int .i64 t.b, .int .i64 t.c] 32)) = W := ⟨_, rfl⟩
  rw [hW0]
  try simp only [Nat.add_assoc, Nat.reduceAdd]
  have hst_W0 : Steps (fun _ => False) w W0 := by rw [← hW0]; exact (Steps.alloc _ w _).trans (Steps.alloc (fun _ => False) _ _) (fun _ _ h => h)
  have hz_W0 : W0.heap.size = w.heap.size + 2 := by rw [← hW0]; simp
  have g0_W0 : W0.heap[w.heap.size]? = some (.cells #[.int .i64 s.ax.lo, .int .i64 s.ax.hi, .int .i64 s.ay.lo, .int .i64 s.ay.hi, .int .i64 s.bx.lo, .int .i64 s.bx.hi, .int .i64 s.by'.lo, .int .i64 s.by'.hi, .int .i64 s.f.lo, .int .i64 s.f.hi, .int .i64 s.g.lo, .int .i64 s.g.hi, .int .i64 s.limit, .int .i64 s.flaws, .slice fa s.l.length fc] 30) := by rw [← hW0]; simp only [alloc_get, World.size_alloc]; repeat (first | exact if_pos trivial | exact if_pos (by omega) | rw [if_neg (by omega)])
  have g1_W0 : W0.heap[w.heap.size + 1]? = some (.cells #[.int .i64 t.a, .int .i64 t.b, .int .i64 t.c] 32) := by rw [← hW0]; simp only [alloc_get, World.size_alloc]; repeat (first | exact if_pos trivial | exact if_pos (by omega) | rw [if_neg (by omega)])
  clear hW0
  have hb0 : Below w.heap.size w W0 := hst_W0.below (Nat.le_refl _) (fun _ _ h => h)
  have hl0 := hl.below hb0 (Nat.le_refl _)
  obtain ⟨z, hz⟩ : ∃ z, w.heap.size = z := ⟨_, rfl⟩
  rw [hz] at g0_W0 g1_W0
  try rw [hz]
  have HZ := Lib.hid hz
  refine (irSheet_any s fa fc W0 hl0 hlen).mono ?_
  rintro e w1 ⟨rfl, hb1⟩
  have hB1 := hb0.trans (hb1.mono hb0.size)
  have hl1 := hl0.below hb1 (Nat.le_refl _)
  have hx1 := obj_later hb1 g0_W0
  have hy1 := obj_later hb1 g1_W0
  clear hst_W0 hz_W0 g0_W0 g1_W0 hb1 hb0 hl0 hz
  have cz := fun i => cell_block hx1 i
  have x0 := cz 0
  have x1 := cz 1
  have x2 := cz 2
  have x3 := cz 3
  have x4 := cz 4
  have x5 := cz 5
  have x6 := cz 6
  have x7 := cz 7
  have x8 := cz 8
  have x9 := cz 9
  have x10 := cz 10
  have x11 := cz 11
  have x12 := cz 12
  have x13 := cz 13
  have x14 := cz 14
  clear cz
  simp only [gA, gB, gC] at x0 x1 x2 x3 x4 x5 x6 x7 x8 x9 x10 x11 x12 x13 x14
  have cz := fun i => cell_block hy1 i
  have y0 := cz 0
  have y1 := cz 1
  have y2 := cz 2
  clear cz
  simp only [gA, gB, gC] at y0 y1 y2
  cases hok : s.ok
  · have hrv := HRV.out
    rw [if_neg (by rw [hok]; simp)] at hrv
    subst hrv
    clear HRV hok
    go_wp2_with fail
    go_ret2
    exact ⟨rfl, by first | exact hB1 | (rw [← HZ.out]; exact hB1)⟩
  · have hrv := HRV.out
    rw [if_pos hok] at hrv
    have HRV := Lib.hid hrv
    have HOK := Lib.hid hok
    clear hrv hok
    go_wp2_with fail
    refine (irTrail_any s fa fc t w1 hlen).mono ?_
    rintro e w2 ⟨rfl, hb2⟩
    have hB2 := hB1.trans (hb2.mono hB1.size)
    have hl2 := hl1.below hb2 (Nat.le_refl _)
    have hx2 := obj_later hb2 hx1
    have hy2 := obj_later hb2 hy1
    clear x0 x1 x2 x3 x4 x5 x6 x7 x8 x9 x10 x11 x12 x13 x14 y0 y1 y2 hb2 hx1 hy1
    have cz := fun i => cell_block hx2 i
    have x0 := cz 0
    have x1 := cz 1
    have x2 := cz 2
    have x3 := cz 3
    have x4 := cz 4
    have x5 := cz 5
    have x6 := cz 6
    have x7 := cz 7
    have x8 := cz 8
    have x9 := cz 9
    have x10 := cz 10
    have x11 := cz 11
    have x12 := cz 12
    have x13 := cz 13
    have x14 := cz 14
    clear cz
    simp only [gA, gB, gC] at x0 x1 x2 x3 x4 x5 x6 x7 x8 x9 x10 x11 x12 x13 x14
    have cz := fun i => cell_block hy2 i
    have y0 := cz 0
    have y1 := cz 1
    have y2 := cz 2
    clear cz
    simp only [gA, gB, gC] at y0 y1 y2
    cases htk : t.ok s.l.length
    · have hrv := HRV.out
      rw [if_neg (by rw [htk]; simp)] at hrv
      subst hrv
      clear HRV htk
      go_wp2_with fail
      go_ret2
      exact ⟨rfl, by first | exact hB2 | (rw [← HZ.out]; exact hB2)⟩
    · have hrv := HRV.out
      rw [if_pos htk] at hrv
      have HRV := Lib.hid hrv
      have HTK := Lib.hid htk
      clear hrv htk
      go_wp2_with fail
      refine (irOf_any s fa fc t w2 HOK.out HTK.out hl2).mono ?_
      rintro e w3 ⟨rfl, hb3⟩
      have hB3 := hB2.trans (hb3.mono hB2.size)
      clear x0 x1 x2 x3 x4 x5 x6 x7 x8 x9 x10 x11 x12 x13 x14 y0 y1 y2 hb3 hx2 hy2
      cases hst : s.star t with
      | none =>
        have hrv := HRV.out
        rw [hst] at hrv
        subst hrv
        clear HRV hst
        unfold starV
        go_wp2_with fail
        go_ret2
        exact ⟨rfl, by first | exact hB3.alloc hB3.size _ | (rw [← HZ.out]; exact hB3.alloc hB3.size _)⟩
      | some o =>
        have hrv := HRV.out
        rw [hst] at hrv
        subst hrv
        clear HRV hst
        unfold starV
        go_wp2_with fail
        go_ret2
        exact ⟨rfl, by first | exact hB3.alloc hB3.size _ | (rw [← HZ.out]; exact hB3.alloc hB3.size _)⟩
end Go.Proofs.Ytacioedolmaofaa
namespace Go.Proofs.Ytacioedolmaofaa
open Go.RowKit Go.Shelf
set_option maxHeartbeats 3200000
set_option maxRecDepth 100000
set_option linter.unusedSimpArgs false
set_option linter.unusedVariables false

/-- A block of trails. -/
def TrsAt (w : World) (q : Nat) (xs : List ITr) : Prop := ∃ cs T, w.heap[q]? = some (.cells cs T (0, 0)) ∧ ∀ (j : Nat) (u : Value), (trsCells xs)[j]? = some u → cs[j]? = some u
theorem TrsAt.lt {w : World} {q : Nat} {xs : List ITr} (h : TrsAt w q xs) : q < w.heap.size := by
  obtain ⟨cs, T, hg, _⟩ := h
  exact (Array.getElem?_eq_some_iff.1 hg).1
theorem TrsAt.later {w w' : World} {q : Nat} {xs : List ITr} (h : TrsAt w q xs) (hb : w'.heap[q]? = w.heap[q]?) : TrsAt w' q xs := by
  obtain ⟨cs, T, hg, hc⟩ := h
  exact ⟨cs, T, hb.trans hg, hc⟩
theorem TrsAt.cell {w : World} {q : Nat} {xs : List ITr} (h : TrsAt w q xs) (j : Nat) (u : Value) (hu : (trsCells xs)[j]? = some u) : w.cell? ⟨q, j, none⟩ = some u := by
  obtain ⟨cs, T, hg, hc⟩ := h
  rw [cell_block hg]
  exact hc j u hu
theorem TrsAt.sl {w : World} {q : Nat} {xs : List ITr} (h : TrsAt w q xs) : TrSl w (some ⟨q, 0, none⟩) xs := by
  intro k hk
  have hj : ∀ j, j < 3 → w.cell? ⟨q, 0 + k * 3 + j, none⟩ = (trCells xs[k])[j]? := fun j hj => by
    have e := trsCells_get xs k j hk hj
    have hl : j < (trCells xs[k]).length := by simpa [trCells] using hj
    rw [List.getElem?_eq_getElem hl] at e ⊢
    rw [Nat.zero_add]
    exact h.cell _ _ e
  exact ⟨q, 0, rfl, h.lt, hj 0 (by omega), hj 1 (by omega), hj 2 (by omega)⟩
theorem trsCells_one (l : List ITr) : ∀ u ∈ trsCells l, u.oneCell' = true := by
  intro u hu
  unfold trsCells at hu
  obtain ⟨t, _, h⟩ := List.mem_flatMap.1 hu
  exact trCells_one t u h
theorem infoTRow : (Try.prog.info? 41).map (fun i => (i.zero, i.size, i.bytes)) = some (some (.slice none 0 0), 1, 24) := by kernel_rfl

/-- A list among those that are collected; rb: the block of the row. -/
def TEl (w : World) (base : Nat) (rb : Option Nat) (x : List ITr) (v : Value) : Prop :=
  ∃ a cap, v = .slice a x.length cap ∧ ((a = none ∧ x = []) ∨ ∃ q, a = some ⟨q, 0, none⟩ ∧ TrsAt w q x ∧ base ≤ q ∧ rb ≠ some q)
theorem TEl.grown {w w' : World} {base : Nat} {rb rb' : Option Nat} {x : List ITr} {v : Value} (h : TEl w base rb x v) (hg : w.grownBy w' rb) (hr : rb' = rb ∨ ∃ g, rb' = some g ∧ w.heap.size ≤ g) : TEl w' base rb' x v := by
  obtain ⟨a, cap, rfl, h⟩ := h
  refine ⟨a, cap, rfl, h.imp id ?_⟩
  rintro ⟨q, rfl, hI, hb, hq⟩
  refine ⟨q, rfl, hI.later (hg.block q hI.lt (fun e => hq e.symm)), hb, fun e => ?_⟩
  rcases hr with rfl | ⟨g, rfl, hlt⟩
  · exact hq e
  · have := hI.lt
    cases e
    omega

/-- What is collected. -/
def TOut (w : World) (base : Nat) (v : Value) (L : List (List ITr)) : Prop :=
  ∃ xs, w.ownsRow base 41 1 v L.length xs ∧ ∀ i (h : i < L.length), ∃ u, xs[i]? = some u ∧ TEl w base v.ownBlock L[i] u
theorem TOut.nil (w : World) (base : Nat) : TOut w base (.slice none 0 0) [] := ⟨[], World.ownsRow_nil w base _ 1, fun i h => by cases h⟩

/-- A list more. -/
theorem TOut.append (w : World) (base : Nat) (v : Value) (L : List (List ITr)) (h : TOut w base v L) (x : List ITr) (u : Value) (hx : TEl w base v.ownBlock x u) (m c : Nat) (hm : w.cell? ⟨m, 0, none⟩ = some u) (hn : L.length ≤ 1000000000000) (hbase : base ≤ w.heap.size) :
    ∃ v' w', (Builtin.append_ #[95, 95] 95 #[v, .slice (some ⟨m, 0, none⟩) 1 c]).run Try.prog w = .ok v' w' ∧ TOut w' base v' (L ++ [x]) ∧ w.grownBy w' v.ownBlock ∧ RowNext w v v' := by
  obtain ⟨xs, hown, hel⟩ := h
  obtain ⟨i0, hi, hz0, hz1, hz2⟩ := info_parts infoTRow
  have hu : u.oneCell' = true := by obtain ⟨a, cap, rfl, _⟩ := hx; rfl
  obtain ⟨v', w', hrun, hown', hgrow, hnext, _⟩ := appendOne w base 95 41 i0 _ 24 Try.underlying95 hi hz0 hz1 hz2 rfl v L.length xs hown u hu m c hm (by omega) (by unfold maxLen; omega) hbase
  refine ⟨v', w', hrun, ⟨xs ++ [u], by rw [List.length_append]; exact hown', fun i hi => ?_⟩, hgrow, hnext⟩
  have hxl : xs.length = L.length := by have := hown.1; omega
  by_cases h : i < L.length
  · obtain ⟨u', h1, h2⟩ := hel i h
    refine ⟨u', by rw [List.getElem?_append_left (by omega)]; exact h1, ?_⟩
    rw [List.getElem_append_left h]
    exact h2.grown hgrow hnext
  · have : i = L.length := by simp at hi; omega
    subst this
    refine ⟨u, by rw [List.getElem?_append_right (by omega), hxl]; simp, ?_⟩
    rw [List.getElem_append_right (by omega)]
    simp only [Nat.sub_self, List.getElem_cons_zero]
    exact hx.grown hgrow hnext

theorem appendT_none (w : World) (q c : Nat) : (Builtin.append_ #[41, 41] 41 #[.slice (some ⟨q, 0, none⟩) 0 0, .slice none 0 c]).run Try.prog w = .ok (.slice (some ⟨q, 0, none⟩) 0 0) w := by kernel_rfl
theorem appendT_some (w : World) (q c : Nat) (a : Addr) : (Builtin.append_ #[41, 41] 41 #[.slice (some ⟨q, 0, none⟩) 0 0, .slice (some a) 0 c]).run Try.prog w = .ok (.slice (some ⟨q, 0, none⟩) 0 0) w := by kernel_rfl

theorem TOut.grown {w w' : World} {base : Nat} {v : Value} {L : List (List ITr)} {rb : Option Nat} (h : TOut w base v L) (hg : w.grownBy w' rb) (hr : ∀ q, rb = some q → w.heap.size ≤ q) : TOut w' base v L := by
  obtain ⟨xs, hown, hel⟩ := h
  have hlt := hown.lt
  refine ⟨xs, hown.kept hg ?_, fun i hi => ?_⟩
  · cases hv : v.ownBlock with
    | none => exact .inl rfl
    | some g =>
      right
      intro e
      have := hr g e.symm
      have := (hlt g hv).2
      omega
  · obtain ⟨u, h1, a, cap, rfl, h2⟩ := hel i hi
    refine ⟨_, h1, a, cap, rfl, h2.imp id ?_⟩
    rintro ⟨q, rfl, hI, hb, hq⟩
    refine ⟨q, rfl, hI.later (hg.block q hI.lt (fun e => ?_)), hb, hq⟩
    have := hr q e.symm
    have := hI.lt
    omega
/-- A copy of a list, in a row of the call's own. -/
theorem copyTrs (w : World) (q : Nat) (hq : w.heap[q]? = some (.cells #[] 32)) (a : Option Addr) (c : Nat) (l : List ITr) (hl : l.length ≤ 100) (hx : (a = none ∧ l = []) ∨ ∃ p, a = some ⟨p, 0, none⟩ ∧ TrsAt w p l) :
    ∃ v w', (Builtin.append_ #[41, 41] 41 #[.slice (some ⟨q, 0, none⟩) 0 0, .slice a l.length c]).run Try.prog w = .ok v w' ∧ w'.ownsRow q 32 3 v l.length (trsCells l) ∧ w.grownBy w' (some q) ∧ v ≠ .slice none 0 0 ∧ (v.ownBlock = some q ∨ ∃ g, v.ownBlock = some g ∧ w.heap.size ≤ g) := by
  have hown0 : w.ownsRow q 32 3 (.slice (some ⟨q, 0, none⟩) 0 0) 0 [] :=
    ⟨rfl, .inr ⟨q, 0, #[], rfl, Nat.le_refl _, hq, Nat.le_refl _, Nat.zero_le _, rfl, rfl⟩⟩
  have hqlt := (Array.getElem?_eq_some_iff.1 hq).1
  by_cases h0 : l = []
  · subst h0
    refine ⟨_, w, ?_, hown0, World.grownBy.refl _ _, by simp, .inl rfl⟩
    rcases hx with ⟨rfl, _⟩ | ⟨p, rfl, _⟩
    · exact appendT_none w q c
    · exact appendT_some w q c _
  · obtain ⟨p, rfl, hI⟩ := hx.resolve_left (fun h => h0 h.2)
    obtain ⟨i0, hi, hz0, hz1, hz2⟩ := info_parts infoTr
    have hnews : ∀ j u, (trsCells l)[j]? = some u → w.cell? ((⟨p, 0, none⟩ : Addr).add j) = some u := fun j u hu => by
      rw [addr0]
      exact hI.cell j u hu
    have hlen := trsCells_len l
    obtain ⟨v', w', hrun, hown', hgrow, hnil⟩ := run_append_own (P := Try.prog) w q 41 41 32 i0 _ 3 24 Try.underlying41 hi hz0 hz1 hz2 rfl (by decide) _ 0 [] hown0 ⟨p, 0, none⟩ l.length c (trsCells l) hlen hnews (trsCells_one l) (by unfold maxLen; omega) (by omega) (Nat.le_of_lt hqlt)
    refine ⟨v', w', hrun, by simpa using hown', hgrow, fun e => (by have := (hnil.1 e).1; cases this), ?_⟩
    have hr := run_append_grow (P := Try.prog) w 41 41 32 i0 _ Try.underlying41 hi hz0 ⟨q, 0, none⟩ 0 0 [] (by simp) (by simp) ⟨p, 0, none⟩ l.length c (trsCells l) (by rw [hz1]; exact hlen) hnews (by have := List.length_pos_iff.2 h0; omega) (by omega) (by rw [hz2]; exact growslice_fits (by have := List.length_pos_iff.2 h0; omega) (by omega))
    rw [hrun] at hr
    cases hr
    exact .inr ⟨_, rfl, Nat.le_refl _⟩

/-- A trail more, in a row of the call's own. -/
theorem appendTr (w : World) (q : Nat) (v : Value) (l : List ITr) (hl : l.length ≤ 100) (hown : w.ownsRow q 32 3 v l.length (trsCells l)) (x : ITr) (m c : Nat) (hm : ∀ j u, (trCells x)[j]? = some u → w.cell? ⟨m, j, none⟩ = some u) (hq : q ≤ w.heap.size) :
    ∃ g cap w', (Builtin.append_ #[41, 41] 41 #[v, .slice (some ⟨m, 0, none⟩) 1 c]).run Try.prog w = .ok (.slice (some ⟨g, 0, none⟩) (l.length + 1) cap) w' ∧ q ≤ g ∧ TrsAt w' g (l ++ [x]) ∧ w.grownBy w' v.ownBlock := by
  obtain ⟨i0, hi, hz0, hz1, hz2⟩ := info_parts infoTr
  obtain ⟨v', w', hrun, hown', hgrow, hnn⟩ := appendSome w q 41 32 i0 _ 3 24 Try.underlying41 hi hz0 hz1 hz2 rfl (by decide) v l.length _ hown (trCells x) rfl (trCells_one x) m c hm (by omega) (by unfold maxLen; omega) hq
  rcases hown'.2 with ⟨h, hn⟩ | ⟨g, cap, cur, rfl, hbg, hg, hnc, hcm, hcs, htake⟩
  · cases hn
  · refine ⟨g, cap, w', hrun, hbg, ⟨cur, _, hg, fun j u hu => ?_⟩, hgrow⟩
    rw [trsCells_snoc, ← htake, List.getElem?_take] at hu
    split at hu
    · simpa using hu
    · cases hu

def TPost (base : Nat) (v : Value) (L : List (List ITr)) (w : World) (e : Ending) (w' : World) : Prop :=
  ∃ v', e = .returned v' ∧ TOut w' base v' L ∧ w.grownBy w' v.ownBlock ∧ RowNext w v v'
theorem TOut.alloc {w : World} {base : Nat} {v : Value} {L : List (List ITr)} (h : TOut w base v L) (o : Obj) : TOut (w.alloc o) base v L := h.grown (World.grownBy_alloc w o none) (fun q e => by cases e)
theorem TEl.alloc {w : World} {base : Nat} {rb : Option Nat} {x : List ITr} {v : Value} (h : TEl w base rb x v) (o : Obj) : TEl (w.alloc o) base rb x v := h.grown (World.grownBy_alloc w o rb) (.inl rfl)
theorem TEl.sl {w : World} {base : Nat} {rb : Option Nat} {x : List ITr} {a : Option Addr} {n c : Nat} (h : TEl w base rb x (.slice a n c)) : TrSl w a x ∧ n = x.length := by
  obtain ⟨a', cap, e, h⟩ := h
  cases e
  refine ⟨?_, rfl⟩
  rcases h with ⟨_, rfl⟩ | ⟨q, rfl, hI, _⟩
  · exact TrSl.nil _ _
  · exact hI.sl
theorem TOut.not_box {w : World} {base p : Nat} {v : Value} {L : List (List ITr)} {cs : Array Value} {fz : Nat × Nat} (h : TOut w base v L) (hp : w.heap[p]? = some (.cells cs 30 fz)) : v.ownBlock ≠ some p := by
  obtain ⟨xs, hown, _⟩ := h
  intro e
  rcases hown.2 with ⟨rfl, _⟩ | ⟨g, cap, cur, rfl, _, hg, _⟩
  · cases e
  · have : g = p := by simpa [Value.ownBlock] using e
    subst this
    rw [hp] at hg
    cases hg
theorem TOut.blk_lt {w : World} {base g : Nat} {v : Value} {L : List (List ITr)} (h : TOut w base v L) (e : v.ownBlock = some g) : g < w.heap.size := by
  obtain ⟨xs, hown, _⟩ := h
  exact (hown.lt g e).2
theorem TEl.src {w w' : World} {base n : Nat} {rb : Option Nat} {x : List ITr} {a : Option Addr} {c : Nat} (h : TEl w base rb x (.slice a n c)) (hb : Below w.heap.size w w') : (a = none ∧ x = []) ∨ ∃ p, a = some ⟨p, 0, none⟩ ∧ TrsAt w' p x := by
  obtain ⟨a', cap, e, h⟩ := h
  cases e
  refine h.imp id ?_
  rintro ⟨q, rfl, hI, _⟩
  exact ⟨q, rfl, hI.later (hb.block q hI.lt)⟩
theorem TOut.blk_ge {w : World} {base g : Nat} {v : Value} {L : List (List ITr)} (h : TOut w base v L) (e : v.ownBlock = some g) : base ≤ g := by
  obtain ⟨xs, hown, _⟩ := h
  exact (hown.lt g e).1
end Go.Proofs.Ytacioedolmaofaa
namespace Go.Proofs.Ytacioedolmaofaa
set_option linter.unusedVariables false
set_option maxRecDepth 100000

/-- Does a trail not go on? -/
def bad14 (l : List ITr) (n : Nat) (t : ITr) : Bool := !t.ok n || usedIn l t.a || (decide (t.b ≠ -1) && usedIn l t.b) || (decide (t.c ≠ -1) && usedIn l t.c)
def wR (s : ISheet) (F : Int) (l : List ITr) (fr : Int) : List (List ITr) := (waysOf s.trails s.l.length F (s.l.length + 1) fr (ownAll l)).map (l ++ ·)
def wLeaf (s : ISheet) (F : Int) (l : List ITr) : List (List ITr) := if (flawN l s.l.length : Int) ≤ F then [l] else []
def wStep (s : ISheet) (F : Int) (l : List ITr) (t : ITr) : List (List ITr) := if bad14 l s.l.length t then [] else if (s.star t).isSome then wR s F (l ++ [t]) (t.a + 1) else []
def wC (s : ISheet) (F : Int) (l : List ITr) (a b : Int) (k : Nat) : List (List ITr) := (List.range k).flatMap fun (j : Nat) => wStep s F l ⟨a, b, (j : Int) - 1⟩
def wB (s : ISheet) (F : Int) (l : List ITr) (a : Int) (k : Nat) : List (List ITr) := (List.range k).flatMap fun (j : Nat) => wC s F l a ((j : Int) - 1) (s.l.length + 1)
def wA (s : ISheet) (F : Int) (l : List ITr) (fr : Int) (k : Nat) : List (List ITr) := (List.range k).flatMap fun (j : Nat) => if fr ≤ (j : Int) then wB s F l (j : Int) (s.l.length + 1) else []

theorem wC_succ (s : ISheet) (F : Int) (l : List ITr) (a b : Int) (k : Nat) : wC s F l a b (k + 1) = wC s F l a b k ++ wStep s F l ⟨a, b, (k : Int) - 1⟩ := by
  simp only [wC, List.range_succ, List.flatMap_append, List.flatMap_cons, List.flatMap_nil, List.append_nil]
theorem wB_succ (s : ISheet) (F : Int) (l : List ITr) (a : Int) (k : Nat) : wB s F l a (k + 1) = wB s F l a k ++ wC s F l a ((k : Int) - 1) (s.l.length + 1) := by
  simp only [wB, List.range_succ, List.flatMap_append, List.flatMap_cons, List.flatMap_nil, List.append_nil]
theorem wA_succ (s : ISheet) (F : Int) (l : List ITr) (fr : Int) (k : Nat) (h : fr ≤ (k : Int)) : wA s F l fr (k + 1) = wA s F l fr k ++ wB s F l (k : Int) (s.l.length + 1) := by
  simp only [wA, List.range_succ, List.flatMap_append, List.flatMap_cons, List.flatMap_nil, List.append_nil, if_pos h]
theorem wA_start (s : ISheet) (F : Int) (l : List ITr) (fr : Nat) : wA s F l (fr : Int) fr = [] := by
  unfold wA
  rw [List.flatMap_eq_nil_iff]
  intro j hj
  have := List.mem_range.1 hj
  rw [if_neg (by omega)]
theorem range_mono {α : Type} (f : Nat → List α) {i j : Nat} (h : i ≤ j) : ((List.range i).flatMap f).length ≤ ((List.range j).flatMap f).length := by
  induction j with
  | zero => have : i = 0 := by omega
            rw [this]; exact Nat.le_refl _
  | succ j ih =>
    by_cases e : i = j + 1
    · rw [e]; exact Nat.le_refl _
    · have := ih (by omega)
      rw [List.range_succ, List.flatMap_append, List.length_append]
      omega

theorem flawN_notIn {n : Nat} (l : List ITr) (h : ∀ t ∈ l, t.wf n) : ∀ k, flawN l k = notIn (ownAll l) k
  | 0 => rfl
  | k + 1 => by
    have e : flawN l (k + 1) = flawN l k + if usedIn l (k : Int) then 0 else 1 := rfl
    rw [e, notIn_succ, flawN_notIn l h k, usedIn_bit l h k]
theorem wleaf_eq (s : ISheet) (F : Int) (l : List ITr) (hn : s.l.length ≤ 9) (hl : ∀ t ∈ l, t.wf s.l.length) : (leafWays s.l.length F (ownAll l)).map (l ++ ·) = wLeaf s F l := by
  unfold leafWays wLeaf
  rw [flawN_notIn l hl, flaws_eq hn (ownAll_ltn l hl)]
  split
  · simp
  · rfl
theorem bad14_free {l : List ITr} {n : Nat} {t : ITr} (hl : ∀ t ∈ l, t.wf n) (ht : t.ok n = true) : bad14 l n t = !(t.own &&& ownAll l == 0) := by
  have hw := ITr.wf_of ht
  rw [free_iff hw]
  unfold bad14
  rw [ht]
  have hf : ∀ i : Int, (i = -1 ∨ (0 ≤ i ∧ i < n)) → freeOf (ownAll l) i = !(decide (i ≠ -1) && usedIn l i) := fun i hi => by
    unfold freeOf
    rcases hi with rfl | ⟨h0, _⟩
    · simp
    · obtain ⟨m, rfl⟩ := Int.eq_ofNat_of_zero_le h0
      rw [usedIn_bit l hl m]
      have : ((m : Int) ≠ -1) := by omega
      simp [this]
  rw [hf _ (.inr hw.a), hf _ hw.b, hf _ hw.c]
  have ha : (t.a ≠ -1) := by have := hw.a; omega
  rw [decide_eq_true ha, Bool.true_and]
  generalize usedIn l t.a = x
  generalize (decide (t.b ≠ -1) && usedIn l t.b) = y
  generalize (decide (t.c ≠ -1) && usedIn l t.c) = z
  cases x <;> cases y <;> cases z <;> rfl
theorem wstep_eq (s : ISheet) (F : Int) (l : List ITr) (hn : s.l.length ≤ 9) (hl : ∀ t ∈ l, t.wf s.l.length) (t : ITr) : (s.with' F s.l.length (ownAll l) t).map (l ++ ·) = wStep s F l t := by
  unfold ISheet.with' wStep ISheet.can
  cases ht : t.ok s.l.length
  · have hb : bad14 l s.l.length t = true := by unfold bad14; rw [ht]; rfl
    rw [if_pos hb, Bool.false_and, Bool.false_and, if_neg (by simp)]
    rfl
  · rw [bad14_free hl ht]
    cases hf : (t.own &&& ownAll l == 0)
    · simp
    · cases hs : (s.star t).isSome
      · simp
      · have hw := ITr.wf_of ht
        have h0 := hw.a
        rw [Bool.true_and, Bool.true_and, if_pos rfl, if_neg (by simp), if_pos rfl]
        unfold wR
        rw [ways_fuel F (fun t ht => (trails_wf t ht).a.2) s.l.length (s.l.length + 1) (t.a + 1) _ (by omega) (by omega), ownAll_snoc, List.map_map]
        refine List.map_congr_left fun w _ => ?_
        simp
theorem wR_eq (s : ISheet) (F : Int) (l : List ITr) (hn : s.l.length ≤ 9) (hl : ∀ t ∈ l, t.wf s.l.length) (fr : Int) : wR s F l fr = wLeaf s F l ++ wA s F l fr s.l.length := by
  unfold wR
  rw [ways_by, List.map_append, wleaf_eq s F l hn hl, List.map_flatMap]
  congr 1
  unfold wA List.flatMap
  congr 1
  refine List.map_congr_left fun j _ => ?_
  split
  · unfold wB fromNo
    show List.map _ (List.flatMap _ _) = List.flatMap _ _
    rw [List.map_flatMap, List.flatMap_map]
    unfold List.flatMap
    congr 1
    refine List.map_congr_left fun k _ => ?_
    unfold wC
    show List.map _ (List.flatMap _ _) = List.flatMap _ _
    rw [List.map_flatMap, List.flatMap_map]
    unfold List.flatMap
    congr 1
    refine List.map_congr_left fun m _ => ?_
    exact wstep_eq s F l hn hl _
  · rfl
theorem wR_len (s : ISheet) (F : Int) (l : List ITr) (hn : s.l.length ≤ 9) (fr : Int) (h0 : 0 ≤ fr) : (wR s F l fr).length ≤ 101 ^ ((s.l.length : Int) - fr).toNat := by
  have hT := trailsOk s hn
  unfold wR
  rw [List.length_map, ways_fuel F (fun t ht => (trails_wf t ht).a.2) (s.l.length + 1) s.l.length fr _ (by omega) (by omega), ← aggOf_many s.l.length (ownAll l), ← tell_agg s.trails s.l.length F (trails_own hn) s.l.length fr _ (Nat.le_refl _)]
  exact tell_many F (fun t ht => (hT.wf t ht).a.2) hT.cnt _ _ _
/-- What is gathered stays below all ways. -/
theorem w_next (s : ISheet) (F : Int) (l : List ITr) (hn : s.l.length ≤ 9) (hl : ∀ t ∈ l, t.wf s.l.length) (fr : Int) (k kb kc : Nat) (hf : fr ≤ (k : Int)) (hk : k < s.l.length) (hb : kb < s.l.length + 1) (hc : kc < s.l.length + 1) :
    (wLeaf s F l ++ wA s F l fr k ++ wB s F l k kb ++ wC s F l k ((kb : Int) - 1) kc).length + (wStep s F l ⟨(k : Int), (kb : Int) - 1, (kc : Int) - 1⟩).length ≤ (wR s F l fr).length := by
  rw [wR_eq s F l hn hl]
  have h1 : (wA s F l fr (k + 1)).length ≤ (wA s F l fr s.l.length).length := range_mono _ (by omega)
  have h2 : (wB s F l (k : Int) (kb + 1)).length ≤ (wB s F l (k : Int) (s.l.length + 1)).length := range_mono _ (by omega)
  have h3 : (wC s F l (k : Int) ((kb : Int) - 1) (kc + 1)).length ≤ (wC s F l (k : Int) ((kb : Int) - 1) (s.l.length + 1)).length := range_mono _ (by omega)
  rw [wA_succ s F l fr k hf, List.length_append] at h1
  rw [wB_succ, List.length_append] at h2
  rw [wC_succ, List.length_append] at h3
  rw [List.length_append, List.length_append, List.length_append, List.length_append]
  omega
end Go.Proofs.Ytacioedolmaofaa
namespace Go.Proofs.Ytacioedolmaofaa
set_option linter.unusedVariables false
set_option maxRecDepth 100000

/-- From which image on trails go on behind these. -/
def endOf : Int → List ITr → Int
  | fr, [] => fr
  | _, t::w => endOf (t.a + 1) w
theorem endOf_snoc (t : ITr) : ∀ (fr : Int) (w : List ITr), endOf fr (w ++ [t]) = t.a + 1
  | _, [] => rfl
  | _, u::w => endOf_snoc t (u.a + 1) w
theorem endOf_le {k : Int} : ∀ (fr : Int) (w : List ITr), fr ≤ k → (∀ t ∈ w, t.a < k) → endOf fr w ≤ k
  | _, [], h, _ => h
  | _, t::w, _, hw => endOf_le (t.a + 1) w (by have := hw t (by simp); omega) (fun x hx => hw x (by simp [hx]))
theorem ownAll_cons (t : ITr) (w : List ITr) : ownAll (t::w) = t.own ||| ownAll w := rfl
theorem goes_append (T : List ITr) (v : List ITr) : ∀ (u : List ITr) (fr : Int) (used : Nat), Goes T fr used (u ++ v) ↔ Goes T fr used u ∧ Goes T (endOf fr u) (used ||| ownAll u) v
  | [], fr, used => by
    show Goes T fr used v ↔ True ∧ Goes T fr (used ||| 0) v
    rw [Nat.or_zero]
    simp
  | t::u, fr, used => by
    show (t ∈ nextOf T fr used ∧ Goes T (t.a + 1) (used ||| t.own) (u ++ v)) ↔ (t ∈ nextOf T fr used ∧ Goes T (t.a + 1) (used ||| t.own) u) ∧ Goes T (endOf (t.a + 1) u) (used ||| ownAll (t::u)) v
    rw [goes_append T v u, ownAll_cons, Nat.or_assoc, and_assoc]
theorem goes_snoc {T : List ITr} {w : List ITr} {t : ITr} {fr : Int} {used : Nat} : Goes T fr used (w ++ [t]) ↔ Goes T fr used w ∧ t ∈ nextOf T (endOf fr w) (used ||| ownAll w) := by
  rw [goes_append]
  show _ ∧ (_ ∧ True) ↔ _
  rw [and_true]
theorem goes_get {T : List ITr} {w : List ITr} {fr : Int} {used : Nat} (h : Goes T fr used w) (i : Nat) (hi : i < w.length) : w[i] ∈ nextOf T (endOf fr (w.take i)) (used ||| ownAll (w.take i)) := by
  have e : w.take (i + 1) = w.take i ++ [w[i]] := List.take_succ_eq_append_getElem hi
  have h2 : Goes T fr used (w.take (i + 1) ++ w.drop (i + 1)) := by rw [List.take_append_drop]; exact h
  rw [goes_append, e, goes_snoc] at h2
  exact h2.1.2
theorem goes_mem {T : List ITr} : ∀ {w : List ITr} {fr : Int} {used : Nat}, Goes T fr used w → ∀ t ∈ w, t ∈ T
  | t::w, fr, used, h, x, hx => by
    rcases List.mem_cons.1 hx with rfl | hx
    · exact (mem_next.1 h.1).1
    · exact goes_mem h.2 x hx
theorem goes_rising {T : List ITr} {w : List ITr} {fr : Int} {used : Nat} (h : Goes T fr used w) (i : Nat) (hi : i + 1 < w.length) : w[i].a < w[i + 1].a := by
  have h2 := (mem_next.1 (goes_get h (i + 1) hi)).2.1
  rw [List.take_succ_eq_append_getElem (by omega), endOf_snoc] at h2
  omega
theorem goes_disj {T : List ITr} {n : Nat} (hT : ∀ t ∈ T, t.wf n) {w : List ITr} {fr : Int} (h : Goes T fr 0 w) (i : Nat) (hi : i < w.length) (m : Int) (hm : m = w[i].a ∨ m = w[i].b ∨ m = w[i].c) (h1 : m ≠ -1) : usedIn (w.take i) m = false := by
  obtain ⟨hin, _, h2⟩ := mem_next.1 (goes_get h i hi)
  have hw := hT _ hin
  rw [Nat.zero_or] at h2
  have h0 : 0 ≤ m := by
    rcases hm with e | e | e
    · rw [e]; exact hw.a.1
    · rw [e]; rcases hw.b with hb | hb
      · omega
      · exact hb.1
    · rw [e]; rcases hw.c with hb | hb
      · omega
      · exact hb.1
  obtain ⟨k, rfl⟩ := Int.eq_ofNat_of_zero_le h0
  rw [usedIn_bit (n := n) (w.take i) (fun t ht => hT t (goes_mem h t (List.mem_of_mem_take ht))) k]
  exact (and_zero_iff _ _).1 h2 k ((hw.own_bit k).2 (by rcases hm with e | e | e <;> simp [← e]))
theorem flawN_flawsW {n : Nat} (hn : n ≤ 9) (l : List ITr) (hl : ∀ t ∈ l, t.wf n) : (flawN l n : Int) = flawsW n 0 l := by
  unfold flawsW
  rw [flawN_notIn l hl, flaws_eq hn (ownAll_ltn l hl), Nat.zero_or]

theorem needs_all {T : List ITr} {n : Nat} (hT : TP T n) : (tellN T n n 0 0).many ≠ 0 := (many_iff (n : Int) hT 0 (by omega) 0).2 ⟨[], trivial, flawsW_le n 0 []⟩
/-- How many flaws there must be. -/
structure NeedsAre (s : ISheet) (m : Int) : Prop where
  ge : 0 ≤ m
  le : m ≤ s.l.length
  one : ∃ w, Goes s.trails 0 0 w ∧ flawsW s.l.length 0 w = m
  min : ∀ w, Goes s.trails 0 0 w → m ≤ flawsW s.l.length 0 w
theorem flawsW_ge {s : ISheet} (hn : s.l.length ≤ 9) {w : List ITr} (hw : ∀ t ∈ w, t ∈ s.trails) : 0 ≤ flawsW s.l.length 0 w := by
  rw [← flawN_flawsW hn w (fun t ht => trails_wf t (hw t ht))]
  omega
theorem needsAre {s : ISheet} (hn : s.l.length ≤ 9) : NeedsAre s (tellN s.trails s.l.length s.l.length 0 0).flaws := by
  obtain ⟨h1, h2, h3⟩ := flaws_min (s.l.length : Int) (tp_of hn) 0 (by omega) 0 (needs_all (tp_of hn))
  refine ⟨?_, h2, h1, h3⟩
  obtain ⟨w, hw, e⟩ := h1
  rw [← e]
  exact flawsW_ge hn (goes_mem hw)
theorem way_iff {s : ISheet} (hn : s.l.length ≤ 9) : (wayTold s).many ≠ 0 ↔ (tellN s.trails s.l.length s.l.length 0 0).flaws ≤ s.flaws := by
  have hN := needsAre hn
  unfold wayTold
  rw [many_iff s.flaws (tp_of hn) 0 (by omega) 0]
  constructor
  · rintro ⟨w, hw, hF⟩
    have := hN.min w hw
    omega
  · intro h
    obtain ⟨w, hw, e⟩ := hN.one
    exact ⟨w, hw, by rw [e]; exact h⟩
theorem way_flaws {s : ISheet} (hn : s.l.length ≤ 9) (h : (wayTold s).many ≠ 0) : (wayTold s).flaws = (tellN s.trails s.l.length s.l.length 0 0).flaws := by
  obtain ⟨⟨w, h1, e1⟩, h2, h3⟩ := flaws_min s.flaws (tp_of hn) 0 (by omega) 0 h
  obtain ⟨⟨u, h4, e4⟩, h5, h6⟩ := flaws_min (s.l.length : Int) (tp_of hn) 0 (by omega) 0 (needs_all (tp_of hn))
  have := h3 u h4
  have := h6 w h1
  unfold wayTold
  omega

/-- What ImageFew asks of the way that is told. -/
structure FewIs (s : ISheet) (l : List ITr) (m : Int) : Prop where
  goes : Goes s.trails 0 0 l
  flaws : (flawN l s.l.length : Int) = m
  other : ∀ w, Goes s.trails 0 0 w → m ≤ flawN w s.l.length ∧ ((flawN w s.l.length : Int) = m → before l w = true)
theorem fewIs {s : ISheet} (hn : s.l.length ≤ 9) (h : (wayTold s).many ≠ 0) : FewIs s (fewW s.trails s.l.length (wayTold s).flaws 10 0 0) (tellN s.trails s.l.length s.l.length 0 0).flaws := by
  have hN := needsAre hn
  rw [way_flaws hn h]
  generalize (tellN s.trails s.l.length s.l.length 0 0).flaws = m at hN
  obtain ⟨w, hw, e⟩ := hN.one
  obtain ⟨h1, h2, h3⟩ := few_spec (tp_of hn) (trails_sorted s) 9 0 0 (by omega) (by omega) ⟨w, hw, by omega⟩ hN.min
  have hf : ∀ w, Goes s.trails 0 0 w → (flawN w s.l.length : Int) = flawsW s.l.length 0 w := fun w hw => flawN_flawsW hn w (fun t ht => trails_wf t (goes_mem hw t ht))
  refine ⟨h1, by rw [hf _ h1]; exact h2, fun w hw => ?_⟩
  rw [hf _ hw]
  exact ⟨hN.min w hw, h3 w hw⟩
theorem mem_trails {s : ISheet} {t : ITr} : t ∈ s.trails ↔ t.ok s.l.length = true ∧ (s.star t).isSome = true := by
  constructor
  · intro ht
    unfold ISheet.trails at ht
    rw [List.mem_flatMap] at ht
    obtain ⟨a, _, ht⟩ := ht
    rw [List.mem_flatMap] at ht
    obtain ⟨b, _, ht⟩ := ht
    have := (List.mem_filter.1 ht).2
    rwa [Bool.and_eq_true] at this
  · rintro ⟨h1, h2⟩
    have hw := ITr.wf_of h1
    obtain ⟨a, b, c⟩ := t
    have hno : ∀ i : Int, (i = -1 ∨ (0 ≤ i ∧ i < s.l.length)) → i ∈ fromNo s.l.length := fun i hi => by
      unfold fromNo
      rw [List.mem_map]
      refine ⟨(i + 1).toNat, List.mem_range.2 (by omega), by omega⟩
    obtain ⟨k, hk⟩ := Int.eq_ofNat_of_zero_le hw.a.1
    have hka := hw.a.2
    simp only at hk hka
    unfold ISheet.trails
    rw [List.mem_flatMap]
    refine ⟨k, List.mem_range.2 (by omega), ?_⟩
    rw [List.mem_flatMap]
    refine ⟨b, hno b hw.b, ?_⟩
    rw [List.mem_filter]
    refine ⟨List.mem_map.2 ⟨c, hno c hw.c, by rw [hk]⟩, ?_⟩
    rw [Bool.and_eq_true]
    exact ⟨h1, h2⟩
/-- One trail more, of images that are free. -/
theorem goes_more {s : ISheet} {w : List ITr} {t : ITr} (hw : Goes s.trails 0 0 w) (hlt : ∀ u ∈ w, u.a < t.a) (hok : t.ok s.l.length = true) (hst : (s.star t).isSome = true) (hu : usedIn w t.a = false) (hb : t.b = -1 ∨ usedIn w t.b = false) (hc : t.c = -1 ∨ usedIn w t.c = false) : Goes s.trails 0 0 (w ++ [t]) := by
  have hwf := ITr.wf_of hok
  have hl : ∀ t ∈ w, t.wf s.l.length := fun t ht => trails_wf t (goes_mem hw t ht)
  refine goes_snoc.2 ⟨hw, mem_next.2 ⟨mem_trails.2 ⟨hok, hst⟩, endOf_le 0 w hwf.a.1 hlt, ?_⟩⟩
  rw [Nat.zero_or]
  have hbad : bad14 w s.l.length t = false := by
    unfold bad14
    rw [hok, hu]
    rcases hb with hb | hb <;> rcases hc with hc | hc <;> simp [hb, hc]
  rw [bad14_free hl hok] at hbad
  simpa using hbad
end Go.Proofs.Ytacioedolmaofaa
namespace Go.Proofs.Ytacioedolmaofaa
set_option linter.unusedVariables false
set_option maxRecDepth 100000

theorem own_zero_comm {a b : Nat} : a &&& b = 0 ↔ b &&& a = 0 := by rw [Nat.and_comm]
theorem own_or {a b c : Nat} : a &&& (b ||| c) = 0 ↔ a &&& b = 0 ∧ a &&& c = 0 := by
  rw [and_zero_iff, and_zero_iff, and_zero_iff]
  constructor
  · intro h
    refine ⟨fun k hk => ?_, fun k hk => ?_⟩
    · have := h k hk; rw [Nat.testBit_or] at this; cases hb : b.testBit k <;> simp_all
    · have := h k hk; rw [Nat.testBit_or] at this; cases hb : c.testBit k <;> simp_all
  · rintro ⟨h1, h2⟩ k hk
    rw [Nat.testBit_or, h1 k hk, h2 k hk]; rfl
/-- Ways, as sets. -/
theorem goes_set {T : List ITr} : ∀ (w : List ITr) (fr : Int) (used : Nat), Goes T fr used w ↔ (∀ t ∈ w, t ∈ T ∧ fr ≤ t.a ∧ t.own &&& used = 0) ∧ w.Pairwise (fun t u => t.a < u.a ∧ u.own &&& t.own = 0)
  | [], fr, used => by simp [Goes]
  | t::w, fr, used => by
    show (t ∈ nextOf T fr used ∧ Goes T (t.a + 1) (used ||| t.own) w) ↔ _
    rw [goes_set w, mem_next, List.pairwise_cons]
    constructor
    · rintro ⟨h1, h2, h3⟩
      refine ⟨fun u hu => ?_, fun u hu => ?_, h3⟩
      · rcases List.mem_cons.1 hu with rfl | hu
        · exact h1
        · obtain ⟨k1, k2, k3⟩ := h2 u hu
          exact ⟨k1, by omega, (own_or.1 k3).1⟩
      · obtain ⟨k1, k2, k3⟩ := h2 u hu
        exact ⟨by omega, (own_or.1 k3).2⟩
    · rintro ⟨h1, h2, h3⟩
      refine ⟨h1 t (by simp), fun u hu => ?_, h3⟩
      obtain ⟨k1, k2, k3⟩ := h1 u (by simp [hu])
      obtain ⟨k4, k5⟩ := h2 u hu
      exact ⟨k1, by omega, own_or.2 ⟨k3, k5⟩⟩
theorem ownAll_bit : ∀ (w : List ITr) (k : Nat), (ownAll w).testBit k = w.any fun t => t.own.testBit k
  | [], k => by simp [ownAll]
  | t::w, k => by rw [ownAll_cons, Nat.testBit_or, ownAll_bit w k, List.any_cons]
theorem ownAll_set {w w' : List ITr} (h : ∀ t, t ∈ w ↔ t ∈ w') : ownAll w = ownAll w' := by
  refine Nat.eq_of_testBit_eq fun k => ?_
  rw [ownAll_bit, ownAll_bit, Bool.eq_iff_iff, List.any_eq_true, List.any_eq_true]
  constructor
  · rintro ⟨t, h1, h2⟩; exact ⟨t, (h t).1 h1, h2⟩
  · rintro ⟨t, h1, h2⟩; exact ⟨t, (h t).2 h1, h2⟩
theorem own_self {n : Nat} {t u : ITr} (ht : t.wf n) (h : t.own &&& u.own = 0) (hu : u.wf n) : t.a ≠ u.a := by
  intro e
  obtain ⟨k, hk⟩ := Int.eq_ofNat_of_zero_le ht.a.1
  have h1 := (and_zero_iff _ _).1 h k ((ht.own_bit k).2 (.inl hk))
  have h2 := (hu.own_bit k).2 (.inl (by rw [← e]; exact hk))
  rw [h1] at h2
  cases h2
/-- A trail put among others. -/
def insTr (t : ITr) (w : List ITr) : List ITr := w.filter (fun u => decide (u.a < t.a)) ++ t::w.filter (fun u => decide (t.a < u.a))
theorem mem_insTr {t u : ITr} {w : List ITr} (h : ∀ u ∈ w, u.a ≠ t.a) : u ∈ insTr t w ↔ u = t ∨ u ∈ w := by
  unfold insTr
  rw [List.mem_append, List.mem_cons, List.mem_filter, List.mem_filter]
  constructor
  · rintro (⟨h1, _⟩ | h1 | ⟨h1, _⟩)
    · exact .inr h1
    · exact .inl h1
    · exact .inr h1
  · rintro (h1 | h1)
    · exact .inr (.inl h1)
    · have := h u h1
      rcases Int.lt_or_gt_of_ne this with h2 | h2
      · exact .inl ⟨h1, by simpa using h2⟩
      · exact .inr (.inr ⟨h1, by simpa using h2⟩)
theorem insTr_pairwise {t : ITr} {w : List ITr} (hp : w.Pairwise (fun t u => t.a < u.a ∧ u.own &&& t.own = 0)) (h : ∀ u ∈ w, u.own &&& t.own = 0) : (insTr t w).Pairwise (fun t u => t.a < u.a ∧ u.own &&& t.own = 0) := by
  unfold insTr
  rw [List.pairwise_append]
  refine ⟨hp.filter _, List.pairwise_cons.2 ⟨fun u hu => ?_, hp.filter _⟩, fun u hu v hv => ?_⟩
  · obtain ⟨h1, h2⟩ := List.mem_filter.1 hu
    exact ⟨by simpa using h2, h u h1⟩
  · obtain ⟨h1, h2⟩ := List.mem_filter.1 hu
    have h2' : u.a < t.a := by simpa using h2
    rcases List.mem_cons.1 hv with rfl | hv
    · exact ⟨h2', own_zero_comm.1 (h u h1)⟩
    · obtain ⟨h3, h4⟩ := List.mem_filter.1 hv
      have h4' : t.a < v.a := by simpa using h4
      refine ⟨by omega, ?_⟩
      obtain ⟨i, hi, rfl⟩ := List.getElem_of_mem h1
      obtain ⟨j, hj, rfl⟩ := List.getElem_of_mem h3
      rcases Nat.lt_trichotomy i j with h5 | h5 | h5
      · exact (List.pairwise_iff_getElem.1 hp i j hi hj h5).2
      · subst h5; omega
      · have := (List.pairwise_iff_getElem.1 hp j i hj hi h5).1; omega

/-- Which trails some way has. -/
theorem hasP_iff {s : ISheet} (hn : s.l.length ≤ 9) (F : Int) {t : ITr} (ht : t ∈ s.trails) : hasP s.trails s.l.length F t = true ↔ ∃ w, Goes s.trails 0 0 w ∧ flawsW s.l.length 0 w ≤ F ∧ t ∈ w := by
  unfold hasP
  rw [decide_eq_true_iff, many_iff F ((tp_of hn).filter _) 0 (by omega) t.own]
  constructor
  · rintro ⟨w, h1, h2⟩
    obtain ⟨h3, h4⟩ := (goes_set w 0 t.own).1 h1
    have hwf : ∀ u ∈ w, u.wf s.l.length := fun u hu => trails_wf u (List.mem_filter.1 (h3 u hu).1).1
    have hne : ∀ u ∈ w, u.a ≠ t.a := fun u hu => own_self (hwf u hu) (h3 u hu).2.2 (trails_wf t ht)
    refine ⟨insTr t w, (goes_set _ 0 0).2 ⟨fun u hu => ?_, insTr_pairwise h4 (fun u hu => (h3 u hu).2.2)⟩, ?_, (mem_insTr hne).2 (.inl rfl)⟩
    · rcases (mem_insTr hne).1 hu with rfl | hu
      · exact ⟨ht, (trails_wf u ht).a.1, Nat.and_zero _⟩
      · exact ⟨(List.mem_filter.1 (h3 u hu).1).1, (h3 u hu).2.1, Nat.and_zero _⟩
    · have e : ownAll (insTr t w) = t.own ||| ownAll w := by
        rw [← ownAll_cons]
        exact ownAll_set fun u => by rw [mem_insTr hne, List.mem_cons]
      unfold flawsW at h2 ⊢
      rw [e, Nat.zero_or]
      exact h2
  · rintro ⟨w, h1, h2, h3⟩
    obtain ⟨h4, h5⟩ := (goes_set w 0 0).1 h1
    have hd : ∀ u ∈ w, u ≠ t → u.own &&& t.own = 0 := fun u hu hne => by
      obtain ⟨i, hi, rfl⟩ := List.getElem_of_mem hu
      obtain ⟨j, hj, rfl⟩ := List.getElem_of_mem h3
      rcases Nat.lt_trichotomy i j with h6 | h6 | h6
      · exact own_zero_comm.1 (List.pairwise_iff_getElem.1 h5 i j hi hj h6).2
      · subst h6; exact absurd rfl hne
      · exact (List.pairwise_iff_getElem.1 h5 j i hj hi h6).2
    refine ⟨w.filter fun u => u.own &&& t.own == 0, (goes_set _ 0 t.own).2 ⟨fun u hu => ?_, h5.filter _⟩, ?_⟩
    · obtain ⟨k1, k2⟩ := List.mem_filter.1 hu
      have := h4 u k1
      exact ⟨List.mem_filter.2 ⟨this.1, k2⟩, this.2.1, by simpa using k2⟩
    · have e : t.own ||| ownAll (w.filter fun u => u.own &&& t.own == 0) = ownAll w := by
        rw [← ownAll_cons]
        refine Nat.eq_of_testBit_eq fun k => ?_
        rw [ownAll_bit, ownAll_bit, Bool.eq_iff_iff, List.any_eq_true, List.any_eq_true]
        constructor
        · rintro ⟨u, k1, k2⟩
          rcases List.mem_cons.1 k1 with rfl | k1
          · exact ⟨u, h3, k2⟩
          · exact ⟨u, (List.mem_filter.1 k1).1, k2⟩
        · rintro ⟨u, k1, k2⟩
          by_cases e : u = t
          · exact ⟨t, by simp, by rw [← e]; exact k2⟩
          · exact ⟨u, List.mem_cons.2 (.inr (List.mem_filter.2 ⟨k1, by simpa using hd u k1 e⟩)), k2⟩
      unfold flawsW at h2 ⊢
      rw [e]
      rwa [Nat.zero_or] at h2

/-- Is a star within what is told? -/
structure SWithin (v u : IStar) : Prop where
  xl : u.x.lo ≤ v.x.lo
  xh : v.x.hi ≤ u.x.hi
  yl : u.y.lo ≤ v.y.lo
  yh : v.y.hi ≤ u.y.hi
  sl : u.s.lo ≤ v.s.lo
  sh : v.s.hi ≤ u.s.hi
/-- The least that holds all of them. -/
structure JoinOf (S : IStar → Prop) (u : IStar) : Prop where
  all : ∀ v, S v → SWithin v u
  xl : ∃ v, S v ∧ v.x.lo = u.x.lo
  xh : ∃ v, S v ∧ v.x.hi = u.x.hi
  yl : ∃ v, S v ∧ v.y.lo = u.y.lo
  yh : ∃ v, S v ∧ v.y.hi = u.y.hi
  sl : ∃ v, S v ∧ v.s.lo = u.s.lo
  sh : ∃ v, S v ∧ v.s.hi = u.s.hi
theorem joinOf_within {S S' : IStar → Prop} {u u' : IStar} (h : JoinOf S u) (h' : JoinOf S' u') (hs : ∀ v, S v → S' v) : SWithin u u' := by
  obtain ⟨v1, a1, e1⟩ := h.xl
  obtain ⟨v2, a2, e2⟩ := h.xh
  obtain ⟨v3, a3, e3⟩ := h.yl
  obtain ⟨v4, a4, e4⟩ := h.yh
  obtain ⟨v5, a5, e5⟩ := h.sl
  obtain ⟨v6, a6, e6⟩ := h.sh
  exact ⟨by rw [← e1]; exact (h'.all v1 (hs _ a1)).xl, by rw [← e2]; exact (h'.all v2 (hs _ a2)).xh, by rw [← e3]; exact (h'.all v3 (hs _ a3)).yl, by rw [← e4]; exact (h'.all v4 (hs _ a4)).yh, by rw [← e5]; exact (h'.all v5 (hs _ a5)).sl, by rw [← e6]; exact (h'.all v6 (hs _ a6)).sh⟩
theorem within_antisymm {u v : IStar} (h : SWithin u v) (h' : SWithin v u) : u = v := by
  obtain ⟨⟨a, b⟩, ⟨c, d⟩, ⟨e, f⟩⟩ := u
  obtain ⟨⟨a', b'⟩, ⟨c', d'⟩, ⟨e', f'⟩⟩ := v
  obtain ⟨h1, h2, h3, h4, h5, h6⟩ := h
  obtain ⟨k1, k2, k3, k4, k5, k6⟩ := h'
  dsimp only at *
  rw [show a = a' by omega, show b = b' by omega, show c = c' by omega, show d = d' by omega, show e = e' by omega, show f = f' by omega]
theorem joinOf_one (S : IStar → Prop) (u : IStar) (h : S u) (hS : ∀ v, S v → v = u) : JoinOf S u :=
  ⟨fun v hv => by rw [hS v hv]; exact ⟨Int.le_refl _, Int.le_refl _, Int.le_refl _, Int.le_refl _, Int.le_refl _, Int.le_refl _⟩, ⟨u, h, rfl⟩, ⟨u, h, rfl⟩, ⟨u, h, rfl⟩, ⟨u, h, rfl⟩, ⟨u, h, rfl⟩, ⟨u, h, rfl⟩⟩
theorem joinOf_more {S S' : IStar → Prop} {u v : IStar} (h : JoinOf S u) (hS : ∀ x, S' x ↔ S x ∨ x = v) : JoinOf S' (joinTo u v 3) := by
  have e : joinTo u v 3 = ⟨u.x.join v.x, u.y.join v.y, u.s.join v.s⟩ := rfl
  rw [e]
  obtain ⟨w1, a1, e1⟩ := h.xl
  obtain ⟨w2, a2, e2⟩ := h.xh
  obtain ⟨w3, a3, e3⟩ := h.yl
  obtain ⟨w4, a4, e4⟩ := h.yh
  obtain ⟨w5, a5, e5⟩ := h.sl
  obtain ⟨w6, a6, e6⟩ := h.sh
  have hv : S' v := (hS v).2 (.inr rfl)
  refine ⟨fun x hx => ?_, ?_, ?_, ?_, ?_, ?_, ?_⟩
  · rcases (hS x).1 hx with hx | rfl
    · obtain ⟨b1, b2, b3, b4, b5, b6⟩ := h.all x hx
      refine ⟨?_, ?_, ?_, ?_, ?_, ?_⟩ <;> dsimp only [Sp.join] <;> omega
    · refine ⟨?_, ?_, ?_, ?_, ?_, ?_⟩ <;> dsimp only [Sp.join] <;> omega
  · rcases Int.le_total u.x.lo v.x.lo with hh | hh
    · exact ⟨w1, (hS _).2 (.inl a1), by dsimp only [Sp.join]; omega⟩
    · exact ⟨v, hv, by dsimp only [Sp.join]; omega⟩
  · rcases Int.le_total v.x.hi u.x.hi with hh | hh
    · exact ⟨w2, (hS _).2 (.inl a2), by dsimp only [Sp.join]; omega⟩
    · exact ⟨v, hv, by dsimp only [Sp.join]; omega⟩
  · rcases Int.le_total u.y.lo v.y.lo with hh | hh
    · exact ⟨w3, (hS _).2 (.inl a3), by dsimp only [Sp.join]; omega⟩
    · exact ⟨v, hv, by dsimp only [Sp.join]; omega⟩
  · rcases Int.le_total v.y.hi u.y.hi with hh | hh
    · exact ⟨w4, (hS _).2 (.inl a4), by dsimp only [Sp.join]; omega⟩
    · exact ⟨v, hv, by dsimp only [Sp.join]; omega⟩
  · rcases Int.le_total u.s.lo v.s.lo with hh | hh
    · exact ⟨w5, (hS _).2 (.inl a5), by dsimp only [Sp.join]; omega⟩
    · exact ⟨v, hv, by dsimp only [Sp.join]; omega⟩
  · rcases Int.le_total v.s.hi u.s.hi with hh | hh
    · exact ⟨w6, (hS _).2 (.inl a6), by dsimp only [Sp.join]; omega⟩
    · exact ⟨v, hv, by dsimp only [Sp.join]; omega⟩

/-- The stars that an image can be the first one of. -/
def StarsAt (s : ISheet) (T : List ITr) (i : Int) (v : IStar) : Prop := ∃ t ∈ T, t.a = i ∧ hasP s.trails s.l.length s.flaws t = true ∧ s.star t = some v
def WhereIs (s : ISheet) (T : List ITr) (i : Int) : Option IStar → Prop
  | none => ∀ t ∈ T, t.a = i → hasP s.trails s.l.length s.flaws t = false
  | some u => JoinOf (StarsAt s T i) u
theorem where_fold (s : ISheet) (i : Int) : ∀ k, k ≤ s.trails.length → WhereIs s (s.trails.take k) i (whereTo s i k) := by
  intro k
  induction k with
  | zero => intro _ t ht; simp at ht
  | succ k ih =>
    intro hk
    have ih := ih (by omega)
    rw [whereTo_succ s i k (by omega), List.take_succ_eq_append_getElem (by omega)]
    have hin : s.trails[k] ∈ s.trails := List.getElem_mem (by omega)
    generalize s.trails[k] = t at hin
    obtain ⟨v, hv⟩ := trails_star hin
    generalize whereTo s i k = o at ih
    generalize s.trails.take k = T at ih
    unfold whereStep
    by_cases hc : (decide (t.a = i) && hasP s.trails s.l.length s.flaws t) = true
    · rw [if_pos hc]
      rw [Bool.and_eq_true, decide_eq_true_iff] at hc
      rw [hv]
      have hSv : StarsAt s (T ++ [t]) i v := ⟨t, by simp, hc.1, hc.2, hv⟩
      cases o with
      | none =>
        refine joinOf_one _ v hSv ?_
        rintro x ⟨u, hu, h1, h2, h3⟩
        rcases List.mem_append.1 hu with hu | hu
        · have := ih u hu h1; rw [h2] at this; cases this
        · rw [List.mem_singleton] at hu; subst hu; rw [hv] at h3; cases h3; rfl
      | some u =>
        refine joinOf_more (S := StarsAt s T i) ih (fun x => ?_)
        constructor
        · rintro ⟨y, hy, h1, h2, h3⟩
          rcases List.mem_append.1 hy with hy | hy
          · exact .inl ⟨y, hy, h1, h2, h3⟩
          · rw [List.mem_singleton] at hy; subst hy; rw [hv] at h3; cases h3; exact .inr rfl
        · rintro (⟨y, hy, h1, h2, h3⟩ | rfl)
          · exact ⟨y, by simp [hy], h1, h2, h3⟩
          · exact hSv
    · rw [if_neg hc]
      have hno : t.a = i → hasP s.trails s.l.length s.flaws t = false := fun e => by
        cases hh : hasP s.trails s.l.length s.flaws t
        · rfl
        · exact absurd (by rw [hh, e]; simp) hc
      cases o with
      | none =>
        intro u hu e
        rcases List.mem_append.1 hu with hu | hu
        · exact ih u hu e
        · rw [List.mem_singleton] at hu; subst hu; exact hno e
      | some u =>
        have hS : StarsAt s (T ++ [t]) i = StarsAt s T i := by
          funext x
          refine propext ⟨?_, ?_⟩
          · rintro ⟨y, hy, h1, h2, h3⟩
            rcases List.mem_append.1 hy with hy | hy
            · exact ⟨y, hy, h1, h2, h3⟩
            · rw [List.mem_singleton] at hy; subst hy; rw [hno h1] at h2; cases h2
          · rintro ⟨y, hy, h1, h2, h3⟩
            exact ⟨y, by simp [hy], h1, h2, h3⟩
        show JoinOf (StarsAt s (T ++ [t]) i) u
        rw [hS]
        exact ih
theorem where_all (s : ISheet) (i : Int) : WhereIs s s.trails i (whereTo s i s.trails.length) := by
  have := where_fold s i s.trails.length (Nat.le_refl _)
  rwa [List.take_length] at this
end Go.Proofs.Ytacioedolmaofaa
namespace Go.Proofs.Ytacioedolmaofaa
set_option linter.unusedVariables false
set_option maxRecDepth 100000

/-- What is told of all ways, by the ways. -/
structure AggIs (n used : Nat) (L : List (List ITr)) (o : ITold) : Prop where
  some : ∀ k, o.some.testBit k = L.any fun w => (ownAll w).testBit k
  all : ∀ k, k < 64 → o.all.testBit k = L.all fun w => (ownAll w).testBit k
  lo : ∀ w ∈ L, o.lo ≤ w.length
  hi : ∀ w ∈ L, (w.length : Int) ≤ o.hi
theorem agg_is (n used : Nat) : ∀ (m : Nat) (L : List (List ITr)), L.length = m → AggIs n used L (aggOf n used L) := by
  intro m
  induction m with
  | zero =>
    intro L hL
    obtain rfl := List.eq_nil_of_length_eq_zero hL
    refine ⟨fun k => ?_, fun k hk => ?_, fun w hw => absurd hw (List.not_mem_nil), fun w hw => absurd hw (List.not_mem_nil)⟩
    · show (0 : Nat).testBit k = _
      simp
    · show (18446744073709551615 : Nat).testBit k = _
      rw [show (18446744073709551615 : Nat) = 2 ^ 64 - 1 from rfl, Nat.testBit_two_pow_sub_one]
      simpa using hk
  | succ m ih =>
    intro L hL
    obtain ⟨M, w, rfl⟩ : ∃ M w, L = M ++ [w] := ⟨L.dropLast, L.getLast (fun e => by subst e; cases hL), (List.dropLast_concat_getLast _).symm⟩
    obtain ⟨h1, h2, h3, h4⟩ := ih M (by simpa using hL)
    rw [aggOf_snoc]
    refine ⟨fun k => ?_, fun k hk => ?_, fun u hu => ?_, fun u hu => ?_⟩
    · show Nat.testBit (_ ||| _) k = _
      rw [Nat.testBit_or, h1 k, List.any_append]
      simp
    · show Nat.testBit (_ &&& _) k = _
      rw [Nat.testBit_and, h2 k hk, List.all_append]
      simp
    · show min _ _ ≤ _
      rcases List.mem_append.1 hu with hu | hu
      · have := h3 u hu; omega
      · rw [List.mem_singleton] at hu; subst hu; omega
    · show _ ≤ max _ _
      rcases List.mem_append.1 hu with hu | hu
      · have := h4 u hu; omega
      · rw [List.mem_singleton] at hu; subst hu; omega
/-- How many trails: the least and the greatest numbers are reached. -/
theorem agg_len (n used : Nat) (hb : n ≤ 9) : ∀ (m : Nat) (L : List (List ITr)), L.length = m → (∀ w ∈ L, w.length ≤ n) → L ≠ [] → (∃ w ∈ L, (w.length : Int) = (aggOf n used L).lo) ∧ ∃ w ∈ L, (w.length : Int) = (aggOf n used L).hi := by
  intro m
  induction m with
  | zero => intro L hL _ h; exact absurd (List.eq_nil_of_length_eq_zero hL) h
  | succ m ih =>
    intro L hL hn _
    obtain ⟨M, w, rfl⟩ : ∃ M w, L = M ++ [w] := ⟨L.dropLast, L.getLast (fun e => by subst e; cases hL), (List.dropLast_concat_getLast _).symm⟩
    have hw := hn w (by simp)
    rw [aggOf_snoc]
    have e1 : (wayMore n used (aggOf n used M) w).lo = min (aggOf n used M).lo w.length := rfl
    have e2 : (wayMore n used (aggOf n used M) w).hi = max (aggOf n used M).hi w.length := rfl
    rw [e1, e2]
    by_cases hM : M = []
    · subst hM
      have e3 : (aggOf n used []).lo = n + 1 := rfl
      have e4 : (aggOf n used []).hi = -1 := rfl
      rw [e3, e4]
      exact ⟨⟨w, by simp, by omega⟩, ⟨w, by simp, by omega⟩⟩
    · obtain ⟨⟨u, hu, eu⟩, ⟨v, hv, ev⟩⟩ := ih M (by simpa using hL) (fun w hw => hn w (by simp [hw])) hM
      constructor
      · rcases Int.le_total (aggOf n used M).lo w.length with h | h
        · exact ⟨u, by simp [hu], by omega⟩
        · exact ⟨w, by simp, by omega⟩
      · rcases Int.le_total (w.length : Int) (aggOf n used M).hi with h | h
        · exact ⟨v, by simp [hv], by omega⟩
        · exact ⟨w, by simp, by omega⟩

/-- Is a list of trails a way? -/
def IsWay (s : ISheet) (w : List ITr) : Prop := Goes s.trails 0 0 w ∧ flawsW s.l.length 0 w ≤ s.flaws
/-- The images that surely are of stars, and those that are flaws. -/
def tStars (s : ISheet) : Nat := (wayTold s).all &&& (2 ^ s.l.length - 1)
def tFlaws (s : ISheet) : Nat := iandN (2 ^ s.l.length - 1) (wayTold s).some
theorem goes_len {T : List ITr} {n : Nat} (hT : ∀ t ∈ T, t.a < n) : ∀ (w : List ITr) (fr : Int) (used : Nat), fr ≤ n → Goes T fr used w → (w.length : Int) ≤ n - fr
  | [], fr, used, h, _ => by simp; omega
  | t::w, fr, used, h, hg => by
    have h1 := mem_next.1 hg.1
    have := hT t h1.1
    have := goes_len hT w (t.a + 1) _ (by omega) hg.2
    simp only [List.length_cons]
    omega
/-- What is told of all ways of a sheet. -/
structure TellIs (s : ISheet) : Prop where
  stars : ∀ k, (tStars s).testBit k = true ↔ k < s.l.length ∧ ∀ w, IsWay s w → usedIn w (k : Int) = true
  flaws : ∀ k, (tFlaws s).testBit k = true ↔ k < s.l.length ∧ ∀ w, IsWay s w → usedIn w (k : Int) = false
  lo : ∀ w, IsWay s w → (wayTold s).lo ≤ w.length
  hi : ∀ w, IsWay s w → (w.length : Int) ≤ (wayTold s).hi
  lo' : ∃ w, IsWay s w ∧ (w.length : Int) = (wayTold s).lo
  hi' : ∃ w, IsWay s w ∧ (w.length : Int) = (wayTold s).hi
theorem way_mem {s : ISheet} (hn : s.l.length ≤ 9) (w : List ITr) : w ∈ waysOf s.trails s.l.length s.flaws s.l.length 0 0 ↔ IsWay s w := mem_ways s.flaws (tp_of hn).lt s.l.length 0 0 w (by omega)
theorem way_wf {s : ISheet} {w : List ITr} (h : IsWay s w) : ∀ t ∈ w, t.wf s.l.length := fun t ht => trails_wf t (goes_mem h.1 t ht)
theorem way_len {s : ISheet} {w : List ITr} (h : IsWay s w) : w.length ≤ s.l.length := by
  have := goes_len (T := s.trails) (n := s.l.length) (fun t ht => (trails_wf t ht).a.2) w 0 0 (by omega) h.1
  omega
theorem iandN_bit {n a : Nat} (hn : n ≤ 9) (ha : a < 2 ^ 64) (k : Nat) : (iandN (2 ^ n - 1) a).testBit k = (decide (k < n) && !a.testBit k) := by
  unfold iandN
  rw [Nat.testBit_and, Nat.testBit_two_pow_sub_one]
  by_cases hk : k < n
  · have e : 18446744073709551615 - a = 2 ^ 64 - (a + 1) := by omega
    rw [e, Nat.testBit_two_pow_sub_succ ha]
    have : k < 64 := by omega
    simp [this]
  · simp [hk]
theorem tellIs {s : ISheet} (hok : s.ok = true) (h : (wayTold s).many ≠ 0) : TellIs s := by
  have hn : s.l.length ≤ 9 := ((iok_iff s).1 hok).2.2.2.2.2.2.2.2.2
  have hb := (way_told_b s hok).some
  have e : wayTold s = aggOf s.l.length 0 (waysOf s.trails s.l.length s.flaws s.l.length 0 0) := tellN_ways s.flaws (tp_of hn) 0 (by omega) 0
  have hA := agg_is s.l.length 0 _ (waysOf s.trails s.l.length s.flaws s.l.length 0 0) rfl
  have hW := way_mem (s := s) hn
  have hne : waysOf s.trails s.l.length s.flaws s.l.length 0 0 ≠ [] := by
    intro e2
    rw [e, e2] at h
    exact h rfl
  have hL := agg_len s.l.length 0 hn _ (waysOf s.trails s.l.length s.flaws s.l.length 0 0) rfl (fun w hw => way_len ((hW w).1 hw)) hne
  rw [← e] at hA hL
  have hbit : ∀ w, IsWay s w → ∀ k : Nat, usedIn w (k : Int) = (ownAll w).testBit k := fun w hw k => usedIn_bit (n := s.l.length) w (way_wf hw) k
  refine ⟨fun k => ?_, fun k => ?_, fun w hw => hA.lo w ((hW w).2 hw), fun w hw => hA.hi w ((hW w).2 hw), ?_, ?_⟩
  · unfold tStars
    rw [Nat.testBit_and, Nat.testBit_two_pow_sub_one, Bool.and_eq_true, decide_eq_true_iff, and_comm]
    refine and_congr_right fun hk => ?_
    rw [hA.all k (by omega), List.all_eq_true]
    constructor
    · intro h2 w hw; rw [hbit w hw]; exact h2 w ((hW w).2 hw)
    · intro h2 w hw; rw [← hbit w ((hW w).1 hw)]; exact h2 w ((hW w).1 hw)
  · unfold tFlaws
    rw [iandN_bit hn (Nat.lt_trans hb (by decide)), Bool.and_eq_true, decide_eq_true_iff]
    refine and_congr_right fun hk => ?_
    rw [hA.some k, Bool.not_eq_true', List.any_eq_false]
    constructor
    · intro h2 w hw; rw [hbit w hw]; simpa using h2 w ((hW w).2 hw)
    · intro h2 w hw; rw [← hbit w ((hW w).1 hw), h2 w ((hW w).1 hw)]; simp
  · obtain ⟨w, hw, e2⟩ := hL.1
    exact ⟨w, (hW w).1 hw, e2⟩
  · obtain ⟨w, hw, e2⟩ := hL.2
    exact ⟨w, (hW w).1 hw, e2⟩

/-- Where the star of a trail lies, by its first image. -/
structure StarIn (s : ISheet) (i : Int) (u : IStar) : Prop where
  x : (s.at' i).x.lo ≤ u.x.lo ∧ u.x.lo ≤ u.x.hi ∧ u.x.hi ≤ (s.at' i).x.hi
  y : (s.at' i).y.lo ≤ u.y.lo ∧ u.y.lo ≤ u.y.hi ∧ u.y.hi ≤ (s.at' i).y.hi
  s : s.limit ≤ u.s.lo ∧ (s.at' i).s.lo ≤ u.s.lo ∧ u.s.lo ≤ u.s.hi ∧ u.s.hi ≤ (s.at' i).s.hi
theorem starStep_in {s : ISheet} {o o' : IStar} {i : Int} {sx sy fd : Sp} (h : starStep s o i sx sy fd = some o') : o.x.lo ≤ o'.x.lo ∧ o'.x.hi ≤ o.x.hi ∧ o.y.lo ≤ o'.y.lo ∧ o'.y.hi ≤ o.y.hi ∧ o.s.lo ≤ o'.s.lo ∧ o'.s.hi ≤ o.s.hi := by
  unfold starStep at h
  split at h
  · cases h
    dsimp only [Sp.meet]
    omega
  · dsimp only at h
    split at h
    · cases h
    · cases h
      dsimp only [Sp.meet]
      omega
theorem star_in {s : ISheet} {t : ITr} {u : IStar} (h : s.star t = some u) : StarIn s t.a u := by
  unfold ISheet.star at h
  dsimp only at h
  rw [Option.bind_eq_some_iff] at h
  obtain ⟨o1, h1, h⟩ := h
  rw [Option.bind_eq_some_iff] at h
  obtain ⟨o2, h2, h3⟩ := h
  have k1 := starStep_in h1
  have k2 := starStep_in h2
  have h4 : o2 = u ∧ ¬ (o2.x.hi < o2.x.lo ∨ o2.y.hi < o2.y.lo ∨ o2.s.hi < o2.s.lo) := by
    refine ⟨?_, fun hh => ?_⟩
    · unfold starEnd at h3
      split at h3
      · cases h3
      · cases h3; rfl
    · rw [(starEnd_none o2).2 hh] at h3
      cases h3
  obtain ⟨rfl, h4⟩ := h4
  dsimp only [Sp.meet] at k1
  refine ⟨?_, ?_, ?_⟩ <;> omega
theorem joinOf_in {s : ISheet} {i : Int} {S : IStar → Prop} {u : IStar} (h : JoinOf S u) (hS : ∀ v, S v → StarIn s i v) : StarIn s i u := by
  obtain ⟨w1, a1, e1⟩ := h.xl
  obtain ⟨w2, a2, e2⟩ := h.xh
  obtain ⟨w3, a3, e3⟩ := h.yl
  obtain ⟨w4, a4, e4⟩ := h.yh
  obtain ⟨w5, a5, e5⟩ := h.sl
  obtain ⟨w6, a6, e6⟩ := h.sh
  have k1 := (hS _ a1).x
  have k2 := (hS _ a2).x
  have k3 := (hS _ a3).y
  have k4 := (hS _ a4).y
  have k5 := (hS _ a5).s
  have k6 := (hS _ a6).s
  have j1 := h.all _ a1
  have j3 := h.all _ a3
  have j5 := h.all _ a5
  have := j1.xl; have := j1.xh; have := j3.yl; have := j3.yh; have := j5.sl; have := j5.sh
  refine ⟨?_, ?_, ?_⟩ <;> omega
/-- Where the star of an image is told to be. -/
theorem where_way {s : ISheet} (hok : s.ok = true) {i : Int} {w : List ITr} (hw : IsWay s w) {t : ITr} (ht : t ∈ w) (hi : t.a = i) : ∃ u v, whereTo s i s.trails.length = some u ∧ s.star t = some v ∧ SWithin v u := by
  have hn : s.l.length ≤ 9 := ((iok_iff s).1 hok).2.2.2.2.2.2.2.2.2
  have htr := goes_mem hw.1 t ht
  obtain ⟨v, hv⟩ := trails_star htr
  have hh : hasP s.trails s.l.length s.flaws t = true := (hasP_iff hn s.flaws htr).2 ⟨w, hw.1, hw.2, ht⟩
  have hA := where_all s i
  cases hu : whereTo s i s.trails.length with
  | none =>
    rw [hu] at hA
    have := hA t htr hi
    rw [hh] at this
    cases this
  | some u =>
    rw [hu] at hA
    exact ⟨u, v, rfl, hv, hA.all v ⟨t, htr, hi, hh, hv⟩⟩
theorem where_some {s : ISheet} (hok : s.ok = true) {i : Int} {u : IStar} (hu : whereTo s i s.trails.length = some u) : StarIn s i u ∧ ∃ w, IsWay s w ∧ usedIn w i = true := by
  have hn : s.l.length ≤ 9 := ((iok_iff s).1 hok).2.2.2.2.2.2.2.2.2
  have hA := where_all s i
  rw [hu] at hA
  refine ⟨joinOf_in hA (fun v hv => ?_), ?_⟩
  · obtain ⟨t, h1, h2, h3, h4⟩ := hv
    rw [← h2]
    exact star_in h4
  · obtain ⟨v, ⟨t, h1, h2, h3, h4⟩, _⟩ := hA.xl
    obtain ⟨w, h5, h6, h7⟩ := (hasP_iff hn s.flaws h1).1 h3
    refine ⟨w, ⟨h5, h6⟩, ?_⟩
    unfold usedIn
    rw [List.any_eq_true]
    exact ⟨t, h7, by simp [h2]⟩
theorem goes_wf {s : ISheet} {w : List ITr} (hw : Goes s.trails 0 0 w) : ∀ t ∈ w, t.wf s.l.length := fun t ht => trails_wf t (goes_mem hw t ht)
end Go.Proofs.Ytacioedolmaofaa
namespace Go.Proofs.Ytacioedolmaofaa
open Go.RowKit
set_option maxRecDepth 100000
set_option linter.unusedVariables false

theorem iandI (a b : Nat) (ha : a < 9223372036854775808) (hb : b < 18446744073709551616) : bits .and .i64 (a : Int) (b : Int) = ((a &&& b : Nat) : Int) := by
  have hx : a &&& b < 2 ^ 63 := Nat.lt_of_le_of_lt Nat.and_le_left (by omega)
  show IntKind.i64.wrap ((BitVec.ofInt 64 (a : Int) &&& BitVec.ofInt 64 (b : Int)).toNat : Int) = _
  rw [BitVec.toNat_and, ofInt_u64 a (by omega), ofInt_u64 b hb, IntKind.wrap_i64]
  omega
theorem iandNotI (a b : Nat) (ha : a < 9223372036854775808) (hb : b < 18446744073709551616) : bits .andNot .i64 (a : Int) (b : Int) = ((a &&& (18446744073709551615 - b) : Nat) : Int) := by
  have hx : a &&& (18446744073709551615 - b) < 2 ^ 63 := Nat.lt_of_le_of_lt Nat.and_le_left (by omega)
  show IntKind.i64.wrap ((BitVec.ofInt 64 (a : Int) &&& ~~~BitVec.ofInt 64 (b : Int)).toNat : Int) = _
  rw [BitVec.toNat_and, BitVec.toNat_not, ofInt_u64 a (by omega), ofInt_u64 b hb, IntKind.wrap_i64]
  have e : 2 ^ 64 - 1 - b = 18446744073709551615 - b := by omega
  rw [e]
  omega
theorem ibitI (a k : Nat) (ha : a < 9223372036854775808) : bits .and .i64 ((a : Int) / 2 ^ k) 1 = if a.testBit k then 1 else 0 := by
  rw [shr_u64, show (1 : Int) = ((1 : Nat) : Int) from rfl, iandI _ _ (Nat.lt_of_le_of_lt (Nat.div_le_self _ _) ha) (by omega), Nat.and_one_is_mod, Nat.testBit_eq_decide_div_mod_eq]
  by_cases h : a / 2 ^ k % 2 = 1
  · simp [h]
  · have : a / 2 ^ k % 2 = 0 := by omega
    simp [this]
theorem ishrI {a k : Nat} (h : a < 2 ^ k) : (a : Int) / 2 ^ k = 0 := by rw [shr_u64, Nat.div_eq_of_lt h]; rfl

/-- What ImageOpen finds. -/
structure OpenFacts (s : ISheet) (st fl : Nat) (lo hi : Int) (l : List ITr) : Prop where
  st9 : st < 512
  fl9 : fl < 512
  stn : st < 2 ^ s.l.length
  fln : fl < 2 ^ s.l.length
  no : st &&& fl = 0
  len : l.length ≤ 9
  lo1 : lo ≤ l.length
  hi1 : (l.length : Int) ≤ hi
  lo0 : 0 ≤ lo
  hin : hi ≤ s.l.length
  used : ∀ k, (st.testBit k = true → usedIn l (k : Int) = true) ∧ (fl.testBit k = true → usedIn l (k : Int) = false)
  tr : ∀ t ∈ l, t ∈ s.trails
  no' : ∀ k, k < s.l.length → whereTo s (k : Int) s.trails.length = none → ∀ t ∈ l, t.a ≠ (k : Int)
  at' : ∀ k, k < s.l.length → ∀ u, whereTo s (k : Int) s.trails.length = some u → fl.testBit k = false ∧ StarIn s (k : Int) u ∧ ∀ t ∈ l, t.a = (k : Int) → ∃ v, s.star t = some v ∧ SWithin v u
theorem bits_lt {a n : Nat} (h : ∀ k, a.testBit k = true → k < n) : a < 2 ^ n := by
  by_cases hc : a < 2 ^ n
  · exact hc
  · exfalso
    obtain ⟨k, hk, hb⟩ := Nat.exists_ge_and_testBit_of_ge_two_pow (Nat.le_of_not_lt hc)
    have := h k hb
    omega
theorem openFacts {s : ISheet} (hok : s.ok = true) (hm : (wayTold s).many ≠ 0) : OpenFacts s (tStars s) (tFlaws s) (wayTold s).lo (wayTold s).hi (fewW s.trails s.l.length (wayTold s).flaws 10 0 0) := by
  have hn : s.l.length ≤ 9 := ((iok_iff s).1 hok).2.2.2.2.2.2.2.2.2
  have hF := fewIs hn hm
  have hT := tellIs hok hm
  have hway : IsWay s (fewW s.trails s.l.length (wayTold s).flaws 10 0 0) := by
    refine ⟨hF.goes, ?_⟩
    rw [← flawN_flawsW hn _ (goes_wf hF.goes), hF.flaws]
    exact (way_iff hn).1 hm
  generalize fewW s.trails s.l.length (wayTold s).flaws 10 0 0 = l at hF hway
  have h1 : tStars s < 2 ^ s.l.length := bits_lt fun k hk => ((hT.stars k).1 hk).1
  have h2 : tFlaws s < 2 ^ s.l.length := bits_lt fun k hk => ((hT.flaws k).1 hk).1
  have h3 : 2 ^ s.l.length ≤ 2 ^ 9 := Nat.pow_le_pow_right (by omega) hn
  refine ⟨by omega, by omega, h1, h2, (and_zero_iff _ _).2 fun k hk => ?_, by have := way_len hway; omega, hT.lo l hway, hT.hi l hway, ?_, ?_, fun k => ⟨fun hk => ((hT.stars k).1 hk).2 l hway, fun hk => ((hT.flaws k).1 hk).2 l hway⟩, goes_mem hF.goes, fun k hk hw t ht e => ?_, fun k hk u hu => ⟨?_, (where_some hok hu).1, fun t ht e => ?_⟩⟩
  · cases hb : (tFlaws s).testBit k
    · rfl
    · have a := ((hT.stars k).1 hk).2 l hway
      have b := ((hT.flaws k).1 hb).2 l hway
      rw [a] at b
      cases b
  · obtain ⟨w, _, e⟩ := hT.lo'; omega
  · obtain ⟨w, hw, e⟩ := hT.hi'; have := way_len hw; omega
  · obtain ⟨u, v, h4, _⟩ := where_way hok hway ht e
    rw [hw] at h4
    cases h4
  · cases hb : (tFlaws s).testBit k
    · rfl
    · obtain ⟨w, hw, hu2⟩ := (where_some hok hu).2
      rw [((hT.flaws k).1 hb).2 w hw] at hu2
      cases hu2
  · obtain ⟨u', v, h4, h5, h6⟩ := where_way hok hway ht e
    rw [hu] at h4
    cases h4
    exact ⟨v, h5, h6⟩
end Go.Proofs.Ytacioedolmaofaa
