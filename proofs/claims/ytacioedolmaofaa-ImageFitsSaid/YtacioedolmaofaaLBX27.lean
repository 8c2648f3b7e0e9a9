/- The reference's Fits. The reference: rows of ways that a call collects. The reference's ways, plain: from some trails on, by three numbers. Regions of the reference's ways. Plain Lean: what the law ImageFew asks of the first way with the fewest flaws. -/
import Derived.Test.YtacioedolmaofaaLBX26
import Derived.Test.YtacioedolmaofaaLBX20
import Derived.BigQuiet
import Derived.Test.YtacioedolmaofaaLBX21
import Derived.Test.YtacioedolmaofaaLBX24
namespace Go.Proofs.Ytacioedolmaofaa
open Go.RowKit Go.Shelf
set_option maxHeartbeats 6400000
set_option maxRecDepth 100000
set_option linter.unusedSimpArgs false
set_option linter.unusedVariables false

theorem irFits_any (s : ISheet) (fa : Option Addr) (fc : Nat) (t : ITr) (w : World) (hl : ImSl w fa s.l) (hlen : s.l.length < 9223372036854775807) :
    Calls Try.prog 14 #[.agg #[.int .i64 s.ax.lo, .int .i64 s.ax.hi, .int .i64 s.ay.lo, .int .i64 s.ay.hi, .int .i64 s.bx.lo, .int .i64 s.bx.hi, .int .i64 s.by'.lo, .int .i64 s.by'.hi, .int .i64 s.f.lo, .int .i64 s.f.hi, .int .i64 s.g.lo, .int .i64 s.g.hi, .int .i64 s.limit, .int .i64 s.flaws, .slice fa s.l.length fc], .agg #[.int .i64 t.a, .int .i64 t.b, .int .i64 t.c]] w fun e w' => e = .returned (.tuple #[.bool (itFits s t).1, .int .i64 (itFits s t).2]) ∧ Below w.heap.size w w' := by
  obtain ⟨rv, hrv⟩ : ∃ rv, itFits s t = rv := ⟨_, rfl⟩
  rw [hrv]
  have HRV := Lib.hid hrv
  clear hrv
  unfold itFits at HRV
  go_enter Try.func14, Try.ntmps14
  go_wp2_with fail
  obtain ⟨W0, hW0⟩ : ∃ W, ((w.alloc (.cells #[.int .i64 s.ax.lo, .int .i64 s.ax.hi, .int .i64 s.ay.lo, .int .i64 s.ay.hi, .int .i64 s.bx.lo, .int .i64 s.bx.hi, .int .i64 s.by'.lo, .int .i64 s.by'.hi, .int .i64 s.f.lo, .int .i64 s.f.hi, .int .i64 s.g.lo, .int .i64 s.g.hi, .int .i64 s.limit, .int .i64 s.flaws, .slice fa s.l.length fc] 30)).alloc (.cells #[.int .i64 t.a, .int .i64 t.b, .int .i64 t.c] 32)) = W := ⟨_, rfl⟩
  rw [hW0]
  try simp only [Nat.add_assoc, Nat.reduceAdd]
  have hst_W0 : Steps (fun _ => False) w W0 := by rw [← hW0]; exact (Steps.alloc _ w _).trans (Steps.alloc (fun _ => False) _ _) (fun _ _ h => h)
  have hz_W0 : W0.heap.size = w.heap.size + 2 := by rw [← hW0]; simp
  have g0_W0 : W0.heap[w.heap.size]? = some (.cells #[.int .i64 s.ax.lo, .int .i64 s.ax.hi, .int .i64 s.ay.lo, .int .i64 s.ay.hi, .int .i64 s.bx.lo, .int .i64 s.bx.hi, .int .i64 s.by'.lo, .int .i64 s.by'.hi, .int .i64 s.f.lo, .int .i64 s.f.hi, .int .i64 s.g.lo, .int .i64 s.g.hi, .int .i64 s.limit, .int .i64 s.flaws, .slice fa s.l.length fc] 30) := by rw [← hW0]; simp only [alloc_get, World.size_alloc]; repeat (first | exact if_pos trivial | exact if_pos (by omega) | rw [if_neg (by omega)])
  have g1_W0 : W0.heap[w.heap.size + 1]? = some (.cells #[.int .i64 t.a, .int .i64 t.b, .int .i64 t.c] 32) := by rw [← hW0]; simp only [alloc_get, World.size_alloc]; repeat (first | exact if_pos trivial | exact if_pos (by omega) | rw [if_neg (by omega)])
  clear hW0
  have hb0 : Below w.heap.size w W0 := hst_W0.below (Nat.le_refl _) (fun _ _ h => h)
  have hl0 := hl.below hb0 (Nat.le_refl _)
  obtain ⟨z, hz⟩ : ∃ z, w.heap.size = z := ⟨_, rfl⟩
  rw [hz] at g0_W0 g1_W0
  try rw [hz]
  have HZ := Lib.hid hz
  refine (irSheet_any s fa fc W0 hl0 hlen).mono ?_
  rintro e w1 ⟨rfl, hb1⟩
  have hB1 := hb0.trans (hb1.mono hb0.size)
  have hl1 := hl0.below hb1 (Nat.le_refl _)
  have hx1 := obj_later hb1 g0_W0
  have hy1 := obj_later hb1 g1_W0
  clear hst_W0 hz_W0 g0_W0 g1_W0 hb1 hb0 hl0 hz
  have cz := fun i => cell_block hx1 i
  have x0 := cz 0
  have x1 := cz 1
  have x2 := cz 2
  have x3 := cz 3
  have x4 := cz 4
  have x5 := cz 5
  have x6 := cz 6
  have x7 := cz 7
  have x8 := cz 8
  have x9 := cz 9
  have x10 := cz 10
  have x11 := cz 11
  have x12 := cz 12
  have x13 := cz 13
  have x14 := cz 14
  clear cz
  simp only [gA, gB, gC] at x0 x1 x2 x3 x4 x5 x6 x7 x8 x9 x10 x11 x12 x13 x14
  have cz := fun i => cell_block hy1 i
  have y0 := cz 0
  have y1 := cz 1
  have y2 := cz 2
  clear cz
  simp only [gA, gB, gC] at y0 y1 y2
  cases hok : s.ok
  · have hrv := HRV.out
    rw [if_neg (by rw [hok]; simp)] at hrv
    subst hrv
    clear HRV hok
    go_wp2_with fail
    go_ret2
    exact ⟨rfl, by first | exact hB1 | (rw [← HZ.out]; exact hB1)⟩
  · have hrv := HRV.out
    rw [if_pos hok] at hrv
    have HRV := Lib.hid hrv
    have HOK := Lib.hid hok
    clear hrv hok
    go_wp2_with fail
    refine (irTrail_any s fa fc t w1 hlen).mono ?_
    rintro e w2 ⟨rfl, hb2⟩
    have hB2 := hB1.trans (hb2.mono hB1.size)
    have hl2 := hl1.below hb2 (Nat.le_refl _)
    have hx2 := obj_later hb2 hx1
    have hy2 := obj_later hb2 hy1
    clear x0 x1 x2 x3 x4 x5 x6 x7 x8 x9 x10 x11 x12 x13 x14 y0 y1 y2 hb2 hx1 hy1
    have cz := fun i => cell_block hx2 i
    have x0 := cz 0
    have x1 := cz 1
    have x2 := cz 2
    have x3 := cz 3
    have x4 := cz 4
    have x5 := cz 5
    have x6 := cz 6
    have x7 := cz 7
    have x8 := cz 8
    have x9 := cz 9
    have x10 := cz 10
    have x11 := cz 11
    have x12 := cz 12
    have x13 := cz 13
    have x14 := cz 14
    clear cz
    simp only [gA, gB, gC] at x0 x1 x2 x3 x4 x5 x6 x7 x8 x9 x10 x11 x12 x13 x14
    have cz := fun i => cell_block hy2 i
    have y0 := cz 0
    have y1 := cz 1
    have y2 := cz 2
    clear cz
    simp only [gA, gB, gC] at y0 y1 y2
    cases htk : t.ok s.l.length
    · have hrv := HRV.out
      rw [if_neg (by rw [htk]; simp)] at hrv
      subst hrv
      clear HRV htk
      go_wp2_with fail
      go_ret2
      exact ⟨rfl, by first | exact hB2 | (rw [← HZ.out]; exact hB2)⟩
    · have hrv := HRV.out
      rw [if_pos htk] at hrv
      have HRV := Lib.hid hrv
      have HTK := Lib.hid htk
      clear hrv htk
      go_wp2_with fail
      refine (irOf_any s fa fc t w2 HOK.out HTK.out hl2).mono ?_
      rintro e w3 ⟨rfl, hb3⟩
      have hB3 := hB2.trans (hb3.mono hB2.size)
      clear x0 x1 x2 x3 x4 x5 x6 x7 x8 x9 x10 x11 x12 x13 x14 y0 y1 y2 hb3 hx2 hy2
      cases hst : s.star t with
      | none =>
        have hrv := HRV.out
        rw [hst] at hrv
        subst hrv
        clear HRV hst
        unfold starV
        go_wp2_with fail
        go_ret2
        exact ⟨rfl, by first | exact hB3.alloc hB3.size _ | (rw [← HZ.out]; exact hB3.alloc hB3.size _)⟩
      | some o =>
        have hrv := HRV.out
        rw [hst] at hrv
        subst hrv
        clear HRV hst
        unfold starV
        go_wp2_with fail
        go_ret2
        exact ⟨rfl, by first | exact hB3.alloc hB3.size _ | (rw [← HZ.out]; exact hB3.alloc hB3.size _)⟩
end Go.Proofs.Ytacioedolmaofaa
namespace Go.Proofs.Ytacioedolmaofaa
open Go.RowKit Go.Shelf
set_option maxHeartbeats 3200000
set_option maxRecDepth 100000
set_option linter.unusedSimpArgs false
set_option linter.unusedVariables false

/-- A block of trails. -/
def TrsAt (w : World) (q : Nat) (xs : List ITr) : Prop := ∃ cs T, w.heap[q]? = some (.cells cs T (0, 0)) ∧ ∀ (j : Nat) (u : Value), (trsCells xs)[j]? = some u → cs[j]? = some u
theorem TrsAt.lt {w : World} {q : Nat} {xs : List ITr} (h : TrsAt w q xs) : q < w.heap.size := by
  obtain ⟨cs, T, hg, _⟩ := h
  exact (Array.getElem?_eq_some_iff.1 hg).1
theorem TrsAt.later {w w' : World} {q : Nat} {xs : List ITr} (h : TrsAt w q xs) (hb : w'.heap[q]? = w.heap[q]?) : TrsAt w' q xs := by
  obtain ⟨cs, T, hg, hc⟩ := h
  exact ⟨cs, T, hb.trans hg, hc⟩
theorem TrsAt.cell {w : World} {q : Nat} {xs : List ITr} (h : TrsAt w q xs) (j : Nat) (u : Value) (hu : (trsCells xs)[j]? = some u) : w.cell? ⟨q, j, none⟩ = some u := by
  obtain ⟨cs, T, hg, hc⟩ := h
  rw [cell_block hg]
  exact hc j u hu
theorem TrsAt.sl {w : World} {q : Nat} {xs : List ITr} (h : TrsAt w q xs) : TrSl w (some ⟨q, 0, none⟩) xs := by
  intro k hk
  have hj : ∀ j, j < 3 → w.cell? ⟨q, 0 + k * 3 + j, none⟩ = (trCells xs[k])[j]? := fun j hj => by
    have e := trsCells_get xs k j hk hj
    have hl : j < (trCells xs[k]).length := by simpa [trCells] using hj
    rw [List.getElem?_eq_getElem hl] at e ⊢
    rw [Nat.zero_add]
    exact h.cell _ _ e
  exact ⟨q, 0, rfl, h.lt, hj 0 (by omega), hj 1 (by omega), hj 2 (by omega)⟩
theorem trsCells_one (l : List ITr) : ∀ u ∈ trsCells l, u.oneCell' = true := by
  intro u hu
  unfold trsCells at hu
  obtain ⟨t, _, h⟩ := List.mem_flatMap.1 hu
  exact trCells_one t u h
theorem infoTRow : (Try.prog.info? 41).map (fun i => (i.zero, i.size, i.bytes)) = some (some (.slice none 0 0), 1, 24) := by kernel_rfl

/-- A list among those that are collected; rb: the block of the row. -/
def TEl (w : World) (base : Nat) (rb : Option Nat) (x : List ITr) (v : Value) : Prop :=
  ∃ a cap, v = .slice a x.length cap ∧ ((a = none ∧ x = []) ∨ ∃ q, a = some ⟨q, 0, none⟩ ∧ TrsAt w q x ∧ base ≤ q ∧ rb ≠ some q)
theorem TEl.grown {w w' : World} {base : Nat} {rb rb' : Option Nat} {x : List ITr} {v : Value} (h : TEl w base rb x v) (hg : w.grownBy w' rb) (hr : rb' = rb ∨ ∃ g, rb' = some g ∧ w.heap.size ≤ g) : TEl w' base rb' x v := by
  obtain ⟨a, cap, rfl, h⟩ := h
  refine ⟨a, cap, rfl, h.imp id ?_⟩
  rintro ⟨q, rfl, hI, hb, hq⟩
  refine ⟨q, rfl, hI.later (hg.block q hI.lt (fun e => hq e.symm)), hb, fun e => ?_⟩
  rcases hr with rfl | ⟨g, rfl, hlt⟩
  · exact hq e
  · have := hI.lt
    cases e
    omega

/-- What is collected. -/
def TOut (w : World) (base : Nat) (v : Value) (L : List (List ITr)) : Prop :=
  ∃ xs, w.ownsRow base 41 1 v L.length xs ∧ ∀ i (h : i < L.length), ∃ u, xs[i]? = some u ∧ TEl w base v.ownBlock L[i] u
theorem TOut.nil (w : World) (base : Nat) : TOut w base (.slice none 0 0) [] := ⟨[], World.ownsRow_nil w base _ 1, fun i h => by cases h⟩

/-- A list more. -/
theorem TOut.append (w : World) (base : Nat) (v : Value) (L : List (List ITr)) (h : TOut w base v L) (x : List ITr) (u : Value) (hx : TEl w base v.ownBlock x u) (m c : Nat) (hm : w.cell? ⟨m, 0, none⟩ = some u) (hn : L.length ≤ 1000000000000) (hbase : base ≤ w.heap.size) :
    ∃ v' w', (Builtin.append_ #[95, 95] 95 #[v, .slice (some ⟨m, 0, none⟩) 1 c]).run Try.prog w = .ok v' w' ∧ TOut w' base v' (L ++ [x]) ∧ w.grownBy w' v.ownBlock ∧ RowNext w v v' := by
  obtain ⟨xs, hown, hel⟩ := h
  obtain ⟨i0, hi, hz0, hz1, hz2⟩ := info_parts infoTRow
  have hu : u.oneCell' = true := by obtain ⟨a, cap, rfl, _⟩ := hx; rfl
  obtain ⟨v', w', hrun, hown', hgrow, hnext, _⟩ := appendOne w base 95 41 i0 _ 24 Try.underlying95 hi hz0 hz1 hz2 rfl v L.length xs hown u hu m c hm (by omega) (by unfold maxLen; omega) hbase
  refine ⟨v', w', hrun, ⟨xs ++ [u], by rw [List.length_append]; exact hown', fun i hi => ?_⟩, hgrow, hnext⟩
  have hxl : xs.length = L.length := by have := hown.1; omega
  by_cases h : i < L.length
  · obtain ⟨u', h1, h2⟩ := hel i h
    refine ⟨u', by rw [List.getElem?_append_left (by omega)]; exact h1, ?_⟩
    rw [List.getElem_append_left h]
    exact h2.grown hgrow hnext
  · have : i = L.length := by simp at hi; omega
    subst this
    refine ⟨u, by rw [List.getElem?_append_right (by omega), hxl]; simp, ?_⟩
    rw [List.getElem_append_right (by omega)]
    simp only [Nat.sub_self, List.getElem_cons_zero]
    exact hx.grown hgrow hnext

theorem appendT_none (w : World) (q c : Nat) : (Builtin.append_ #[41, 41] 41 #[.slice (some ⟨q, 0, none⟩) 0 0, .slice none 0 c]).run Try.prog w = .ok (.slice (some ⟨q, 0, none⟩) 0 0) w := by kernel_rfl
theorem appendT_some (w : World) (q c : Nat) (a : Addr) : (Builtin.append_ #[41, 41] 41 #[.slice (some ⟨q, 0, none⟩) 0 0, .slice (some a) 0 c]).run Try.prog w = .ok (.slice (some ⟨q, 0, none⟩) 0 0) w := by kernel_rfl

theorem TOut.grown {w w' : World} {base : Nat} {v : Value} {L : List (List ITr)} {rb : Option Nat} (h : TOut w base v L) (hg : w.grownBy w' rb) (hr : ∀ q, rb = some q → w.heap.size ≤ q) : TOut w' base v L := by
  obtain ⟨xs, hown, hel⟩ := h
  have hlt := hown.lt
  refine ⟨xs, hown.kept hg ?_, fun i hi => ?_⟩
  · cases hv : v.ownBlock with
    | none => exact .inl rfl
    | some g =>
      right
      intro e
      have := hr g e.symm
      have := (hlt g hv).2
      omega
  · obtain ⟨u, h1, a, cap, rfl, h2⟩ := hel i hi
    refine ⟨_, h1, a, cap, rfl, h2.imp id ?_⟩
    rintro ⟨q, rfl, hI, hb, hq⟩
    refine ⟨q, rfl, hI.later (hg.block q hI.lt (fun e => ?_)), hb, hq⟩
    have := hr q e.symm
    have := hI.lt
    omega
/-- A copy of a list, in a row of the call's own. -/
theorem copyTrs (w : World) (q : Nat) (hq : w.heap[q]? = some (.cells #[] 32)) (a : Option Addr) (c : Nat) (l : List ITr) (hl : l.length ≤ 100) (hx : (a = none ∧ l = []) ∨ ∃ p, a = some ⟨p, 0, none⟩ ∧ TrsAt w p l) :
    ∃ v w', (Builtin.append_ #[41, 41] 41 #[.slice (some ⟨q, 0, none⟩) 0 0, .slice a l.length c]).run Try.prog w = .ok v w' ∧ w'.ownsRow q 32 3 v l.length (trsCells l) ∧ w.grownBy w' (some q) ∧ v ≠ .slice none 0 0 ∧ (v.ownBlock = some q ∨ ∃ g, v.ownBlock = some g ∧ w.heap.size ≤ g) := by
  have hown0 : w.ownsRow q 32 3 (.slice (some ⟨q, 0, none⟩) 0 0) 0 [] :=
    ⟨rfl, .inr ⟨q, 0, #[], rfl, Nat.le_refl _, hq, Nat.le_refl _, Nat.zero_le _, rfl, rfl⟩⟩
  have hqlt := (Array.getElem?_eq_some_iff.1 hq).1
  by_cases h0 : l = []
  · subst h0
    refine ⟨_, w, ?_, hown0, World.grownBy.refl _ _, by simp, .inl rfl⟩
    rcases hx with ⟨rfl, _⟩ | ⟨p, rfl, _⟩
    · exact appendT_none w q c
    · exact appendT_some w q c _
  · obtain ⟨p, rfl, hI⟩ := hx.resolve_left (fun h => h0 h.2)
    obtain ⟨i0, hi, hz0, hz1, hz2⟩ := info_parts infoTr
    have hnews : ∀ j u, (trsCells l)[j]? = some u → w.cell? ((⟨p, 0, none⟩ : Addr).add j) = some u := fun j u hu => by
      rw [addr0]
      exact hI.cell j u hu
    have hlen := trsCells_len l
    obtain ⟨v', w', hrun, hown', hgrow, hnil⟩ := run_append_own (P := Try.prog) w q 41 41 32 i0 _ 3 24 Try.underlying41 hi hz0 hz1 hz2 rfl (by decide) _ 0 [] hown0 ⟨p, 0, none⟩ l.length c (trsCells l) hlen hnews (trsCells_one l) (by unfold maxLen; omega) (by omega) (Nat.le_of_lt hqlt)
    refine ⟨v', w', hrun, by simpa using hown', hgrow, fun e => (by have := (hnil.1 e).1; cases this), ?_⟩
    have hr := run_append_grow (P := Try.prog) w 41 41 32 i0 _ Try.underlying41 hi hz0 ⟨q, 0, none⟩ 0 0 [] (by simp) (by simp) ⟨p, 0, none⟩ l.length c (trsCells l) (by rw [hz1]; exact hlen) hnews (by have := List.length_pos_iff.2 h0; omega) (by omega) (by rw [hz2]; exact growslice_fits (by have := List.length_pos_iff.2 h0; omega) (by omega))
    rw [hrun] at hr
    cases hr
    exact .inr ⟨_, rfl, Nat.le_refl _⟩

/-- A trail more, in a row of the call's own. -/
theorem appendTr (w : World) (q : Nat) (v : Value) (l : List ITr) (hl : l.length ≤ 100) (hown : w.ownsRow q 32 3 v l.length (trsCells l)) (x : ITr) (m c : Nat) (hm : ∀ j u, (trCells x)[j]? = some u → w.cell? ⟨m, j, none⟩ = some u) (hq : q ≤ w.heap.size) :
    ∃ g cap w', (Builtin.append_ #[41, 41] 41 #[v, .slice (some ⟨m, 0, none⟩) 1 c]).run Try.prog w = .ok (.slice (some ⟨g, 0, none⟩) (l.length + 1) cap) w' ∧ q ≤ g ∧ TrsAt w' g (l ++ [x]) ∧ w.grownBy w' v.ownBlock := by
  obtain ⟨i0, hi, hz0, hz1, hz2⟩ := info_parts infoTr
  obtain ⟨v', w', hrun, hown', hgrow, hnn⟩ := appendSome w q 41 32 i0 _ 3 24 Try.underlying41 hi hz0 hz1 hz2 rfl (by decide) v l.length _ hown (trCells x) rfl (trCells_one x) m c hm (by omega) (by unfold maxLen; omega) hq
  rcases hown'.2 with ⟨h, hn⟩ | ⟨g, cap, cur, rfl, hbg, hg, hnc, hcm, hcs, htake⟩
  · cases hn
  · refine ⟨g, cap, w', hrun, hbg, ⟨cur, _, hg, fun j u hu => ?_⟩, hgrow⟩
    rw [trsCells_snoc, ← htake, List.getElem?_take] at hu
    split at hu
    · simpa using hu
    · cases hu

def TPost (base : Nat) (v : Value) (L : List (List ITr)) (w : World) (e : Ending) (w' : World) : Prop :=
  ∃ v', e = .returned v' ∧ TOut w' base v' L ∧ w.grownBy w' v.ownBlock ∧ RowNext w v v'
theorem TOut.alloc {w : World} {base : Nat} {v : Value} {L : List (List ITr)} (h : TOut w base v L) (o : Obj) : TOut (w.alloc o) base v L := h.grown (World.grownBy_alloc w o none) (fun q e => by cases e)
theorem TEl.alloc {w : World} {base : Nat} {rb : Option Nat} {x : List ITr} {v : Value} (h : TEl w base rb x v) (o : Obj) : TEl (w.alloc o) base rb x v := h.grown (World.grownBy_alloc w o rb) (.inl rfl)
theorem TEl.sl {w : World} {base : Nat} {rb : Option Nat} {x : List ITr} {a : Option Addr} {n c : Nat} (h : TEl w base rb x (.slice a n c)) : TrSl w a x ∧ n = x.length := by
  obtain ⟨a', cap, e, h⟩ := h
  cases e
  refine ⟨?_, rfl⟩
  rcases h with ⟨_, rfl⟩ | ⟨q, rfl, hI, _⟩
  · exact TrSl.nil _ _
  · exact hI.sl
theorem TOut.not_box {w : World} {base p : Nat} {v : Value} {L : List (List ITr)} {cs : Array Value} {fz : Nat × Nat} (h : TOut w base v L) (hp : w.heap[p]? = some (.cells cs 30 fz)) : v.ownBlock ≠ some p := by
  obtain ⟨xs, hown, _⟩ := h
  intro e
  rcases hown.2 with ⟨rfl, _⟩ | ⟨g, cap, cur, rfl, _, hg, _⟩
  · cases e
  · have : g = p := by simpa [Value.ownBlock] using e
    subst this
    rw [hp] at hg
    cases hg
theorem TOut.blk_lt {w : World} {base g : Nat} {v : Value} {L : List (List ITr)} (h : TOut w base v L) (e : v.ownBlock = some g) : g < w.heap.size := by
  obtain ⟨xs, hown, _⟩ := h
  exact (hown.lt g e).2
theorem TEl.src {w w' : World} {base n : Nat} {rb : Option Nat} {x : List ITr} {a : Option Addr} {c : Nat} (h : TEl w base rb x (.slice a n c)) (hb : Below w.heap.size w w') : (a = none ∧ x = []) ∨ ∃ p, a = some ⟨p, 0, none⟩ ∧ TrsAt w' p x := by
  obtain ⟨a', cap, e, h⟩ := h
  cases e
  refine h.imp id ?_
  rintro ⟨q, rfl, hI, _⟩
  exact ⟨q, rfl, hI.later (hb.block q hI.lt)⟩
theorem TOut.blk_ge {w : World} {base g : Nat} {v : Value} {L : List (List ITr)} (h : TOut w base v L) (e : v.ownBlock = some g) : base ≤ g := by
  obtain ⟨xs, hown, _⟩ := h
  exact (hown.lt g e).1
end Go.Proofs.Ytacioedolmaofaa
namespace Go.Proofs.Ytacioedolmaofaa
set_option linter.unusedVariables false
set_option maxRecDepth 100000

/-- Does a trail not go on? -/
def bad14 (l : List ITr) (n : Nat) (t : ITr) : Bool := !t.ok n || usedIn l t.a || (decide (t.b ≠ -1) && usedIn l t.b) || (decide (t.c ≠ -1) && usedIn l t.c)
def wR (s : ISheet) (F : Int) (l : List ITr) (fr : Int) : List (List ITr) := (waysOf s.trails s.l.length F (s.l.length + 1) fr (ownAll l)).map (l ++ ·)
def wLeaf (s : ISheet) (F : Int) (l : List ITr) : List (List ITr) := if (flawN l s.l.length : Int) ≤ F then [l] else []
def wStep (s : ISheet) (F : Int) (l : List ITr) (t : ITr) : List (List ITr) := if bad14 l s.l.length t then [] else if (s.star t).isSome then wR s F (l ++ [t]) (t.a + 1) else []
def wC (s : ISheet) (F : Int) (l : List ITr) (a b : Int) (k : Nat) : List (List ITr) := (List.range k).flatMap fun (j : Nat) => wStep s F l ⟨a, b, (j : Int) - 1⟩
def wB (s : ISheet) (F : Int) (l : List ITr) (a : Int) (k : Nat) : List (List ITr) := (List.range k).flatMap fun (j : Nat) => wC s F l a ((j : Int) - 1) (s.l.length + 1)
def wA (s : ISheet) (F : Int) (l : List ITr) (fr : Int) (k : Nat) : List (List ITr) := (List.range k).flatMap fun (j : Nat) => if fr ≤ (j : Int) then wB s F l (j : Int) (s.l.length + 1) else []

theorem wC_succ (s : ISheet) (F : Int) (l : List ITr) (a b : Int) (k : Nat) : wC s F l a b (k + 1) = wC s F l a b k ++ wStep s F l ⟨a, b, (k : Int) - 1⟩ := by
  simp only [wC, List.range_succ, List.flatMap_append, List.flatMap_cons, List.flatMap_nil, List.append_nil]
theorem wB_succ (s : ISheet) (F : Int) (l : List ITr) (a : Int) (k : Nat) : wB s F l a (k + 1) = wB s F l a k ++ wC s F l a ((k : Int) - 1) (s.l.length + 1) := by
  simp only [wB, List.range_succ, List.flatMap_append, List.flatMap_cons, List.flatMap_nil, List.append_nil]
theorem wA_succ (s : ISheet) (F : Int) (l : List ITr) (fr : Int) (k : Nat) (h : fr ≤ (k : Int)) : wA s F l fr (k + 1) = wA s F l fr k ++ wB s F l (k : Int) (s.l.length + 1) := by
  simp only [wA, List.range_succ, List.flatMap_append, List.flatMap_cons, List.flatMap_nil, List.append_nil, if_pos h]
theorem wA_start (s : ISheet) (F : Int) (l : List ITr) (fr : Nat) : wA s F l (fr : Int) fr = [] := by
  unfold wA
  rw [List.flatMap_eq_nil_iff]
  intro j hj
  have := List.mem_range.1 hj
  rw [if_neg (by omega)]
theorem range_mono {α : Type} (f : Nat → List α) {i j : Nat} (h : i ≤ j) : ((List.range i).flatMap f).length ≤ ((List.range j).flatMap f).length := by
  induction j with
  | zero => have : i = 0 := by omega
            rw [this]; exact Nat.le_refl _
  | succ j ih =>
    by_cases e : i = j + 1
    · rw [e]; exact Nat.le_refl _
    · have := ih (by omega)
      rw [List.range_succ, List.flatMap_append, List.length_append]
      omega

theorem flawN_notIn {n : Nat} (l : List ITr) (h : ∀ t ∈ l, t.wf n) : ∀ k, flawN l k = notIn (ownAll l) k
  | 0 => rfl
  | k + 1 => by
    have e : flawN l (k + 1) = flawN l k + if usedIn l (k : Int) then 0 else 1 := rfl
    rw [e, notIn_succ, flawN_notIn l h k, usedIn_bit l h k]
theorem wleaf_eq (s : ISheet) (F : Int) (l : List ITr) (hn : s.l.length ≤ 9) (hl : ∀ t ∈ l, t.wf s.l.length) : (leafWays s.l.length F (ownAll l)).map (l ++ ·) = wLeaf s F l := by
  unfold leafWays wLeaf
  rw [flawN_notIn l hl, flaws_eq hn (ownAll_ltn l hl)]
  split
  · simp
  · rfl
theorem bad14_free {l : List ITr} {n : Nat} {t : ITr} (hl : ∀ t ∈ l, t.wf n) (ht : t.ok n = true) : bad14 l n t = !(t.own &&& ownAll l == 0) := by
  have hw := ITr.wf_of ht
  rw [free_iff hw]
  unfold bad14
  rw [ht]
  have hf : ∀ i : Int, (i = -1 ∨ (0 ≤ i ∧ i < n)) → freeOf (ownAll l) i = !(decide (i ≠ -1) && usedIn l i) := fun i hi => by
    unfold freeOf
    rcases hi with rfl | ⟨h0, _⟩
    · simp
    · obtain ⟨m, rfl⟩ := Int.eq_ofNat_of_zero_le h0
      rw [usedIn_bit l hl m]
      have : ((m : Int) ≠ -1) := by omega
      simp [this]
  rw [hf _ (.inr hw.a), hf _ hw.b, hf _ hw.c]
  have ha : (t.a ≠ -1) := by have := hw.a; omega
  rw [decide_eq_true ha, Bool.true_and]
  generalize usedIn l t.a = x
  generalize (decide (t.b ≠ -1) && usedIn l t.b) = y
  generalize (decide (t.c ≠ -1) && usedIn l t.c) = z
  cases x <;> cases y <;> cases z <;> rfl
theorem wstep_eq (s : ISheet) (F : Int) (l : List ITr) (hn : s.l.length ≤ 9) (hl : ∀ t ∈ l, t.wf s.l.length) (t : ITr) : (s.with' F s.l.length (ownAll l) t).map (l ++ ·) = wStep s F l t := by
  unfold ISheet.with' wStep ISheet.can
  cases ht : t.ok s.l.length
  · have hb : bad14 l s.l.length t = true := by unfold bad14; rw [ht]; rfl
    rw [if_pos hb, Bool.false_and, Bool.false_and, if_neg (by simp)]
    rfl
  · rw [bad14_free hl ht]
    cases hf : (t.own &&& ownAll l == 0)
    · simp
    · cases hs : (s.star t).isSome
      · simp
      · have hw := ITr.wf_of ht
        have h0 := hw.a
        rw [Bool.true_and, Bool.true_and, if_pos rfl, if_neg (by simp), if_pos rfl]
        unfold wR
        rw [ways_fuel F (fun t ht => (trails_wf t ht).a.2) s.l.length (s.l.length + 1) (t.a + 1) _ (by omega) (by omega), ownAll_snoc, List.map_map]
        refine List.map_congr_left fun w _ => ?_
        simp
theorem wR_eq (s : ISheet) (F : Int) (l : List ITr) (hn : s.l.length ≤ 9) (hl : ∀ t ∈ l, t.wf s.l.length) (fr : Int) : wR s F l fr = wLeaf s F l ++ wA s F l fr s.l.length := by
  unfold wR
  rw [ways_by, List.map_append, wleaf_eq s F l hn hl, List.map_flatMap]
  congr 1
  unfold wA List.flatMap
  congr 1
  refine List.map_congr_left fun j _ => ?_
  split
  · unfold wB fromNo
    show List.map _ (List.flatMap _ _) = List.flatMap _ _
    rw [List.map_flatMap, List.flatMap_map]
    unfold List.flatMap
    congr 1
    refine List.map_congr_left fun k _ => ?_
    unfold wC
    show List.map _ (List.flatMap _ _) = List.flatMap _ _
    rw [List.map_flatMap, List.flatMap_map]
    unfold List.flatMap
    congr 1
    refine List.map_congr_left fun m _ => ?_
    exact wstep_eq s F l hn hl _
  · rfl
theorem wR_len (s : ISheet) (F : Int) (l : List ITr) (hn : s.l.length ≤ 9) (fr : Int) (h0 : 0 ≤ fr) : (wR s F l fr).length ≤ 101 ^ ((s.l.length : Int) - fr).toNat := by
  have hT := trailsOk s hn
  unfold wR
  rw [List.length_map, ways_fuel F (fun t ht => (trails_wf t ht).a.2) (s.l.length + 1) s.l.length fr _ (by omega) (by omega), ← aggOf_many s.l.length (ownAll l), ← tell_agg s.trails s.l.length F (trails_own hn) s.l.length fr _ (Nat.le_refl _)]
  exact tell_many F (fun t ht => (hT.wf t ht).a.2) hT.cnt _ _ _
/-- What is gathered stays below all ways. -/
theorem w_next (s : ISheet) (F : Int) (l : List ITr) (hn : s.l.length ≤ 9) (hl : ∀ t ∈ l, t.wf s.l.length) (fr : Int) (k kb kc : Nat) (hf : fr ≤ (k : Int)) (hk : k < s.l.length) (hb : kb < s.l.length + 1) (hc : kc < s.l.length + 1) :
    (wLeaf s F l ++ wA s F l fr k ++ wB s F l k kb ++ wC s F l k ((kb : Int) - 1) kc).length + (wStep s F l ⟨(k : Int), (kb : Int) - 1, (kc : Int) - 1⟩).length ≤ (wR s F l fr).length := by
  rw [wR_eq s F l hn hl]
  have h1 : (wA s F l fr (k + 1)).length ≤ (wA s F l fr s.l.length).length := range_mono _ (by omega)
  have h2 : (wB s F l (k : Int) (kb + 1)).length ≤ (wB s F l (k : Int) (s.l.length + 1)).length := range_mono _ (by omega)
  have h3 : (wC s F l (k : Int) ((kb : Int) - 1) (kc + 1)).length ≤ (wC s F l (k : Int) ((kb : Int) - 1) (s.l.length + 1)).length := range_mono _ (by omega)
  rw [wA_succ s F l fr k hf, List.length_append] at h1
  rw [wB_succ, List.length_append] at h2
  rw [wC_succ, List.length_append] at h3
  rw [List.length_append, List.length_append, List.length_append, List.length_append]
  omega
end Go.Proofs.Ytacioedolmaofaa
namespace Go.Proofs.Ytacioedolmaofaa
open Go.RowKit Go.Shelf
set_option maxHeartbeats 12800000
set_option maxRecDepth 100000
set_option linter.unusedSimpArgs false
set_option linter.unusedVariables false

theorem ways_reg1 (s : ISheet) (fa : Option Addr) (fc p : Nat) (a : Option Addr) (cap : Nat) (l : List ITr) (v : Value) (wA : World) {z0 z2 z5 z6 z7 z8 z9 z10 z11 z12 z13 z14 z15 z22 z23 z24 z25 z26 z27 z28 z29 z30 z31 z32 z33 z34 z35 z36 z37 z38 z39 z40 z41 z42 z43 z44 z45 z46 z47 z48 z49 z50 z51 z52 z53 z54 z55 z56 z57 z58 z59 z60 z61 z62 z63 z64 z65 z66 z67 z68 z69 z70 z71 z72 z73 z74 z75 z76 z77 z78 z79 z80 z81 z82 z83 z84 z85 z86 z87 z88 z89 z90 z91 z92 z93 z94 : Value} {z21 z16 z17 z18 z19 z20 : Value} (PA : wA.heap[p]? = some (.cells #[.int .i64 s.ax.lo, .int .i64 s.ax.hi, .int .i64 s.ay.lo, .int .i64 s.ay.hi, .int .i64 s.bx.lo, .int .i64 s.bx.hi, .int .i64 s.by'.lo, .int .i64 s.by'.hi, .int .i64 s.f.lo, .int .i64 s.f.hi, .int .i64 s.g.lo, .int .i64 s.g.hi, .int .i64 s.limit, .int .i64 s.flaws, .slice fa s.l.length fc] 30)) (hl : TrSl wA a l) (hlen : l.length ≤ 100) (hn : s.l.length ≤ 9) (K : Act → World → Prop) (Q : Exit → Act → World → Prop)
    (hfin : ∀ (s16 s17 s18 s19 s20 : Value)  (w3 : World), Below wA.heap.size wA w3 → K ⟨(z0::(.slice a l.length cap)::z2::v::(.pointer (some ⟨p, 0, none⟩))::z5::z6::z7::z8::z9::z10::z11::z12::z13::z14::z15::s16::s17::s18::s19::s20::(.bool (decide ((flawN l s.l.length : Int) ≤ s.flaws)))::z22::z23::z24::z25::z26::z27::z28::z29::z30::z31::z32::z33::z34::z35::z36::z37::z38::z39::z40::z41::z42::z43::z44::z45::z46::z47::z48::z49::z50::z51::z52::z53::z54::z55::z56::z57::z58::z59::z60::z61::z62::z63::z64::z65::z66::z67::z68::z69::z70::z71::z72::z73::z74::z75::z76::z77::z78::z79::z80::z81::z82::z83::z84::z85::z86::z87::z88::z89::z90::z91::z92::z93::z94 :: []).toArray, []⟩ w3) :
    Code.wp Try.prog ((Try.f74.body.bind (findReg 1)).getD .skip) (Exit.then K Q) ⟨(z0::(.slice a l.length cap)::z2::v::(.pointer (some ⟨p, 0, none⟩))::z5::z6::z7::z8::z9::z10::z11::z12::z13::z14::z15::z16::z17::z18::z19::z20::z21::z22::z23::z24::z25::z26::z27::z28::z29::z30::z31::z32::z33::z34::z35::z36::z37::z38::z39::z40::z41::z42::z43::z44::z45::z46::z47::z48::z49::z50::z51::z52::z53::z54::z55::z56::z57::z58::z59::z60::z61::z62::z63::z64::z65::z66::z67::z68::z69::z70::z71::z72::z73::z74::z75::z76::z77::z78::z79::z80::z81::z82::z83::z84::z85::z86::z87::z88::z89::z90::z91::z92::z93::z94 :: []).toArray, []⟩ wA := by
  have HFIN := Lib.hid hfin
  have ltp := (Array.getElem?_eq_some_iff.1 PA).1
  have k0 : ∀ W', Below wA.heap.size wA W' → W'.cell? ⟨p, 0, none⟩ = some (.int .i64 s.ax.lo) := fun W' h => cell_block ((h.block p ltp).trans PA) 0
  have k1 : ∀ W', Below wA.heap.size wA W' → W'.cell? ⟨p, 1, none⟩ = some (.int .i64 s.ax.hi) := fun W' h => cell_block ((h.block p ltp).trans PA) 1
  have k2 : ∀ W', Below wA.heap.size wA W' → W'.cell? ⟨p, 2, none⟩ = some (.int .i64 s.ay.lo) := fun W' h => cell_block ((h.block p ltp).trans PA) 2
  have k3 : ∀ W', Below wA.heap.size wA W' → W'.cell? ⟨p, 3, none⟩ = some (.int .i64 s.ay.hi) := fun W' h => cell_block ((h.block p ltp).trans PA) 3
  have k4 : ∀ W', Below wA.heap.size wA W' → W'.cell? ⟨p, 4, none⟩ = some (.int .i64 s.bx.lo) := fun W' h => cell_block ((h.block p ltp).trans PA) 4
  have k5 : ∀ W', Below wA.heap.size wA W' → W'.cell? ⟨p, 5, none⟩ = some (.int .i64 s.bx.hi) := fun W' h => cell_block ((h.block p ltp).trans PA) 5
  have k6 : ∀ W', Below wA.heap.size wA W' → W'.cell? ⟨p, 6, none⟩ = some (.int .i64 s.by'.lo) := fun W' h => cell_block ((h.block p ltp).trans PA) 6
  have k7 : ∀ W', Below wA.heap.size wA W' → W'.cell? ⟨p, 7, none⟩ = some (.int .i64 s.by'.hi) := fun W' h => cell_block ((h.block p ltp).trans PA) 7
  have k8 : ∀ W', Below wA.heap.size wA W' → W'.cell? ⟨p, 8, none⟩ = some (.int .i64 s.f.lo) := fun W' h => cell_block ((h.block p ltp).trans PA) 8
  have k9 : ∀ W', Below wA.heap.size wA W' → W'.cell? ⟨p, 9, none⟩ = some (.int .i64 s.f.hi) := fun W' h => cell_block ((h.block p ltp).trans PA) 9
  have k10 : ∀ W', Below wA.heap.size wA W' → W'.cell? ⟨p, 10, none⟩ = some (.int .i64 s.g.lo) := fun W' h => cell_block ((h.block p ltp).trans PA) 10
  have k11 : ∀ W', Below wA.heap.size wA W' → W'.cell? ⟨p, 11, none⟩ = some (.int .i64 s.g.hi) := fun W' h => cell_block ((h.block p ltp).trans PA) 11
  have k12 : ∀ W', Below wA.heap.size wA W' → W'.cell? ⟨p, 12, none⟩ = some (.int .i64 s.limit) := fun W' h => cell_block ((h.block p ltp).trans PA) 12
  have k13 : ∀ W', Below wA.heap.size wA W' → W'.cell? ⟨p, 13, none⟩ = some (.int .i64 s.flaws) := fun W' h => cell_block ((h.block p ltp).trans PA) 13
  have k14 : ∀ W', Below wA.heap.size wA W' → W'.cell? ⟨p, 14, none⟩ = some (.slice fa s.l.length fc) := fun W' h => cell_block ((h.block p ltp).trans PA) 14
  have hcall := fun W' (h : Below wA.heap.size wA W') => irFlaws_any s fa fc a cap l W' (hl.below h (Nat.le_refl _)) (by omega) (by omega)
  have HC := Lib.hid hcall
  clear hcall
  clear hfin
  conv => arg 2; whnf
  refine (wpIn_wide (n := 1)).1 ?_
  refine wpIn_region_Wn (S := Below wA.heap.size wA) 6 (by kernel_rfl) (by kernel_rfl) (below_drew wA) (fun hHeld => ?_)
  refine wTk 0 16 ?_ ?_ ?_
  rotate_left
  · intro o h w k; (try dsimp only at k); simp only [gA, gB, gC, gG] at h; subst h; go_simp; try with_reducible rfl
  simp only [Act.put, gD, gE, gF]
  refine wTk 1 17 ?_ ?_ ?_
  rotate_left
  · intro o h w k; (try dsimp only at k); simp only [gA, gB, gC, gG] at h; subst h; go_simp; try with_reducible rfl
  simp only [Act.put, gD, gE, gF]
  refine wTk 3 19 ?_ ?_ ?_
  rotate_left
  · intro o h w k; (try dsimp only at k); simp only [gA, gB, gC, gG] at h; subst h; go_simp; try with_reducible rfl
  simp only [Act.put, gD, gE, gF]
  refine wTk 4 20 ?_ ?_ ?_
  rotate_left
  · intro o h w k; (try dsimp only at k); simp only [gA, gB, gC, gG] at h; subst h; go_simp; try with_reducible rfl
  simp only [Act.put, gD, gE, gF]
  clear k0 k1 k2 k3 k4 k5 k6 k7 k8 k9 k10 k11 k12 k13 k14
  refine wpAnyW_one 2 (by kernel_rfl) (by kernel_rfl) ?_
  intro o ho K hK
  simp only [gA, gB, gC, gG] at ho
  subst ho
  go_simp
  refine ⟨trivial, CallsIn.mono (callsIn_wide.2 (HC.out _ hHeld)) ?_⟩
  rintro e W1 ⟨rfl, hb1⟩
  have H1 := hHeld.trans (hb1.mono hHeld.size)
  refine hK _ _ H1 (fun _ => ?_)
  clear hK K
  try simp only [Act.put, gD, gE, gF]
  refine wTk 5 21 ?_ ?_ ?_
  rotate_left
  · intro o h w k; (try dsimp only at k); simp only [gA, gB, gC, gG] at h; subst h; go_simp; try with_reducible rfl
  simp only [Act.put, gD, gE, gF]
  refine wpAnyW_done (by kernel_rfl) ?_ _
  dsimp only [onNormal]
  exact HFIN.out _ _ _ _ _ _ H1

theorem ways_reg14 (s : ISheet) (fa : Option Addr) (fc p q : Nat) (a : Option Addr) (cap : Nat) (l : List ITr) (v : Value) (ta tb tc : Int) (wA : World) {z0 z2 z5 z6 z7 z8 z14 z15 z16 z17 z18 z19 z20 z21 z22 z23 z24 z25 z26 z27 z28 z29 z30 z31 z32 z33 z34 z35 z36 z37 z38 z39 z40 z41 z42 z43 z44 z45 z46 z47 z48 z76 z77 z78 z79 z80 z81 z82 z83 z84 z85 z86 z87 z88 z89 z90 z91 z92 z93 z94 : Value} {z75 z49 z50 z51 z52 z53 z54 z55 z56 z57 z58 z59 z60 z61 z62 z63 z64 z65 z66 z67 z68 z69 z70 z71 z72 z73 z74 : Value} (PA : wA.heap[p]? = some (.cells #[.int .i64 s.ax.lo, .int .i64 s.ax.hi, .int .i64 s.ay.lo, .int .i64 s.ay.hi, .int .i64 s.bx.lo, .int .i64 s.bx.hi, .int .i64 s.by'.lo, .int .i64 s.by'.hi, .int .i64 s.f.lo, .int .i64 s.f.hi, .int .i64 s.g.lo, .int .i64 s.g.hi, .int .i64 s.limit, .int .i64 s.flaws, .slice fa s.l.length fc] 30)) (hl : TrSl wA a l) (hlen : l.length ≤ 100) (hn : s.l.length ≤ 9) (QA : wA.heap[q]? = some (.cells #[.int .i64 ta, .int .i64 tb, .int .i64 tc] 32)) (K : Act → World → Prop) (Q : Exit → Act → World → Prop)
    (hfin : ∀ (s49 s50 s51 s52 s53 s54 s55 s56 s57 s58 s59 s60 s61 s62 s63 s64 s65 s66 s67 s68 s69 s70 s71 s72 s73 s74 : Value) (r : Bool) (w3 : World), bad14 l s.l.length ⟨ta, tb, tc⟩ = r → Below wA.heap.size wA w3 → K ⟨(z0::(.slice a l.length cap)::z2::v::(.pointer (some ⟨p, 0, none⟩))::z5::z6::z7::z8::(.int .i64 s.l.length)::(.int .i64 ta)::(.int .i64 tb)::(.int .i64 tc)::(.pointer (some ⟨q, 0, none⟩))::z14::z15::z16::z17::z18::z19::z20::z21::z22::z23::z24::z25::z26::z27::z28::z29::z30::z31::z32::z33::z34::z35::z36::z37::z38::z39::z40::z41::z42::z43::z44::z45::z46::z47::z48::s49::s50::s51::s52::s53::s54::s55::s56::s57::s58::s59::s60::s61::s62::s63::s64::s65::s66::s67::s68::s69::s70::s71::s72::s73::s74::(.bool r)::z76::z77::z78::z79::z80::z81::z82::z83::z84::z85::z86::z87::z88::z89::z90::z91::z92::z93::z94 :: []).toArray, []⟩ w3) :
    Code.wp Try.prog ((Try.f74.body.bind (findReg 14)).getD .skip) (Exit.then K Q) ⟨(z0::(.slice a l.length cap)::z2::v::(.pointer (some ⟨p, 0, none⟩))::z5::z6::z7::z8::(.int .i64 s.l.length)::(.int .i64 ta)::(.int .i64 tb)::(.int .i64 tc)::(.pointer (some ⟨q, 0, none⟩))::z14::z15::z16::z17::z18::z19::z20::z21::z22::z23::z24::z25::z26::z27::z28::z29::z30::z31::z32::z33::z34::z35::z36::z37::z38::z39::z40::z41::z42::z43::z44::z45::z46::z47::z48::z49::z50::z51::z52::z53::z54::z55::z56::z57::z58::z59::z60::z61::z62::z63::z64::z65::z66::z67::z68::z69::z70::z71::z72::z73::z74::z75::z76::z77::z78::z79::z80::z81::z82::z83::z84::z85::z86::z87::z88::z89::z90::z91::z92::z93::z94 :: []).toArray, []⟩ wA := by
  have HFIN := Lib.hid hfin
  clear hfin
  conv => arg 2; whnf
  have cz := fun k => cell_block PA k
  have x0 := cz 0
  have x1 := cz 1
  have x2 := cz 2
  have x3 := cz 3
  have x4 := cz 4
  have x5 := cz 5
  have x6 := cz 6
  have x7 := cz 7
  have x8 := cz 8
  have x9 := cz 9
  have x10 := cz 10
  have x11 := cz 11
  have x12 := cz 12
  have x13 := cz 13
  have x14 := cz 14
  clear cz
  simp only [gA, gB, gC] at x0 x1 x2 x3 x4 x5 x6 x7 x8 x9 x10 x11 x12 x13 x14
  have cz := fun k => cell_block QA k
  have y0 := cz 0
  have y1 := cz 1
  have y2 := cz 2
  clear cz
  simp only [gA, gB, gC] at y0 y1 y2
  go_wp2_with fail
  refine (irTrail_any s fa fc ⟨ta, tb, tc⟩ wA (by omega)).mono ?_
  rintro e w1 ⟨rfl, hb⟩
  have hB1 := hb
  have hl1 := hl.below hb (Nat.le_refl _)
  clear hb PA QA x0 x1 x2 x3 x4 x5 x6 x7 x8 x9 x10 x11 x12 x13 x14 y0 y1 y2
  cases htk : (⟨ta, tb, tc⟩ : ITr).ok s.l.length
  · have HT := Lib.hid htk
    clear htk
    go_wp2_with fail
    exact HFIN.out _ _ _ _ _ _ _ _ _ _ _ _ _ _ _ _ _ _ _ _ _ _ _ _ _ _ true w1 (by unfold bad14; simp [HT.out]) hB1
  · have HT := Lib.hid htk
    clear htk
    go_wp2_with fail
    refine (irUsed_any a cap l ta w1 (hl1) (by omega)).mono ?_
    rintro e w2 ⟨rfl, hb⟩
    have hB2 := hB1.trans (hb.mono hB1.size)
    have hl2 := hl1.below hb (Nat.le_refl _)
    clear hb
    cases hua : usedIn l ta
    · have HUA := Lib.hid hua
      clear hua
      by_cases eb : tb = -1
      · subst eb
        by_cases ec : tc = -1
        · subst ec
          go_wp2_with fail
          exact HFIN.out _ _ _ _ _ _ _ _ _ _ _ _ _ _ _ _ _ _ _ _ _ _ _ _ _ _ false w2 (by unfold bad14; simp [HT.out, HUA.out]) hB2
        · have HEC := Lib.hid ec
          go_wp2_with fail
          refine (irUsed_any a cap l tc w2 (hl2) (by omega)).mono ?_
          rintro e w3 ⟨rfl, hb⟩
          have hB3 := hB2.trans (hb.mono hB2.size)
          have hl3 := hl2.below hb (Nat.le_refl _)
          clear hb
          clear ec
          cases huc : usedIn l tc
          · have HUC := Lib.hid huc
            clear huc
            go_wp2_with fail
            exact HFIN.out _ _ _ _ _ _ _ _ _ _ _ _ _ _ _ _ _ _ _ _ _ _ _ _ _ _ false w3 (by unfold bad14; simp [HT.out, HUA.out, HEC.out, HUC.out]) hB3
          · have HUC := Lib.hid huc
            clear huc
            go_wp2_with fail
            exact HFIN.out _ _ _ _ _ _ _ _ _ _ _ _ _ _ _ _ _ _ _ _ _ _ _ _ _ _ (tc != -1) w3 (by rw [show (tc != -1) = true by simpa using HEC.out]; unfold bad14; simp [HT.out, HUA.out, HEC.out, HUC.out]) hB3
      · have HEB := Lib.hid eb
        go_wp2_with fail
        refine (irUsed_any a cap l tb w2 (hl2) (by omega)).mono ?_
        rintro e w3 ⟨rfl, hb⟩
        have hB3 := hB2.trans (hb.mono hB2.size)
        have hl3 := hl2.below hb (Nat.le_refl _)
        clear hb
        clear eb
        cases hub : usedIn l tb
        · have HUB := Lib.hid hub
          clear hub
          by_cases ec : tc = -1
          · subst ec
            go_wp2_with fail
            exact HFIN.out _ _ _ _ _ _ _ _ _ _ _ _ _ _ _ _ _ _ _ _ _ _ _ _ _ _ false w3 (by unfold bad14; simp [HT.out, HUA.out, HEB.out, HUB.out]) hB3
          · have HEC := Lib.hid ec
            go_wp2_with fail
            refine (irUsed_any a cap l tc w3 (hl3) (by omega)).mono ?_
            rintro e w4 ⟨rfl, hb⟩
            have hB4 := hB3.trans (hb.mono hB3.size)
            have hl4 := hl3.below hb (Nat.le_refl _)
            clear hb
            clear ec
            cases huc : usedIn l tc
            · have HUC := Lib.hid huc
              clear huc
              go_wp2_with fail
              exact HFIN.out _ _ _ _ _ _ _ _ _ _ _ _ _ _ _ _ _ _ _ _ _ _ _ _ _ _ false w4 (by unfold bad14; simp [HT.out, HUA.out, HEB.out, HUB.out, HEC.out, HUC.out]) hB4
            · have HUC := Lib.hid huc
              clear huc
              go_wp2_with fail
              exact HFIN.out _ _ _ _ _ _ _ _ _ _ _ _ _ _ _ _ _ _ _ _ _ _ _ _ _ _ (tc != -1) w4 (by rw [show (tc != -1) = true by simpa using HEC.out]; unfold bad14; simp [HT.out, HUA.out, HEB.out, HUB.out, HEC.out, HUC.out]) hB4
        · have HUB := Lib.hid hub
          clear hub
          go_wp2_with fail
          exact HFIN.out _ _ _ _ _ _ _ _ _ _ _ _ _ _ _ _ _ _ _ _ _ _ _ _ _ _ true w3 (by unfold bad14; simp [HT.out, HUA.out, HEB.out, HUB.out]) hB3
    · have HUA := Lib.hid hua
      clear hua
      go_wp2_with fail
      exact HFIN.out _ _ _ _ _ _ _ _ _ _ _ _ _ _ _ _ _ _ _ _ _ _ _ _ _ _ true w2 (by unfold bad14; simp [HT.out, HUA.out]) hB2

theorem ways_reg15 (s : ISheet) (fa : Option Addr) (fc p q : Nat) (a : Option Addr) (cap : Nat) (l : List ITr) (v : Value) (ta tb tc : Int) (wA : World) {z0 z2 z5 z6 z7 z8 z16 z17 z18 z19 z20 z21 z22 z23 z24 z25 z26 z27 z28 z29 z30 z31 z32 z33 z34 z35 z36 z37 z38 z39 z40 z41 z42 z43 z44 z45 z46 z47 z48 z49 z50 z51 z52 z53 z54 z55 z56 z57 z58 z59 z60 z61 z62 z63 z64 z65 z66 z67 z68 z69 z70 z71 z72 z73 z74 z75 z82 z83 z84 z85 z86 z87 z88 z89 z90 z91 z92 z93 z94 : Value} {z15 z14 z76 z77 z78 z79 z80 z81 : Value} (PA : wA.heap[p]? = some (.cells #[.int .i64 s.ax.lo, .int .i64 s.ax.hi, .int .i64 s.ay.lo, .int .i64 s.ay.hi, .int .i64 s.bx.lo, .int .i64 s.bx.hi, .int .i64 s.by'.lo, .int .i64 s.by'.hi, .int .i64 s.f.lo, .int .i64 s.f.hi, .int .i64 s.g.lo, .int .i64 s.g.hi, .int .i64 s.limit, .int .i64 s.flaws, .slice fa s.l.length fc] 30)) (hl : TrSl wA a l) (hlen : l.length ≤ 100) (hn : s.l.length ≤ 9) (QA : wA.heap[q]? = some (.cells #[.int .i64 ta, .int .i64 tb, .int .i64 tc] 32)) (him : ImSl wA fa s.l) (hok : s.ok = true) (htk : (⟨ta, tb, tc⟩ : ITr).ok s.l.length = true) (K : Act → World → Prop) (Q : Exit → Act → World → Prop)
    (hfin : ∀ (s14 s76 s77 s78 s79 s80 s81 : Value)  (w3 : World), Below wA.heap.size wA w3 → K ⟨(z0::(.slice a l.length cap)::z2::v::(.pointer (some ⟨p, 0, none⟩))::z5::z6::z7::z8::(.int .i64 s.l.length)::(.int .i64 ta)::(.int .i64 tb)::(.int .i64 tc)::(.pointer (some ⟨q, 0, none⟩))::s14::(.bool (s.star ⟨ta, tb, tc⟩).isSome)::z16::z17::z18::z19::z20::z21::z22::z23::z24::z25::z26::z27::z28::z29::z30::z31::z32::z33::z34::z35::z36::z37::z38::z39::z40::z41::z42::z43::z44::z45::z46::z47::z48::z49::z50::z51::z52::z53::z54::z55::z56::z57::z58::z59::z60::z61::z62::z63::z64::z65::z66::z67::z68::z69::z70::z71::z72::z73::z74::z75::s76::s77::s78::s79::s80::s81::z82::z83::z84::z85::z86::z87::z88::z89::z90::z91::z92::z93::z94 :: []).toArray, []⟩ w3) :
    Code.wp Try.prog ((Try.f74.body.bind (findReg 15)).getD .skip) (Exit.then K Q) ⟨(z0::(.slice a l.length cap)::z2::v::(.pointer (some ⟨p, 0, none⟩))::z5::z6::z7::z8::(.int .i64 s.l.length)::(.int .i64 ta)::(.int .i64 tb)::(.int .i64 tc)::(.pointer (some ⟨q, 0, none⟩))::z14::z15::z16::z17::z18::z19::z20::z21::z22::z23::z24::z25::z26::z27::z28::z29::z30::z31::z32::z33::z34::z35::z36::z37::z38::z39::z40::z41::z42::z43::z44::z45::z46::z47::z48::z49::z50::z51::z52::z53::z54::z55::z56::z57::z58::z59::z60::z61::z62::z63::z64::z65::z66::z67::z68::z69::z70::z71::z72::z73::z74::z75::z76::z77::z78::z79::z80::z81::z82::z83::z84::z85::z86::z87::z88::z89::z90::z91::z92::z93::z94 :: []).toArray, []⟩ wA := by
  have HFIN := Lib.hid hfin
  clear hfin
  conv => arg 2; whnf
  have cz := fun k => cell_block PA k
  have x0 := cz 0
  have x1 := cz 1
  have x2 := cz 2
  have x3 := cz 3
  have x4 := cz 4
  have x5 := cz 5
  have x6 := cz 6
  have x7 := cz 7
  have x8 := cz 8
  have x9 := cz 9
  have x10 := cz 10
  have x11 := cz 11
  have x12 := cz 12
  have x13 := cz 13
  have x14 := cz 14
  clear cz
  simp only [gA, gB, gC] at x0 x1 x2 x3 x4 x5 x6 x7 x8 x9 x10 x11 x12 x13 x14
  have cz := fun k => cell_block QA k
  have y0 := cz 0
  have y1 := cz 1
  have y2 := cz 2
  clear cz
  simp only [gA, gB, gC] at y0 y1 y2
  have hof := irOf_any s fa fc ⟨ta, tb, tc⟩ wA hok htk him
  clear hok htk him
  go_wp2_with fail
  refine hof.mono ?_
  rintro e w1 ⟨rfl, hb1⟩
  clear hof PA QA x0 x1 x2 x3 x4 x5 x6 x7 x8 x9 x10 x11 x12 x13 x14 y0 y1 y2
  cases hst : s.star ⟨ta, tb, tc⟩ with
  | none =>
    rw [hst] at HFIN
    unfold starV
    go_wp2_with fail
    exact HFIN.out _ _ _ _ _ _ _ _ (hb1.trans (below_alloc _ _ |>.mono hb1.size))
  | some o =>
    rw [hst] at HFIN
    unfold starV
    go_wp2_with fail
    exact HFIN.out _ _ _ _ _ _ _ _ (hb1.trans (below_alloc _ _ |>.mono hb1.size))
end Go.Proofs.Ytacioedolmaofaa
namespace Go.Proofs.Ytacioedolmaofaa
set_option linter.unusedVariables false
set_option maxRecDepth 100000

/-- From which image on trails go on behind these. -/
def endOf : Int → List ITr → Int
  | fr, [] => fr
  | _, t::w => endOf (t.a + 1) w
theorem endOf_snoc (t : ITr) : ∀ (fr : Int) (w : List ITr), endOf fr (w ++ [t]) = t.a + 1
  | _, [] => rfl
  | _, u::w => endOf_snoc t (u.a + 1) w
theorem endOf_le {k : Int} : ∀ (fr : Int) (w : List ITr), fr ≤ k → (∀ t ∈ w, t.a < k) → endOf fr w ≤ k
  | _, [], h, _ => h
  | _, t::w, _, hw => endOf_le (t.a + 1) w (by have := hw t (by simp); omega) (fun x hx => hw x (by simp [hx]))
theorem ownAll_cons (t : ITr) (w : List ITr) : ownAll (t::w) = t.own ||| ownAll w := rfl
theorem goes_append (T : List ITr) (v : List ITr) : ∀ (u : List ITr) (fr : Int) (used : Nat), Goes T fr used (u ++ v) ↔ Goes T fr used u ∧ Goes T (endOf fr u) (used ||| ownAll u) v
  | [], fr, used => by
    show Goes T fr used v ↔ True ∧ Goes T fr (used ||| 0) v
    rw [Nat.or_zero]
    simp
  | t::u, fr, used => by
    show (t ∈ nextOf T fr used ∧ Goes T (t.a + 1) (used ||| t.own) (u ++ v)) ↔ (t ∈ nextOf T fr used ∧ Goes T (t.a + 1) (used ||| t.own) u) ∧ Goes T (endOf (t.a + 1) u) (used ||| ownAll (t::u)) v
    rw [goes_append T v u, ownAll_cons, Nat.or_assoc, and_assoc]
theorem goes_snoc {T : List ITr} {w : List ITr} {t : ITr} {fr : Int} {used : Nat} : Goes T fr used (w ++ [t]) ↔ Goes T fr used w ∧ t ∈ nextOf T (endOf fr w) (used ||| ownAll w) := by
  rw [goes_append]
  show _ ∧ (_ ∧ True) ↔ _
  rw [and_true]
theorem goes_get {T : List ITr} {w : List ITr} {fr : Int} {used : Nat} (h : Goes T fr used w) (i : Nat) (hi : i < w.length) : w[i] ∈ nextOf T (endOf fr (w.take i)) (used ||| ownAll (w.take i)) := by
  have e : w.take (i + 1) = w.take i ++ [w[i]] := List.take_succ_eq_append_getElem hi
  have h2 : Goes T fr used (w.take (i + 1) ++ w.drop (i + 1)) := by rw [List.take_append_drop]; exact h
  rw [goes_append, e, goes_snoc] at h2
  exact h2.1.2
theorem goes_mem {T : List ITr} : ∀ {w : List ITr} {fr : Int} {used : Nat}, Goes T fr used w → ∀ t ∈ w, t ∈ T
  | t::w, fr, used, h, x, hx => by
    rcases List.mem_cons.1 hx with rfl | hx
    · exact (mem_next.1 h.1).1
    · exact goes_mem h.2 x hx
theorem goes_rising {T : List ITr} {w : List ITr} {fr : Int} {used : Nat} (h : Goes T fr used w) (i : Nat) (hi : i + 1 < w.length) : w[i].a < w[i + 1].a := by
  have h2 := (mem_next.1 (goes_get h (i + 1) hi)).2.1
  rw [List.take_succ_eq_append_getElem (by omega), endOf_snoc] at h2
  omega
theorem goes_disj {T : List ITr} {n : Nat} (hT : ∀ t ∈ T, t.wf n) {w : List ITr} {fr : Int} (h : Goes T fr 0 w) (i : Nat) (hi : i < w.length) (m : Int) (hm : m = w[i].a ∨ m = w[i].b ∨ m = w[i].c) (h1 : m ≠ -1) : usedIn (w.take i) m = false := by
  obtain ⟨hin, _, h2⟩ := mem_next.1 (goes_get h i hi)
  have hw := hT _ hin
  rw [Nat.zero_or] at h2
  have h0 : 0 ≤ m := by
    rcases hm with e | e | e
    · rw [e]; exact hw.a.1
    · rw [e]; rcases hw.b with hb | hb
      · omega
      · exact hb.1
    · rw [e]; rcases hw.c with hb | hb
      · omega
      · exact hb.1
  obtain ⟨k, rfl⟩ := Int.eq_ofNat_of_zero_le h0
  rw [usedIn_bit (n := n) (w.take i) (fun t ht => hT t (goes_mem h t (List.mem_of_mem_take ht))) k]
  exact (and_zero_iff _ _).1 h2 k ((hw.own_bit k).2 (by rcases hm with e | e | e <;> simp [← e]))
theorem flawN_flawsW {n : Nat} (hn : n ≤ 9) (l : List ITr) (hl : ∀ t ∈ l, t.wf n) : (flawN l n : Int) = flawsW n 0 l := by
  unfold flawsW
  rw [flawN_notIn l hl, flaws_eq hn (ownAll_ltn l hl), Nat.zero_or]

theorem needs_all {T : List ITr} {n : Nat} (hT : TP T n) : (tellN T n n 0 0).many ≠ 0 := (many_iff (n : Int) hT 0 (by omega) 0).2 ⟨[], trivial, flawsW_le n 0 []⟩
/-- How many flaws there must be. -/
structure NeedsAre (s : ISheet) (m : Int) : Prop where
  ge : 0 ≤ m
  le : m ≤ s.l.length
  one : ∃ w, Goes s.trails 0 0 w ∧ flawsW s.l.length 0 w = m
  min : ∀ w, Goes s.trails 0 0 w → m ≤ flawsW s.l.length 0 w
theorem flawsW_ge {s : ISheet} (hn : s.l.length ≤ 9) {w : List ITr} (hw : ∀ t ∈ w, t ∈ s.trails) : 0 ≤ flawsW s.l.length 0 w := by
  rw [← flawN_flawsW hn w (fun t ht => trails_wf t (hw t ht))]
  omega
theorem needsAre {s : ISheet} (hn : s.l.length ≤ 9) : NeedsAre s (tellN s.trails s.l.length s.l.length 0 0).flaws := by
  obtain ⟨h1, h2, h3⟩ := flaws_min (s.l.length : Int) (tp_of hn) 0 (by omega) 0 (needs_all (tp_of hn))
  refine ⟨?_, h2, h1, h3⟩
  obtain ⟨w, hw, e⟩ := h1
  rw [← e]
  exact flawsW_ge hn (goes_mem hw)
theorem way_iff {s : ISheet} (hn : s.l.length ≤ 9) : (wayTold s).many ≠ 0 ↔ (tellN s.trails s.l.length s.l.length 0 0).flaws ≤ s.flaws := by
  have hN := needsAre hn
  unfold wayTold
  rw [many_iff s.flaws (tp_of hn) 0 (by omega) 0]
  constructor
  · rintro ⟨w, hw, hF⟩
    have := hN.min w hw
    omega
  · intro h
    obtain ⟨w, hw, e⟩ := hN.one
    exact ⟨w, hw, by rw [e]; exact h⟩
theorem way_flaws {s : ISheet} (hn : s.l.length ≤ 9) (h : (wayTold s).many ≠ 0) : (wayTold s).flaws = (tellN s.trails s.l.length s.l.length 0 0).flaws := by
  obtain ⟨⟨w, h1, e1⟩, h2, h3⟩ := flaws_min s.flaws (tp_of hn) 0 (by omega) 0 h
  obtain ⟨⟨u, h4, e4⟩, h5, h6⟩ := flaws_min (s.l.length : Int) (tp_of hn) 0 (by omega) 0 (needs_all (tp_of hn))
  have := h3 u h4
  have := h6 w h1
  unfold wayTold
  omega

/-- What ImageFew asks of the way that is told. -/
structure FewIs (s : ISheet) (l : List ITr) (m : Int) : Prop where
  goes : Goes s.trails 0 0 l
  flaws : (flawN l s.l.length : Int) = m
  other : ∀ w, Goes s.trails 0 0 w → m ≤ flawN w s.l.length ∧ ((flawN w s.l.length : Int) = m → before l w = true)
theorem fewIs {s : ISheet} (hn : s.l.length ≤ 9) (h : (wayTold s).many ≠ 0) : FewIs s (fewW s.trails s.l.length (wayTold s).flaws 10 0 0) (tellN s.trails s.l.length s.l.length 0 0).flaws := by
  have hN := needsAre hn
  rw [way_flaws hn h]
  generalize (tellN s.trails s.l.length s.l.length 0 0).flaws = m at hN
  obtain ⟨w, hw, e⟩ := hN.one
  obtain ⟨h1, h2, h3⟩ := few_spec (tp_of hn) (trails_sorted s) 9 0 0 (by omega) (by omega) ⟨w, hw, by omega⟩ hN.min
  have hf : ∀ w, Goes s.trails 0 0 w → (flawN w s.l.length : Int) = flawsW s.l.length 0 w := fun w hw => flawN_flawsW hn w (fun t ht => trails_wf t (goes_mem hw t ht))
  refine ⟨h1, by rw [hf _ h1]; exact h2, fun w hw => ?_⟩
  rw [hf _ hw]
  exact ⟨hN.min w hw, h3 w hw⟩
theorem mem_trails {s : ISheet} {t : ITr} : t ∈ s.trails ↔ t.ok s.l.length = true ∧ (s.star t).isSome = true := by
  constructor
  · intro ht
    unfold ISheet.trails at ht
    rw [List.mem_flatMap] at ht
    obtain ⟨a, _, ht⟩ := ht
    rw [List.mem_flatMap] at ht
    obtain ⟨b, _, ht⟩ := ht
    have := (List.mem_filter.1 ht).2
    rwa [Bool.and_eq_true] at this
  · rintro ⟨h1, h2⟩
    have hw := ITr.wf_of h1
    obtain ⟨a, b, c⟩ := t
    have hno : ∀ i : Int, (i = -1 ∨ (0 ≤ i ∧ i < s.l.length)) → i ∈ fromNo s.l.length := fun i hi => by
      unfold fromNo
      rw [List.mem_map]
      refine ⟨(i + 1).toNat, List.mem_range.2 (by omega), by omega⟩
    obtain ⟨k, hk⟩ := Int.eq_ofNat_of_zero_le hw.a.1
    have hka := hw.a.2
    simp only at hk hka
    unfold ISheet.trails
    rw [List.mem_flatMap]
    refine ⟨k, List.mem_range.2 (by omega), ?_⟩
    rw [List.mem_flatMap]
    refine ⟨b, hno b hw.b, ?_⟩
    rw [List.mem_filter]
    refine ⟨List.mem_map.2 ⟨c, hno c hw.c, by rw [hk]⟩, ?_⟩
    rw [Bool.and_eq_true]
    exact ⟨h1, h2⟩
/-- One trail more, of images that are free. -/
theorem goes_more {s : ISheet} {w : List ITr} {t : ITr} (hw : Goes s.trails 0 0 w) (hlt : ∀ u ∈ w, u.a < t.a) (hok : t.ok s.l.length = true) (hst : (s.star t).isSome = true) (hu : usedIn w t.a = false) (hb : t.b = -1 ∨ usedIn w t.b = false) (hc : t.c = -1 ∨ usedIn w t.c = false) : Goes s.trails 0 0 (w ++ [t]) := by
  have hwf := ITr.wf_of hok
  have hl : ∀ t ∈ w, t.wf s.l.length := fun t ht => trails_wf t (goes_mem hw t ht)
  refine goes_snoc.2 ⟨hw, mem_next.2 ⟨mem_trails.2 ⟨hok, hst⟩, endOf_le 0 w hwf.a.1 hlt, ?_⟩⟩
  rw [Nat.zero_or]
  have hbad : bad14 w s.l.length t = false := by
    unfold bad14
    rw [hok, hu]
    rcases hb with hb | hb <;> rcases hc with hc | hc <;> simp [hb, hc]
  rw [bad14_free hl hok] at hbad
  simpa using hbad
end Go.Proofs.Ytacioedolmaofaa
