/- Package slices: a clone of a list of numbers. -/
import Derived.Test.YtjkegmjjhdmkiaaBU9
import Derived.Laws.AppendOwn
namespace Go.Proofs.Ytjkegmjjhdmkiaa
open Go.RowKit Go.Shelf
set_option maxHeartbeats 1600000
set_option linter.unusedSimpArgs false

/-- Block q begins with these numbers. -/
def IntsAt (w : World) (q : Nat) (xs : List Int) : Prop := ∃ cs T, w.heap[q]? = some (.cells cs T (0, 0)) ∧ ∀ i (h : i < xs.length), cs[i]? = some (.int .i64 xs[i])

theorem IntsAt.cell {w : World} {q : Nat} {xs : List Int} (h : IntsAt w q xs) (i : Nat) (hi : i < xs.length) : w.cell? ⟨q, i, none⟩ = some (.int .i64 xs[i]) := by
  obtain ⟨cs, T, hb, hc⟩ := h
  exact (cell_block hb i).trans (hc i hi)

theorem IntsAt.later {w w' : World} {q : Nat} {xs : List Int} (h : IntsAt w q xs) (hb : w'.heap[q]? = w.heap[q]?) : IntsAt w' q xs := by
  obtain ⟨cs, T, h1, h2⟩ := h
  exact ⟨cs, T, hb.trans h1, h2⟩
theorem IntsAt.lt {w : World} {q : Nat} {xs : List Int} (h : IntsAt w q xs) : q < w.heap.size := by
  obtain ⟨cs, T, h1, h2⟩ := h
  exact (Array.getElem?_eq_some_iff.1 h1).1

theorem nil_ne (q n cap : Nat) (w : World) : (binOp .eql 40 (.slice (some ⟨q, 0, none⟩) n cap) (.slice none 0 0)).run Try.prog w = .ok (.bool false) w := by kernel_rfl
theorem infoInt : (Try.prog.info? 3).map (fun i => (i.zero, i.size, i.bytes)) = some (some (.int .i64 0), 1, 8) := by kernel_rfl

theorem ownsRow_some {w : World} {base : Nat} {e : TypeId} {size : Nat} {v : Value} {n : Nat} {xs : List Value} (h : w.ownsRow base e size v n xs) (hne : ¬ v = .slice none 0 0) :
    ∃ g cap cur, v = .slice (some ⟨g, 0, none⟩) n cap ∧ base ≤ g ∧ w.heap[g]? = some (.cells cur e (0, 0)) ∧ cur.toList.take (n * size) = xs := by
  rcases h.2 with ⟨h1, _⟩ | ⟨g, cap, cur, h1, h2, h3, _, _, _, h4⟩
  · exact absurd h1 hne
  · exact ⟨g, cap, cur, h1, h2, h3, h4⟩

theorem clone_any (bq cap : Nat) (xs : List Int) (w : World) (hx : IntsAt w bq xs) (hl : xs.length ≤ 6) :
    Calls Try.prog 75 #[.slice (some ⟨bq, 0, none⟩) xs.length cap] w fun e w' =>
      ∃ q cap', e = .returned (.slice (some ⟨q, 0, none⟩) xs.length cap') ∧ w.heap.size ≤ q ∧ IntsAt w' q xs ∧ Below w.heap.size w w' := by
  have hcell := hx.cell
  have hnn := nil_ne bq xs.length cap w
  have hbq := hx.lt
  obtain ⟨i0, hi, hz0, hz1, hz2⟩ := info_parts infoInt
  go_enter Try.func75, Try.ntmps75
  have hown0 : (w.alloc (.cells #[] 3)).ownsRow w.heap.size 3 1 (.slice (some ⟨w.heap.size, 0, none⟩) 0 0) 0 [] :=
    ⟨rfl, .inr ⟨w.heap.size, 0, #[], rfl, Nat.le_refl _, obj_new _ _, Nat.le_refl _, Nat.zero_le _, rfl, rfl⟩⟩
  have hnews : ∀ j u, (xs.map (Value.int .i64))[j]? = some u → (w.alloc (.cells #[] 3)).cell? ((⟨bq, 0, none⟩ : Addr).add j) = some u := by
    intro j u hu
    rw [List.getElem?_map] at hu
    by_cases hj : j < xs.length
    · rw [List.getElem?_eq_getElem hj] at hu
      simp only [Option.map_some, Option.some.injEq] at hu
      subst hu
      have : ((⟨bq, 0, none⟩ : Addr).add j) = ⟨bq, j, none⟩ := by unfold Addr.add; split <;> simp_all
      rw [this]
      exact cell_later (below_alloc _ _) (hcell j hj)
    · rw [List.getElem?_eq_none (by omega)] at hu
      simp at hu
  clear hcell
  go_wp2_with (at_builtin; refine wpList_append_own _ rfl _ _ 40 rfl w.heap.size 3 i0 (.int .i64 0) 1 8 Try.underlying40 hi hz0 hz1 hz2 rfl (by decide) _ _ _ rfl hown0 ⟨bq, 0, none⟩ xs.length cap (xs.map (Value.int .i64)) rfl (by simp) hnews (by intro u hu; obtain ⟨x, _, rfl⟩ := List.mem_map.1 hu; rfl) (by unfold maxLen; omega) (by omega) (by simp) ?_; intro v' w1 hown' hgrow hnil'; obtain ⟨g, cap', cur, rfl, hg1, hg2, hg3⟩ := ownsRow_some hown' (fun e => by have := (hnil'.1 e).1; cases this); clear hnil' hown' hnews hown0)
  go_ret
  refine ⟨g, cap', rfl, hg1, ⟨cur, 3, hg2, fun i hi => ?_⟩, ?_⟩
  · have : (cur.toList.take xs.length)[i]? = (xs.map (Value.int .i64))[i]? := by simpa using congrArg (fun l => l[i]?) hg3
    rw [List.getElem?_take, if_pos hi, List.getElem?_map, List.getElem?_eq_getElem hi] at this
    simpa using this
  · exact (below_alloc w (.cells #[] 3)).grown hgrow (by simp) (fun k hk => by cases hk; exact Nat.le_refl _)
end Go.Proofs.Ytjkegmjjhdmkiaa
