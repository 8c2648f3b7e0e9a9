/- Plain laws on a map whose keys can be told apart: what a look-up finds, what a store leaves. No program in sight. -/
import Derived.WalkKit
import Derived.Maps.Own
import Derived.RangeFuncRecord
namespace Go.Proofs.Ytacioedolmaofaa
open Go.RowKit
set_option linter.unusedSimpArgs false

/-- Keys that can be told apart. -/
structure KeyFacts (P : Program) (kt : TypeId) {σ : Type} (kv : σ → Value) : Prop where
  eq : ∀ (s s' : σ) (w : World), ∃ b : Bool, (Op.equal kt (kv s) (kv s')).run P w = .ok b w ∧ (b = true ↔ s = s')
  inj : ∀ s s', kv s = kv s' → s = s'
  check : ∀ (em : Bool) (s : σ) (w : World), (Instr.checkKey em 10000 kt (kv s)).run P w = .ok () w
  now : ∃ d, P.underlying kt = some d ∧ ∀ (s s' : σ), Instr.sameNow d (kv s) (kv s') = none

section
variable {P : Program} {kt : TypeId} {σ : Type} {kv : σ → Value}

theorem findAsking_run (K : KeyFacts P kt kv) (s : σ) (w : World) : ∀ (es : List MapEntry), (∀ en ∈ es, ∃ s', en.key = kv s') → ∀ i : Nat,
    ((Instr.findAsking kt (kv s) es i).run P w = .ok none w ∧ ∀ en ∈ es, en.key ≠ kv s) ∨
    ∃ j en, (Instr.findAsking kt (kv s) es i).run P w = .ok (some (i + j, en.val)) w ∧ es[j]? = some en ∧ en.key = kv s := by
  intro es
  induction es with
  | nil => intro _ i; exact .inl ⟨rfl, fun _ h => by cases h⟩
  | cons e es ih =>
    intro h i
    obtain ⟨s', hs'⟩ := h e (by simp)
    obtain ⟨b, hb, hiff⟩ := K.eq s s' w
    unfold Instr.findAsking
    rw [hs', Sem.run_bind, hb]
    simp only [Result.andThen]
    cases b with
    | true =>
      obtain rfl := hiff.1 rfl
      exact .inr ⟨0, e, rfl, rfl, hs'⟩
    | false =>
      simp only [Bool.false_eq_true, if_false]
      rcases ih (fun en hen => h en (by simp [hen])) (i + 1) with ⟨h1, h2⟩ | ⟨j, en, h1, h2, h3⟩
      · refine .inl ⟨h1, fun en hen => ?_⟩
        rcases List.mem_cons.1 hen with rfl | hen
        · rw [hs']; intro e; have := K.inj _ _ e; have := hiff.2 this.symm; cases this
        · exact h2 en hen
      · exact .inr ⟨j + 1, en, by rw [h1]; congr 3; omega, by simpa using h2, h3⟩

theorem findKey_run (K : KeyFacts P kt kv) (s : σ) (w : World) (es : List MapEntry) (h : ∀ en ∈ es, ∃ s', en.key = kv s') :
    ((Instr.findKey kt (kv s) es).run P w = .ok none w ∧ ∀ en ∈ es, en.key ≠ kv s) ∨
    ∃ j en, (Instr.findKey kt (kv s) es).run P w = .ok (some (j, en.val)) w ∧ es[j]? = some en ∧ en.key = kv s := by
  obtain ⟨d, hd, hn⟩ := K.now
  cases es with
  | nil =>
    refine .inl ⟨?_, fun _ h => by cases h⟩
    unfold Instr.findKey
    simp [run_underlying hd, Instr.findNow]
  | cons e es =>
    obtain ⟨s', hs'⟩ := h e (by simp)
    have h0 : Instr.findNow d (kv s) (e :: es) 0 = none := by simp [Instr.findNow, hs', hn]
    have h1 : (Instr.findKey kt (kv s) (e :: es)).run P w = (Instr.findAsking kt (kv s) (e :: es) 0).run P w := by
      unfold Instr.findKey
      simp [run_underlying hd, h0]
    rw [h1]
    rcases findAsking_run K s w (e :: es) h 0 with h2 | ⟨j, en, h2, h3, h4⟩
    · exact .inl h2
    · exact .inr ⟨j, en, by rw [h2]; simp, h3, h4⟩

/-- What a look-up finds. -/
theorem lookup_run (K : KeyFacts P kt kv) {t et : TypeId} (ht : P.underlying t = some (.map kt et)) {z : Value} (hz : ∀ w, (zeroValue et).run P w = .ok z w) (s : σ) {w : World} {r : Nat} {es : Array MapEntry} {clk : Nat}
    (hr : w.heap[r]? = some (.map es clk)) (h : ∀ en ∈ es, ∃ s', en.key = kv s') :
    ((Instr.lookup t (.map (some r)) (kv s) true).run P w = .ok (.tuple #[z, .bool false]) w ∧ ∀ en ∈ es, en.key ≠ kv s) ∨
    ∃ en ∈ es, (Instr.lookup t (.map (some r)) (kv s) true).run P w = .ok (.tuple #[en.val, .bool true]) w ∧ en.key = kv s := by
  have hg : (getObj r).run P w = .ok (.map es clk) w := by simp [getObj, Sem.run, hr]
  rcases findKey_run K s w es.toList (fun en hen => h en (by simpa using hen)) with ⟨h1, h2⟩ | ⟨j, en, h1, h2, h3⟩
  · refine .inl ⟨?_, fun en hen => h2 en (by simpa using hen)⟩
    unfold Instr.lookup
    simp [run_underlying ht, hg, K.check, h1, hz, Result.andThen]
  · refine .inr ⟨en, by simpa using List.mem_of_getElem? h2, ?_, h3⟩
    unfold Instr.lookup
    simp [run_underlying ht, hg, K.check, h1, Result.andThen]

/-- What a store of a new key leaves. -/
theorem update_run (K : KeyFacts P kt kv) {t et : TypeId} (ht : P.underlying t = some (.map kt et)) (s : σ) (v : Value) {w : World} {r : Nat} {es : Array MapEntry} {clk : Nat}
    (hr : w.heap[r]? = some (.map es clk)) (h : ∀ en ∈ es, ∃ s', en.key = kv s') (hnew : ∀ en ∈ es, en.key ≠ kv s) :
    (Instr.mapUpdate t (.map (some r)) (kv s) v).run P w = .ok () (w.putObj r (.map (es.push { key := kv s, val := v, born := clk }) (clk + 1))) := by
  have hg : (getObj r).run P w = .ok (.map es clk) w := by simp [getObj, Sem.run, hr]
  rcases findKey_run K s w es.toList (fun en hen => h en (by simpa using hen)) with ⟨h1, h2⟩ | ⟨j, en, h1, h2, h3⟩
  · unfold Instr.mapUpdate
    have hs : ∀ o, (setObj r o).run P w = .ok () (w.putObj r o) := fun o => by simp [setObj, Sem.run, hr, World.putObj]
    simp [run_underlying ht, hg, K.check, h1, hs, Result.andThen]
  · exact absurd h3 (hnew en (by simpa using List.mem_of_getElem? h2))
end
end Go.Proofs.Ytacioedolmaofaa
