/- Spans and stars compared; parts of a function's code. A struct of six cells stored whole. -/
import Derived.Test.YtjkegmjjhdmkiaaBU19
import Derived.Test.YtjkegmjjhdmkiaaBU20
import Derived.Test.YtjkegmjjhdmkiaaBU24
import Derived.BigQuiet
import Derived.BigRegion
import Derived.IntWalk
import Derived.Laws.StructEq
namespace Go.Proofs.Ytjkegmjjhdmkiaa
open Go.RowKit Go.Shelf
set_option maxHeartbeats 1600000
set_option maxRecDepth 100000
set_option linter.unusedSimpArgs false

theorem eqFields_true {P : Program} (d : Nat) (xs : Array Value) : ∀ (fs : List Field) (w : World), (∀ f ∈ fs, ∃ v, ∀ w, (part f.type xs f.offset).run P w = .ok v w ∧ (Op.equalIn d f.type v v).run P w = .ok true w) → (Op.eqFields d xs xs fs).run P w = .ok true w := by
  intro fs
  induction fs with
  | nil => intro w _; simp [Op.eqFields]
  | cons f fs ih =>
    intro w h
    have ih' := ih w (fun g hg => h g (List.mem_cons_of_mem _ hg))
    obtain ⟨v, hv⟩ := h f List.mem_cons_self
    simp only [Op.eqFields]
    split
    · simp [Sem.run_bind, (hv w).1, (hv w).2, Result.andThen, ih']
    · exact ih'
theorem eq_fields {P : Program} {t : TypeId} {l : List (String × TypeId × Nat)} (h : (P.fieldsOf t).toList.map (fun f => (f.name, f.type, f.offset)) = l) {f : Field} (hf : f ∈ (P.fieldsOf t).toList) : (f.name, f.type, f.offset) ∈ l := by
  rw [← h]; exact List.mem_map.2 ⟨f, hf, rfl⟩

theorem span_eq (d : Nat) (a c : Int) (w : World) : (Op.equalIn (d + 2) 23 (.agg #[.int .i64 a, .int .i64 c]) (.agg #[.int .i64 a, .int .i64 c])).run Try.prog w = .ok true w := by
  have hu : Try.prog.underlying 23 = some (.struct (Try.prog.fieldsOf 23)) := by kernel_rfl
  have hp : Try.prog.stoodInHeld 23 = false := by kernel_rfl
  have hf : (Try.prog.fieldsOf 23).toList.map (fun f => (f.name, f.type, f.offset)) = [("Lo", 3, 0), ("Hi", 3, 1)] := by kernel_rfl
  rw [run_equalIn_struct _ _ _ _ _ hu hp]
  refine eqFields_true _ _ _ _ (fun f hm => ?_)
  have h := eq_fields hf hm
  simp only [List.mem_cons, List.not_mem_nil, or_false, Prod.mk.injEq] at h
  have hi : ∀ (x : Int) (w : World), (Op.equalIn (d + 1) 3 (.int .i64 x) (.int .i64 x)).run Try.prog w = .ok true w := fun x w => by
    rw [run_equalIn_int _ _ _ _ _ _ _ Try.underlying3]; simp
  rcases h with ⟨_, h1, h2⟩ | ⟨_, h1, h2⟩
  · rw [h1, h2]; exact ⟨.int .i64 a, fun w => ⟨by kernel_rfl, hi a w⟩⟩
  · rw [h1, h2]; exact ⟨.int .i64 c, fun w => ⟨by kernel_rfl, hi c w⟩⟩
theorem span_neq (a c : Int) (w : World) : (binOp .neq 23 (.agg #[.int .i64 a, .int .i64 c]) (.agg #[.int .i64 a, .int .i64 c])).run Try.prog w = .ok (.bool false) w := by
  rw [run_neq_struct, span_eq 9998]; rfl
theorem edge_neq (x : Ed) (w : World) : (binOp .neq 55 (edV x) (edV x)).run Try.prog w = .ok (.bool false) w := by
  unfold edV
  have hu : Try.prog.underlying 55 = some (.struct (Try.prog.fieldsOf 55)) := by kernel_rfl
  have hp : Try.prog.stoodInHeld 55 = false := by kernel_rfl
  have hf : (Try.prog.fieldsOf 55).toList.map (fun f => (f.name, f.type, f.offset)) = [("East", 23, 0), ("North", 23, 2), ("Bright", 23, 4), ("Sure", 4, 6)] := by kernel_rfl
  rw [run_neq_struct, run_equalIn_struct _ _ _ _ _ hu hp, eqFields_true]
  · rfl
  · intro f hm
    have h := eq_fields hf hm
    simp only [List.mem_cons, List.not_mem_nil, or_false, Prod.mk.injEq] at h
    rcases h with ⟨_, h1, h2⟩ | ⟨_, h1, h2⟩ | ⟨_, h1, h2⟩ | ⟨_, h1, h2⟩
    · rw [h1, h2]; exact ⟨.agg #[.int .i64 x.e.lo, .int .i64 x.e.hi], fun w => ⟨by kernel_rfl, span_eq 9997 _ _ w⟩⟩
    · rw [h1, h2]; exact ⟨.agg #[.int .i64 x.n.lo, .int .i64 x.n.hi], fun w => ⟨by kernel_rfl, span_eq 9997 _ _ w⟩⟩
    · rw [h1, h2]; exact ⟨.agg #[.int .i64 x.b.lo, .int .i64 x.b.hi], fun w => ⟨by kernel_rfl, span_eq 9997 _ _ w⟩⟩
    · rw [h1, h2]; exact ⟨.bool x.sure, fun w => ⟨by kernel_rfl, by rw [run_equalIn_bool' _ _ _ _ _ Try.underlying4]; simp⟩⟩

/-- What follows the first statement for which p holds, in a function's text; parts of a statement. -/
def tailAt' (p : Code → Bool) : Code → Option Code
  | .seq a b => if p a then some (.seq a b) else tailAt' p b
  | _ => none
def isIf' (n : Nat) : Code → Bool
  | .seq (.region m _ _) _ => m == n
  | _ => false
def isReg (n : Nat) : Code → Bool
  | .region m _ _ => m == n
  | _ => false
def fstC' : Code → Code
  | .seq a _ => a
  | c => c
def sndC' : Code → Code
  | .seq _ b => b
  | c => c
end Go.Proofs.Ytjkegmjjhdmkiaa
namespace Go.Proofs.Ytjkegmjjhdmkiaa
open Go.RowKit Go.Shelf
set_option maxHeartbeats 1600000
set_option maxRecDepth 100000

theorem six_same {w : World} {p : Nat} {x0 x1 x2 x3 x4 x5 : Value} (v0 v1 v2 v3 v4 v5 : Value) {T : TypeId} (h : w.heap[p]? = some (.cells #[x0, x1, x2, x3, x4, x5] T)) : ((((((w.setCell ⟨p, 0, none⟩ v0).setCell ⟨p, 1, none⟩ v1).setCell ⟨p, 2, none⟩ v2).setCell ⟨p, 3, none⟩ v3).setCell ⟨p, 4, none⟩ v4).setCell ⟨p, 5, none⟩ v5).heap[p]? = some (.cells #[v0, v1, v2, v3, v4, v5] T) :=
  heap_setCell_same _ _ 5 _ _ v5 (heap_setCell_same _ _ 4 _ _ v4 (heap_setCell_same _ _ 3 _ _ v3 (heap_setCell_same _ _ 2 _ _ v2 (heap_setCell_same _ _ 1 _ _ v1 (heap_setCell_same _ _ 0 _ _ v0 (h))))))
theorem six_other (w : World) (p k : Nat) (v0 v1 v2 v3 v4 v5 : Value) (h : k ≠ p) : ((((((w.setCell ⟨p, 0, none⟩ v0).setCell ⟨p, 1, none⟩ v1).setCell ⟨p, 2, none⟩ v2).setCell ⟨p, 3, none⟩ v3).setCell ⟨p, 4, none⟩ v4).setCell ⟨p, 5, none⟩ v5).heap[k]? = w.heap[k]? := by
  iterate 6 rw [Below.heap_setCell _ _ _ _ (by exact h)]
theorem six_below {w w' : World} {p B : Nat} (v0 v1 v2 v3 v4 v5 : Value) (h : Below B w w') (hB : B ≤ p) : Below B w ((((((w'.setCell ⟨p, 0, none⟩ v0).setCell ⟨p, 1, none⟩ v1).setCell ⟨p, 2, none⟩ v2).setCell ⟨p, 3, none⟩ v3).setCell ⟨p, 4, none⟩ v4).setCell ⟨p, 5, none⟩ v5) := by
  iterate 6 refine Below.setCell ?_ (by exact hB) _
  exact h
end Go.Proofs.Ytjkegmjjhdmkiaa
