/- Package border: 'told', the deferred call that turns a panic into its error. -/
import Derived.Test.YtjkegmjjhdmkiaaBU14
import Derived.Defers
import Derived.Recover
namespace Go.Proofs.Ytjkegmjjhdmkiaa
open Go.RowKit Go.Shelf
set_option maxHeartbeats 800000
set_option maxRecDepth 100000
set_option linter.unusedSimpArgs false

theorem told_idle (p : Addr) (w : World) :
    CallsD Try.prog 40 #[.pointer (some p)] .returning w fun e u' w' => e = .returned (.tuple #[]) ∧ u' = .returning ∧ w' = w := by
  refine callsD_of_wpS Try.func40 rfl fun c₀ cs hu => ?_
  apply wpS_seq
  apply wpS_region
  simp [wpOpsS, go_sem, recoverD, hu, Try.ntmps40, Exit.thenS]
  refine wpS_of_wp ?_
  simp only [List.size_toArray, List.length_cons, List.length_nil, Nat.reduceAdd, Nat.reduceSub, Array.replicate_succ, Array.replicate_zero, List.push_toArray, List.append_toArray, List.nil_append, List.cons_append, List.setIfInBounds_toArray, List.set_cons_zero, List.set_cons_succ]
  go_wp2
  cases c₀
  simp_all [bodyPostS, results, Try.results40]

theorem told_panicking (be : Nat) (x y : Int) (w : World) (hc : w.cell? ⟨be, 0, none⟩ = some (.int .i64 y)) (hz : w.frozen? ⟨be, 0, none⟩ = false) :
    CallsD Try.prog 40 #[.pointer (some ⟨be, 0, none⟩)] (.panicking (failed x)) w fun e u' w' =>
      e = .returned (.tuple #[]) ∧ u' = .panicking [{ v := .iface 122 (.agg #[.int .i64 x]), recovered := true }] ∧ Steps (fun k => k = be) w w' ∧ w'.cell? ⟨be, 0, none⟩ = some (.int .i64 x) ∧ (∀ q, q ≠ ⟨be, 0, none⟩ → q.block < w.heap.size → w'.cell? q = w.cell? q) := by
  refine callsD_of_wpS Try.func40 rfl fun c₀ cs hu => ?_
  unfold failed at hu
  have hta : ∀ w, (Instr.typeAssert (.iface 122 (.agg #[.int .i64 x])) 20 122 true).run Try.prog w = .ok (.tuple #[.agg #[.int .i64 x], .bool true]) w := fun w => by kernel_rfl
  apply wpS_seq
  apply wpS_region
  simp [wpOpsS, go_sem, recoverD, hu, Try.ntmps40, Exit.thenS]
  refine wpS_of_wp ?_
  have hpw := World.block_lt_of_cell? w _ hc
  have hnew := cell_new w #[.int .i64 x] 122 0 _ rfl
  have hs := (Steps.setCell (own := fun k => k = be) w (p := ⟨be, 0, none⟩) rfl (.int .i64 x)).trans (Steps.alloc (fun k => k = be) _ (.cells #[.int .i64 x] 122)) (fun _ _ h => h)
  have hsz : (w.setCell ⟨be, 0, none⟩ (.int .i64 x)).heap.size = w.heap.size := by simp
  have hx : ((w.setCell ⟨be, 0, none⟩ (.int .i64 x)).alloc (.cells #[.int .i64 x] 122)).cell? ⟨be, 0, none⟩ = some (.int .i64 x) := cell_later (below_alloc _ _) (World.cell?_setCell_same' _ _ _ (by rw [hc]; rfl))
  have ho : ∀ q, q ≠ ⟨be, 0, none⟩ → q.block < w.heap.size → ((w.setCell ⟨be, 0, none⟩ (.int .i64 x)).alloc (.cells #[.int .i64 x] 122)).cell? q = w.cell? q := fun q hq hl =>
    (World.cell?_of_block (Below.heap_alloc _ _ _ (by omega))).trans (World.cell?_setCell_other _ _ _ _ (Ne.symm hq))
  have hz' : (w.alloc (.cells #[.int .i64 x] 122)).frozen? ⟨be, 0, none⟩ = false := (World.frozen?_of_block (Below.heap_alloc w _ _ hpw)).trans hz
  have HFIN := Lib.hid (And.intro hs (And.intro hx ho))
  clear hs hx ho hsz
  simp only [List.size_toArray, List.length_cons, List.length_nil, Nat.reduceAdd, Nat.reduceSub, Array.replicate_succ, Array.replicate_zero, List.push_toArray, List.append_toArray, List.nil_append, List.cons_append, List.setIfInBounds_toArray, List.set_cons_zero, List.set_cons_succ]
  go_wp2
  obtain ⟨q1, q2, q3⟩ := HFIN.out
  cases c₀
  simp [bodyPostS, results, Try.results40, go_sem]
  exact ⟨q1, q2, fun q h => q3 q h⟩

/-- The deferred call. -/
abbrev toldD (be : Nat) : Deferred := { target := .fn (.func 40) #[], args := #[.pointer (some ⟨be, 0, none⟩)] }

theorem door_ret {fn : Func} {R : Ending → World → Prop} {tmps : Array Value} {W : World} {be : Nat} {v : Value} (hr : (results fn tmps).run Try.prog W = .ok v W) (h : R (.returned v) W) :
    bodyPostD Try.prog fn R .ret { tmps, defers := [toldD be] } W := by
  refine leaves_cons (f := 40) (args := #[.pointer (some ⟨be, 0, none⟩)]) (by simp) (by simp [go_sem]) ?_
  refine (told_idle _ W).mono ?_
  rintro e u' w'' ⟨rfl, rfl, rfl⟩
  simp only [Leaves, settle]
  exact ⟨v, hr, h⟩

theorem door_panic {fn : Func} {R : Ending → World → Prop} {tmps : Array Value} {W : World} {be : Nat} {x y : Int} {v : Value} (hc : W.cell? ⟨be, 0, none⟩ = some (.int .i64 y)) (hz : W.frozen? ⟨be, 0, none⟩ = false)
    (h : ∀ W', Steps (fun k => k = be) W W' → W'.cell? ⟨be, 0, none⟩ = some (.int .i64 x) → (∀ q, q ≠ ⟨be, 0, none⟩ → q.block < W.heap.size → W'.cell? q = W.cell? q) → (results fn tmps).run Try.prog W' = .ok v W' ∧ R (.returned v) W') :
    bodyPostD Try.prog fn R (.panic (failed x)) { tmps, defers := [toldD be] } W := by
  refine leaves_cons (f := 40) (args := #[.pointer (some ⟨be, 0, none⟩)]) (by simp) (by simp [go_sem]) ?_
  refine (told_panicking be x y W hc hz).mono ?_
  rintro e u' w'' ⟨rfl, rfl, h1, h2, h3⟩
  simp only [Leaves, settle]
  obtain ⟨q1, q2⟩ := h w'' h1 h2 h3
  exact ⟨v, q1, q2⟩
end Go.Proofs.Ytjkegmjjhdmkiaa
