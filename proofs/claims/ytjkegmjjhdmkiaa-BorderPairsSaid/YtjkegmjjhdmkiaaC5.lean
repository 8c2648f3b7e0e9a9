/- Package border: the iterator over all joinings with a shift. -/
import Derived.Test.YtjkegmjjhdmkiaaC4
import Derived.Laws.MakeOwn
namespace Go.Proofs.Ytjkegmjjhdmkiaa
open Go.RowKit Go.Shelf
attribute [local go_sem] Oper.semAt_some
set_option maxHeartbeats 1600000
set_option maxRecDepth 100000
set_option linter.unusedSimpArgs false

section
variable {p B2 By Bo B5 bq l B0 nf ns : Nat} {fa sa : Option Addr} {fc sc fset sset : Nat} {row : Nat → Nat}

theorem on_any {J Jx : (Nat → Prop) → List (List Int) → World → Prop} {L : List (List Int)} (C : OnCtx p B2 By Bo B5 bq l B0 nf ns fset sset row J Jx L) :
    ∀ (r : Nat) (ls : List Int) (used : Nat) (pre : List (List Int)) (W : World), ls.length + r = nf → OnS W p B2 By Bo B5 l nf ns fa sa fc sc fset sset row → RowAt W bq ls → Used used ls → B0 ≤ W.heap.size →
      J (fun k => k = By ∨ k = Bo ∨ k = bq) pre W → (∃ post, L = pre ++ jsFrom row fset sset ns r ls ++ post) →
      Calls Try.prog 74 #[.slice (some ⟨bq, 0, none⟩) ls.length 6, .int .u64 used, .pointer (some ⟨B2, 0, none⟩), .pointer (some ⟨By, 0, none⟩), .pointer (some ⟨Bo, 0, none⟩), .pointer (some ⟨B5, 0, none⟩)] W
        (OnPost W p B2 By Bo B5 bq J Jx (fun k => k = By ∨ k = Bo ∨ k = bq) pre (jsFrom row fset sset ns r ls) ls) := by
  intro r
  induction r with
  | zero => exact on_zero C
  | succ r ih => exact on_succ C r ih

theorem make6 (w : World) : (Instr.makeSlice 40 (.int .i64 0) (.int .i64 6)).run Try.prog w =
    .ok (.slice (some ⟨w.heap.size, 0, none⟩) 0 6) (w.alloc (.cells #[.int .i64 0, .int .i64 0, .int .i64 0, .int .i64 0, .int .i64 0, .int .i64 0] 3)) := by
  obtain ⟨i0, hi, hz0, hz1, hz2⟩ := info_parts infoInt
  have h := run_makeSlice (P := Try.prog) w 40 3 i0 (.int .i64 0) Try.underlying40 hi hz0 .i64 .i64 0 6 (by omega) (by omega) (by simp [hz1]) (by simp [hz2]) (by omega)
  rw [h, hz1]
  have : madeCells (Value.int .i64 0).cells (Int.toNat 6 * 1) = #[.int .i64 0, .int .i64 0, .int .i64 0, .int .i64 0, .int .i64 0, .int .i64 0] := by kernel_rfl
  rw [this]
  rfl

theorem joinings_seq (W : World) (c2 : W.cell? ⟨B2, 0, none⟩ = some (.pointer (some ⟨p, 0, none⟩))) (c5 : ∀ i, i < 6 → W.cell? ⟨B5, i, none⟩ = some (.int .u64 (row i)))
    (b4 : W.cell? ⟨p, 4, none⟩ = some (.slice fa nf fc)) (b5 : W.cell? ⟨p, 5, none⟩ = some (.slice sa ns sc)) (b6 : W.cell? ⟨p, 6, none⟩ = some (.int .u64 fset)) (b7 : W.cell? ⟨p, 7, none⟩ = some (.int .u64 sset))
    (nf6 : nf ≤ 6) (ns6 : ns ≤ 6) (f6 : fset < 2 ^ 6) (s6 : sset < 2 ^ ns) (row6 : ∀ i, row i < 2 ^ ns) (hB0 : B0 ≤ W.heap.size) :
    SeqOwn Try.prog 73 #[.pointer (some ⟨B2, 0, none⟩), .pointer (some ⟨B5, 0, none⟩)] (JoinEnc B0) (KeepCells (fun k => k = p ∨ k = B2 ∨ k = B5)) (jsFrom row fset sset ns nf []) W := by
  intro l J Jx hJ hJx hY h0
  have hp := World.block_lt_of_cell? W _ b4
  have h2 := World.block_lt_of_cell? W _ c2
  have h5 := World.block_lt_of_cell? W _ (c5 0 (by omega))
  dsimp only at hp h2 h5
  refine (callsIn_wide (n := 1)).1 ?_
  refine callsIn_of_wp Try.func73 rfl trivial ?_ rfl
  simp only [Try.ntmps73, List.size_toArray, List.length_cons, List.length_nil, Nat.reduceAdd, Nat.reduceSub, Array.replicate_succ, Array.replicate_zero, List.push_toArray, List.append_toArray, List.nil_append, List.cons_append]
  gi_wp2
  obtain ⟨W3, hW3⟩ : ∃ W3, (W.alloc (.cells #[.func (.yield l) #[] #[]] 128)).alloc (.cells #[onV B2 W.heap.size (W.heap.size + 1) B5] 129) = W3 := ⟨_, rfl⟩
  have hW3' := hW3
  unfold onV at hW3'
  rw [hW3']
  clear hW3'
  have hst3 : Steps (fun _ => False) W W3 := by rw [← hW3]; exact (Steps.alloc _ W _).trans (Steps.alloc (fun _ => False) _ _) (fun _ _ h => h)
  have hz3 : W3.heap.size = W.heap.size + 2 := by rw [← hW3]; simp
  have cy : W3.cell? ⟨W.heap.size, 0, none⟩ = some (.func (.yield l) #[] #[]) := by rw [← hW3]; exact cell_later (below_alloc _ _) (cell_new _ _ _ _ _ rfl)
  have co : W3.cell? ⟨W.heap.size + 1, 0, none⟩ = some (onV B2 W.heap.size (W.heap.size + 1) B5) := by
    have := cell_new (W.alloc (.cells #[.func (.yield l) #[] #[]] 128)) #[onV B2 W.heap.size (W.heap.size + 1) B5] 129 0 _ rfl
    rw [World.size_alloc] at this
    rw [← hW3]; exact this
  clear hW3
  have hkeep3 : KeepCells (fun _ => True) W W3 := KeepCells.of_steps hst3 (fun _ _ h => h)
  have HZ3 := Lib.hid hz3
  clear hz3
  have co' := co
  unfold onV at co'
  have ko : ∀ W', KeepCells (fun k => k = W.heap.size + 1) W3 W' → W'.cell? ⟨W.heap.size + 1, 0, none⟩ = some (onV B2 W.heap.size (W.heap.size + 1) B5) := fun W' h => h ⟨W.heap.size + 1, 0, none⟩ _ rfl co
  unfold onV at ko
  refine wpIn_region_W (S := fun W' => KeepCells (fun k => k = W.heap.size + 1) W3 W') 3 (by kernel_rfl) (by kernel_rfl) (fun a v _ h => h) (fun hHeld => ?_)
  refine wpAnyW_takeD 0 6 (v := ?_) (by kernel_rfl) (by kernel_rfl) (by kernel_rfl) (by kernel_rfl) (fun _ _ _ h => h) ?_ (by assumption) ?_
  rotate_left
  · intro oi hoi w hSw; (try dsimp only at hSw); simp only [List.getElem?_toArray, List.getElem?_cons_zero, List.getElem?_cons_succ, Option.some.injEq] at hoi; subst hoi; go_simp; try with_reducible rfl
  simp only [Act.put, List.setIfInBounds_toArray, List.set_cons_zero, List.set_cons_succ]
  have hmk := make6 W3.drew
  refine wpAnyW_one 1 (by kernel_rfl) (by kernel_rfl) ?_
  intro o ho K hK
  simp only [List.getElem?_toArray, List.getElem?_cons_zero, List.getElem?_cons_succ, Option.some.injEq] at ho
  subst ho
  go_simp
  have hst4 : Steps (fun _ => False) W3 (W3.alloc (.cells #[.int .i64 0, .int .i64 0, .int .i64 0, .int .i64 0, .int .i64 0, .int .i64 0] 3)).drew := (Steps.alloc (fun _ => False) W3 _).drew
  have hq4 : (W3.alloc (.cells #[.int .i64 0, .int .i64 0, .int .i64 0, .int .i64 0, .int .i64 0, .int .i64 0] 3)).drew.heap[W3.heap.size]? = some (.cells #[.int .i64 0, .int .i64 0, .int .i64 0, .int .i64 0, .int .i64 0, .int .i64 0] 3 (0, 0)) := obj_new _ _
  have hz4 : (W3.alloc (.cells #[.int .i64 0, .int .i64 0, .int .i64 0, .int .i64 0, .int .i64 0, .int .i64 0] 3)).drew.heap.size = W3.heap.size + 1 := by
    show (W3.alloc _).heap.size = _
    simp
  generalize (W3.alloc (.cells #[.int .i64 0, .int .i64 0, .int .i64 0, .int .i64 0, .int .i64 0, .int .i64 0] 3)).drew = W4 at hst4 hq4 hz4 hK ⊢
  have hk4 : KeepCells (fun _ => True) W3 W4 := KeepCells.of_steps hst4 (fun _ _ h => h)
  refine hK _ _ (hk4.mono (fun _ _ => trivial)) (fun hHeld4 => ?_)
  clear hK K
  try simp only [Act.put, List.setIfInBounds_toArray, List.set_cons_zero, List.set_cons_succ]
  have hkw : KeepCells (fun _ => True) W W4 := hkeep3.trans hk4
  have hz3 := HZ3.out
  have hS4 : OnS W4 p B2 W.heap.size (W.heap.size + 1) B5 l nf ns fa sa fc sc fset sset row :=
    ⟨hkw _ _ trivial c2, hk4 _ _ trivial cy, hk4 _ _ trivial co, fun i hi => hkw _ _ trivial (c5 i hi), hkw _ _ trivial b4, hkw _ _ trivial b5, hkw _ _ trivial b6, hkw _ _ trivial b7⟩
  have hJ4 : J (fun k => k = W.heap.size ∨ k = W.heap.size + 1 ∨ k = W3.heap.size) [] W4 :=
    hJ (fun _ => False) _ [] W W4 h0 (hst3.trans hst4 (fun _ _ h => h)) (fun k hk => .inr (by omega))
  have C : OnCtx p B2 W.heap.size (W.heap.size + 1) B5 W3.heap.size l B0 nf ns fset sset row J Jx (jsFrom row fset sset ns nf []) :=
    ⟨hJ, hJx, nf6, ns6, f6, s6, row6, by unfold OnB; omega, by omega, fun pre x vals W1 h1 h2 h3 => hY _ pre x vals W1 h1 h2 h3⟩
  have hon := on_any C nf [] 0 [] W4 (by simp) hS4 ⟨_, hq4, rfl, fun i hi => by simp at hi⟩ ⟨by decide, fun k => by simp⟩ (by omega) hJ4 ⟨[], by simp⟩
  simp only [List.length_nil, Int.natCast_zero, List.nil_append] at hon
  clear hz3
  refine wpAnyW_one 2 (by kernel_rfl) (by kernel_rfl) ?_
  intro o ho K hK
  simp only [List.getElem?_toArray, List.getElem?_cons_zero, List.getElem?_cons_succ, Option.some.injEq] at ho
  subst ho
  go_simp
  refine ⟨trivial, CallsIn.mono (callsIn_wide.2 hon) ?_⟩
  rintro e W5 ⟨hk5, hz5, (⟨rfl, hR5, hJ5⟩ | ⟨rfl, qq, hpre, hJx5⟩)⟩
  all_goals
    refine hK _ _ (fun a v ha hv => hk5 a v (by unfold OnB; dsimp only at ha; omega) (hk4 a v trivial hv)) (fun hHeld5 => ?_)
    clear hK K
    try simp only [Act.put, List.setIfInBounds_toArray, List.set_cons_zero, List.set_cons_succ]
    refine wpAnyW_done (by kernel_rfl) ?_ _
    gi_wp2
    go_end0
  · exact ⟨⟨_, rfl⟩, .inl ⟨_, hJ5⟩⟩
  · exact ⟨⟨_, rfl⟩, .inr ⟨_, qq, hpre, hJx5⟩⟩
end
end Go.Proofs.Ytjkegmjjhdmkiaa
