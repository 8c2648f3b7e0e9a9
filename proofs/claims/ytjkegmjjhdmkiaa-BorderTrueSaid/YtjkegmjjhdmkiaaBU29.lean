/- The truth of layer 6, drawn: the drawing is made; a span around a number. The truth of layer 6: what is so of the stars while they are made; rows of stars that the call owns. The truth of layer 6: the drawn parts of its making. -/
import Derived.Test.YtjkegmjjhdmkiaaBU28
namespace Go.Proofs.Ytjkegmjjhdmkiaa
open Go.RowKit Go.Shelf
set_option maxHeartbeats 12800000
set_option maxRecDepth 100000
set_option linter.unusedSimpArgs false
set_option linter.unusedVariables false

/-- The drawing, as a value. -/
def drawV (pc pb : Nat) : Value := .func (.func 62) #[] #[.pointer (some ⟨pc, 0, none⟩), .pointer (some ⟨pb, 0, none⟩)]

def DrawsPost (a : Option Addr) (c : Nat) (xs : List Nat) (w : World) (e : Ending) (w' : World) : Prop :=
  ∃ pc pb, e = .returned (drawV pc pb) ∧ DrawSt w' pc pb a c xs 0 ∧ w.heap.size ≤ pb ∧ Below w.heap.size w w'

theorem draws_any (a : Option Addr) (c : Nat) (xs : List Nat) (w : World) (h : U16B w w.heap.size a xs) :
    Calls Try.prog 29 #[.slice a xs.length c] w (DrawsPost a c xs w) := by
  have H := Lib.hid h
  clear h
  go_enter Try.func29, Try.ntmps29
  go_wp2
  go_ret
  obtain ⟨W0, hW0⟩ : ∃ W, ((w.alloc (.cells #[.slice a xs.length c] 45)).alloc (.cells #[.int .i64 0] 3)) = W := ⟨_, rfl⟩
  rw [hW0]
  try simp only [Nat.add_assoc, Nat.reduceAdd]
  have hst_W0 : Steps (fun _ => False) w W0 := by rw [← hW0]; exact (Steps.alloc _ w _).trans (Steps.alloc (fun _ => False) _ _) (fun _ _ h => h)
  have hz_W0 : W0.heap.size = w.heap.size + 2 := by rw [← hW0]; simp
  have g0_W0 : W0.heap[w.heap.size]? = some (.cells #[.slice a xs.length c] 45) := by rw [← hW0]; simp only [alloc_get, World.size_alloc]; repeat (first | exact if_pos trivial | exact if_pos (by omega) | rw [if_neg (by omega)])
  have g1_W0 : W0.heap[w.heap.size + 1]? = some (.cells #[.int .i64 0] 3) := by rw [← hW0]; simp only [alloc_get, World.size_alloc]; repeat (first | exact if_pos trivial | exact if_pos (by omega) | rw [if_neg (by omega)])
  clear hW0
  have hb0 : Below w.heap.size w W0 := hst_W0.below (Nat.le_refl _) (fun _ _ h => h)
  refine ⟨w.heap.size + 1, w.heap.size, rfl, ⟨⟨0, Nat.le_refl _, g1_W0⟩, g0_W0, fun i hi => ?_, by omega⟩, Nat.le_refl _, hb0⟩
  obtain ⟨q, o, h1, h2, h3⟩ := H.out i hi
  exact ⟨q, o, h1, by omega, cell_later hb0 h3⟩

def AroundPost (n wide : Int) (pc pb : Nat) (a : Option Addr) (c : Nat) (xs : List Nat) (k : Nat) (w : World) (e : Ending) (w' : World) : Prop :=
  ∃ lo hi : Int, (n - wide < lo ∧ lo ≤ n ∧ n ≤ hi ∧ hi < n + wide) ∧ e = .returned (.agg #[.int .i64 lo, .int .i64 hi]) ∧ DrawSt w' pc pb a c xs (k + 2) ∧ w.grownBy w' (some pc)

theorem around_any (n wide : Int) (p1 pc pb : Nat) (a : Option Addr) (c : Nat) (xs : List Nat) (k : Nat) (hx : NumsOk xs) (hn : -10000 ≤ n ∧ n ≤ 10000) (hwd : 1 ≤ wide ∧ wide ≤ 100) (hk : k ≤ 990) (w : World) (h : DrawSt w pc pb a c xs k) (hp : pc < p1) (h1 : w.heap[p1]? = some (.cells #[drawV pc pb] 48)) :
    Calls Try.prog 61 #[.int .i64 n, .int .i64 wide, .pointer (some ⟨p1, 0, none⟩)] w (AroundPost n wide pc pb a c xs k w) := by
  have HX := Lib.hid hx
  obtain ⟨hn1, hn2⟩ := hn
  have HW := Lib.hid hwd
  obtain ⟨hw1, hw2⟩ := hwd
  have HD := Lib.hid h
  have hsz := h.size
  clear h hx
  go_enter Try.func61, Try.ntmps61
  go_upto_region 1 with fail
  obtain ⟨W0, hW0⟩ : ∃ W, (w.alloc (.cells #[.int .i64 0, .int .i64 0] 23)) = W := ⟨_, rfl⟩
  rw [hW0]
  try simp only [Nat.add_assoc, Nat.reduceAdd]
  have hst_W0 : Steps (fun _ => False) w W0 := by rw [← hW0]; exact Steps.alloc _ w _
  have hz_W0 : W0.heap.size = w.heap.size + 1 := by rw [← hW0]; simp
  have g0_W0 : W0.heap[w.heap.size]? = some (.cells #[.int .i64 0, .int .i64 0] 23) := by rw [← hW0]; simp only [alloc_get, World.size_alloc]; repeat (first | exact if_pos trivial | exact if_pos (by omega) | rw [if_neg (by omega)])
  clear hW0
  have hb0 : Below w.heap.size w W0 := hst_W0.below (Nat.le_refl _) (fun _ _ h => h)
  have hg0 : w.grownBy W0 (some pc) := Below.grownB hb0 _
  have hD0 := HD.out.below hb0
  have hp0 := (hb0.block p1 (Array.getElem?_eq_some_iff.1 h1).1).trans h1
  have hne5 : w.heap.size ≠ pc := by omega
  have hn51 : w.heap.size ≠ p1 := by have := (Array.getElem?_eq_some_iff.1 h1).1; omega
  clear hst_W0 hz_W0 h1 HD
  have S1 : ∀ W' : World, W'.heap[p1]? = some (.cells #[drawV pc pb] 48) → W'.cell? ⟨p1, 0, none⟩ = some (.func (.func 62) #[] #[.pointer (some ⟨pc, 0, none⟩), .pointer (some ⟨pb, 0, none⟩)]) := fun W' h => cell_block h 0
  refine (wpIn_wide (n := 1)).1 ?_
  refine wpIn_region_Wn (S := fun W' => W'.heap[p1]? = some (.cells #[drawV pc pb] 48)) 12 (by kernel_rfl) (by kernel_rfl) (by exact hp0) (fun hHeld => ?_)
  refine wpAnyW_takeD 0 6 (v := ?_) (by kernel_rfl) (by kernel_rfl) (by kernel_rfl) (by kernel_rfl) (fun _ _ _ h => h) ?_ (by assumption) ?_
  rotate_left
  · intro oi hoi w hSw; (try dsimp only at hSw); simp only [List.getElem?_toArray, List.getElem?_cons_zero, List.getElem?_cons_succ, Option.some.injEq] at hoi; subst hoi; go_simp; try with_reducible rfl
  simp only [Act.put, List.setIfInBounds_toArray, List.set_cons_zero, List.set_cons_succ]
  refine wpAnyW_takeD 1 7 (v := ?_) (by kernel_rfl) (by kernel_rfl) (by kernel_rfl) (by kernel_rfl) (fun _ _ _ h => h) ?_ (by assumption) ?_
  rotate_left
  · intro oi hoi w hSw; (try dsimp only at hSw); simp only [List.getElem?_toArray, List.getElem?_cons_zero, List.getElem?_cons_succ, Option.some.injEq] at hoi; subst hoi; go_simp; try with_reducible rfl
  simp only [Act.put, List.setIfInBounds_toArray, List.set_cons_zero, List.set_cons_succ]
  refine wpAnyW_takeD 2 8 (v := ?_) (by kernel_rfl) (by kernel_rfl) (by kernel_rfl) (by kernel_rfl) (fun _ _ _ h => h) ?_ (by assumption) ?_
  rotate_left
  · intro oi hoi w hSw; (try dsimp only at hSw); simp only [List.getElem?_toArray, List.getElem?_cons_zero, List.getElem?_cons_succ, Option.some.injEq] at hoi; subst hoi; go_simp; try with_reducible rfl
  simp only [Act.put, List.setIfInBounds_toArray, List.set_cons_zero, List.set_cons_succ]
  refine wpAnyW_takeD 5 11 (v := ?_) (by kernel_rfl) (by kernel_rfl) (by kernel_rfl) (by kernel_rfl) (fun _ _ _ h => h) ?_ (by assumption) ?_
  rotate_left
  · intro oi hoi w hSw; (try dsimp only at hSw); simp only [List.getElem?_toArray, List.getElem?_cons_zero, List.getElem?_cons_succ, Option.some.injEq] at hoi; subst hoi; go_simp; try with_reducible rfl
  simp only [Act.put, List.setIfInBounds_toArray, List.set_cons_zero, List.set_cons_succ]
  refine wpAnyW_takeD 6 12 (v := ?_) (by kernel_rfl) (by kernel_rfl) (by kernel_rfl) (by kernel_rfl) (fun _ _ _ h => h) ?_ (by assumption) ?_
  rotate_left
  · intro oi hoi w hSw; (try dsimp only at hSw); simp only [List.getElem?_toArray, List.getElem?_cons_zero, List.getElem?_cons_succ, Option.some.injEq] at hoi; subst hoi; go_simp; try with_reducible rfl
  simp only [Act.put, List.setIfInBounds_toArray, List.set_cons_zero, List.set_cons_succ]
  refine wpAnyW_takeD 7 13 (v := ?_) (by kernel_rfl) (by kernel_rfl) (by kernel_rfl) (by kernel_rfl) (fun _ _ _ h => h) ?_ (by assumption) ?_
  rotate_left
  · intro oi hoi w hSw; (try dsimp only at hSw); simp only [List.getElem?_toArray, List.getElem?_cons_zero, List.getElem?_cons_succ, Option.some.injEq] at hoi; subst hoi; go_simp; try with_reducible rfl
  simp only [Act.put, List.setIfInBounds_toArray, List.set_cons_zero, List.set_cons_succ]
  have hD1 := hD0.below (below_drew W0)
  have hg1 := hg0.below3 (below_drew W0)
  have g1 : W0.drew.heap[w.heap.size]? = _ := g0_W0
  generalize W0.drew = W1 at hD1 hg1 g1 hHeld ⊢
  clear g0_W0 hD0 hb0 hg0 hp0
  refine wpAnyW_one 3 (by kernel_rfl) (by kernel_rfl) ?_
  intro o ho K hK
  simp only [List.getElem?_toArray, List.getElem?_cons_zero, List.getElem?_cons_succ, Option.some.injEq] at ho
  subst ho
  go_simp
  refine ⟨trivial, CallsIn.mono (callsIn_wide.2 (draw_any wide pc pb a c xs k HX.out HW.out (by omega) _ hD1)) ?_⟩
  rintro e W2 ⟨r1, hr1, rfl, hD2, hg2⟩
  have hH2 := (hg2.block p1 (Array.getElem?_eq_some_iff.1 hHeld).1 (fun e => by have := Option.some.inj e; omega)).trans hHeld
  have g2 := (hg2.block _ (Array.getElem?_eq_some_iff.1 g1).1 (fun e => hne5 (Option.some.inj e))).trans g1
  have hgg2 := grown_trans hg1 hg2 (.inl rfl)
  refine hK _ _ hH2 (fun _ => ?_)
  clear hK K hg2 g1 hD1 hg1 hHeld
  try simp only [Act.put, List.setIfInBounds_toArray, List.set_cons_zero, List.set_cons_succ]
  refine wpAnyW_takeD 4 10 (v := ?_) (by kernel_rfl) (by kernel_rfl) (by kernel_rfl) (by kernel_rfl) (fun _ _ _ h => h) ?_ (by assumption) ?_
  rotate_left
  · intro oi hoi w hSw; (try dsimp only at hSw); simp only [List.getElem?_toArray, List.getElem?_cons_zero, List.getElem?_cons_succ, Option.some.injEq] at hoi; subst hoi; go_simp; try with_reducible rfl
  simp only [Act.put, List.setIfInBounds_toArray, List.set_cons_zero, List.set_cons_succ]
  refine wpAnyW_one 8 (by kernel_rfl) (by kernel_rfl) ?_
  intro o ho K hK
  simp only [List.getElem?_toArray, List.getElem?_cons_zero, List.getElem?_cons_succ, Option.some.injEq] at ho
  subst ho
  go_simp
  refine ⟨trivial, CallsIn.mono (callsIn_wide.2 (draw_any wide pc pb a c xs (k + 1) HX.out HW.out (by omega) _ hD2)) ?_⟩
  rintro e W3 ⟨r2, hr2, rfl, hD3, hg3⟩
  have hH3 := (hg3.block p1 (Array.getElem?_eq_some_iff.1 hH2).1 (fun e => by have := Option.some.inj e; omega)).trans hH2
  have g3 := (hg3.block _ (Array.getElem?_eq_some_iff.1 g2).1 (fun e => hne5 (Option.some.inj e))).trans g2
  have hgg3 := grown_trans hgg2 hg3 (.inl rfl)
  refine hK _ _ hH3 (fun _ => ?_)
  clear hK K hg3 g2 hD2 hgg2 hH2
  try simp only [Act.put, List.setIfInBounds_toArray, List.set_cons_zero, List.set_cons_succ]
  refine wpAnyW_takeD 9 15 (v := ?_) (by kernel_rfl) (by kernel_rfl) (by kernel_rfl) (by kernel_rfl) (fun _ _ _ h => h) ?_ (by assumption) ?_
  rotate_left
  · intro oi hoi w hSw; (try dsimp only at hSw); simp only [List.getElem?_toArray, List.getElem?_cons_zero, List.getElem?_cons_succ, Option.some.injEq] at hoi; subst hoi; go_simp; try with_reducible rfl
  simp only [Act.put, List.setIfInBounds_toArray, List.set_cons_zero, List.set_cons_succ]
  refine wpAnyW_one 10 (by kernel_rfl) (by kernel_rfl) ?_
  intro o ho K hK
  simp only [List.getElem?_toArray, List.getElem?_cons_zero, List.getElem?_cons_succ, Option.some.injEq] at ho
  subst ho
  go_simp
  refine ⟨trivial, CallsIn.mono (callsIn_wide.2 (lspan_any _ _ _)) ?_⟩
  rintro e W4 ⟨rfl, hb4⟩
  have hH4 := (hb4.block p1 (Array.getElem?_eq_some_iff.1 hH3).1).trans hH3
  have g4 := obj_later hb4 g3
  have hD4 := hD3.below hb4
  have hgg4 := hgg3.below3 hb4
  refine hK _ _ hH4 (fun _ => ?_)
  clear hK K hb4 g3 hD3 hgg3 hH3
  try simp only [Act.put, List.setIfInBounds_toArray, List.set_cons_zero, List.set_cons_succ]
  have c0 := cell_block g4 0
  have c1 := cell_block g4 1
  have f0 := frozen_block g4 0
  have f1 := frozen_block g4 1
  simp only [List.getElem?_toArray, List.getElem?_cons_zero, List.getElem?_cons_succ] at c0 c1
  refine wpAnyW_one 11 (by kernel_rfl) (by kernel_rfl) ?_
  intro o ho K hK
  simp only [List.getElem?_toArray, List.getElem?_cons_zero, List.getElem?_cons_succ, Option.some.injEq] at ho
  subst ho
  go_simp
  have e1 : IntKind.i64.wrap (n - (r1 : Int)) = n - (r1 : Int) := by rw [IntKind.wrap_i64]; omega
  have e2 : IntKind.i64.wrap (n + (r2 : Int)) = n + (r2 : Int) := by rw [IntKind.wrap_i64]; omega
  rw [e1, e2]
  have m4 := two_same (.int .i64 (n - (r1 : Int))) (.int .i64 (n + (r2 : Int))) g4
  have hH5 := two_other w.heap.size p1 (.int .i64 (n - (r1 : Int))) (.int .i64 (n + (r2 : Int))) (fun e => hn51 e.symm) hH4
  have hgg5 : w.grownBy ((W4.setCell ⟨w.heap.size, 0, none⟩ (.int .i64 (n - (r1 : Int)))).setCell ⟨w.heap.size, 1, none⟩ (.int .i64 (n + (r2 : Int)))) (some pc) := by
    refine ⟨hgg4.os, hgg4.tape, hgg4.output, by simpa using hgg4.size, fun i hi hne => ?_⟩
    exact two_other w.heap.size i _ _ (by omega) (hgg4.block i hi hne)
  have hD5 : DrawSt ((W4.setCell ⟨w.heap.size, 0, none⟩ (.int .i64 (n - (r1 : Int)))).setCell ⟨w.heap.size, 1, none⟩ (.int .i64 (n + (r2 : Int)))) pc pb a c xs (k + 2) := hD4.other (fun i hi => two_other w.heap.size i _ _ (by omega) rfl)
  generalize ((W4.setCell ⟨w.heap.size, 0, none⟩ (.int .i64 (n - (r1 : Int)))).setCell ⟨w.heap.size, 1, none⟩ (.int .i64 (n + (r2 : Int)))) = W5 at m4 hH5 hgg5 hD5 ⊢
  refine hK _ _ hH5 (fun _ => ?_)
  clear hK K
  try simp only [Act.put, List.setIfInBounds_toArray, List.set_cons_zero, List.set_cons_succ]
  refine wpAnyW_done (by kernel_rfl) ?_ _
  dsimp only [onNormal]
  have d0 := cell_block m4 0
  have d1 := cell_block m4 1
  simp only [List.getElem?_toArray, List.getElem?_cons_zero, List.getElem?_cons_succ] at d0 d1
  have HF := Lib.hid (And.intro hD5 hgg5)
  have HE : Hid (n - wide < n - (r1 : Int) ∧ n - (r1 : Int) ≤ n ∧ n ≤ n + (r2 : Int) ∧ n + (r2 : Int) < n + wide) := Lib.hid (by omega)
  clear S1 m4 hH5 hgg5 hD5 hgg4 hD4 g4 hH4 c0 c1 f0 f1 e1 e2
  go_wp2
  exact bodyPost_ret (v := .agg #[.int .i64 (n - (r1 : Int)), .int .i64 (n + (r2 : Int))]) (by simp [results, Try.results61, go_sem, d0, d1]) rfl ⟨_, _, HE.out, rfl, HF.out.1, HF.out.2⟩
end Go.Proofs.Ytjkegmjjhdmkiaa
namespace Go.Proofs.Ytjkegmjjhdmkiaa
open Go.RowKit Go.Shelf
set_option maxHeartbeats 6400000
set_option maxRecDepth 100000
set_option linter.unusedSimpArgs false
set_option linter.unusedVariables false

/-- What is so of the stars that were made, and of the truth. -/
structure InvJ (z : Int × Int) (fs ss : List Ed) (sm : List Int) : Prop where
  len : sm.length = fs.length
  okf : ∀ x ∈ fs, x.ok = true
  oks : ∀ x ∈ ss, x.ok = true
  at' : ∀ i (h : i < fs.length), (sm.getD i (-1) = -1 ∧ fs[i].sure = false) ∨ ∃ k, ∃ hk : k < ss.length, sm.getD i (-1) = (k : Int) ∧ fs[i].same ss[k] z = true ∧ ∀ j, j < i → sm.getD j (-1) ≠ (k : Int)
  all : ∀ k (h : k < ss.length), ss[k].sure = true → (k : Int) ∈ sm
theorem InvJ.nil (z : Int × Int) : InvJ z [] [] [] := ⟨rfl, by simp, by simp, (fun i h => by cases h), (fun k h => by cases h)⟩
theorem InvJ.second {z : Int × Int} {fs ss : List Ed} {sm : List Int} (h : InvJ z fs ss sm) (x : Ed) (hx : x.ok = true) (hs : x.sure = false) : InvJ z fs (ss ++ [x]) sm := by
  refine ⟨h.len, h.okf, fun y hy => ?_, fun i hi => ?_, fun k hk hy => ?_⟩
  · rcases List.mem_append.1 hy with hy | hy
    · exact h.oks y hy
    · rw [List.mem_singleton] at hy; rw [hy]; exact hx
  · rcases h.at' i hi with h1 | ⟨k, hk, h1, h2, h3⟩
    · exact .inl h1
    · exact .inr ⟨k, by simp; omega, h1, by rw [List.getElem_append_left hk]; exact h2, h3⟩
  · by_cases e : k < ss.length
    · rw [List.getElem_append_left e] at hy
      exact h.all k e hy
    · have : k = ss.length := by simp at hk; omega
      subst this
      rw [List.getElem_append_right (Nat.le_refl _)] at hy
      simp only [Nat.sub_self, List.getElem_cons_zero] at hy
      rw [hs] at hy; cases hy
theorem getD_app {sm : List Int} {v : Int} {i : Nat} (h : i < sm.length) : (sm ++ [v]).getD i (-1) = sm.getD i (-1) := by
  simp only [List.getD_eq_getElem?_getD]
  rw [List.getElem?_append_left h]
theorem getD_last (sm : List Int) (v : Int) : (sm ++ [v]).getD sm.length (-1) = v := by
  simp only [List.getD_eq_getElem?_getD]
  rw [List.getElem?_append_right (Nat.le_refl _)]
  simp
theorem getD_last' {sm : List Int} {n : Nat} (v : Int) (h : sm.length = n) : (sm ++ [v]).getD n (-1) = v := by rw [← h]; exact getD_last sm v
theorem InvJ.first {z : Int × Int} {fs ss : List Ed} {sm : List Int} (h : InvJ z fs ss sm) (x : Ed) (hx : x.ok = true) (hs : x.sure = false) : InvJ z (fs ++ [x]) ss (sm ++ [-1]) := by
  refine ⟨by simp [h.len], fun y hy => ?_, h.oks, fun i hi => ?_, fun k hk hy => List.mem_append_left _ (h.all k hk hy)⟩
  · rcases List.mem_append.1 hy with hy | hy
    · exact h.okf y hy
    · rw [List.mem_singleton] at hy; rw [hy]; exact hx
  · by_cases e : i < fs.length
    · rw [getD_app (by rw [h.len]; exact e), List.getElem_append_left e]
      rcases h.at' i e with h1 | ⟨k, hk, h1, h2, h3⟩
      · exact .inl h1
      · exact .inr ⟨k, hk, h1, h2, fun j hj => by rw [getD_app (by rw [h.len]; omega)]; exact h3 j hj⟩
    · have : i = fs.length := by simp at hi; omega
      subst this
      left
      refine ⟨getD_last' _ h.len, ?_⟩
      rw [List.getElem_append_right (Nat.le_refl _)]
      simpa using hs
theorem InvJ.both {z : Int × Int} {fs ss : List Ed} {sm : List Int} (h : InvJ z fs ss sm) (x y : Ed) (hx : x.ok = true) (hy : y.ok = true) (hxy : x.same y z = true) : InvJ z (fs ++ [x]) (ss ++ [y]) (sm ++ [(ss.length : Int)]) := by
  refine ⟨by simp [h.len], fun u hu => ?_, fun u hu => ?_, fun i hi => ?_, fun k hk hu => ?_⟩
  · rcases List.mem_append.1 hu with hu | hu
    · exact h.okf u hu
    · rw [List.mem_singleton] at hu; rw [hu]; exact hx
  · rcases List.mem_append.1 hu with hu | hu
    · exact h.oks u hu
    · rw [List.mem_singleton] at hu; rw [hu]; exact hy
  · by_cases e : i < fs.length
    · rw [getD_app (by rw [h.len]; exact e), List.getElem_append_left e]
      rcases h.at' i e with h1 | ⟨k, hk, h1, h2, h3⟩
      · exact .inl h1
      · exact .inr ⟨k, by simp; omega, h1, by rw [List.getElem_append_left hk]; exact h2, fun j hj => by rw [getD_app (by rw [h.len]; omega)]; exact h3 j hj⟩
    · have : i = fs.length := by simp at hi; omega
      subst this
      right
      refine ⟨ss.length, by simp, ?_, ?_, fun j hj => ?_⟩
      · exact getD_last' _ h.len
      · rw [List.getElem_append_right (Nat.le_refl _), List.getElem_append_right (Nat.le_refl _)]
        simpa using hxy
      · rw [getD_app (by rw [h.len]; exact hj)]
        rcases h.at' j hj with ⟨h1, _⟩ | ⟨k, hk, h1, _⟩
        · rw [h1]; omega
        · rw [h1]; omega
  · by_cases e : k < ss.length
    · rw [List.getElem_append_left e] at hu
      exact List.mem_append_left _ (h.all k e hu)
    · have : k = ss.length := by simp at hk; omega
      subst this
      exact List.mem_append_right _ (by simp)
theorem InvJ.join {z : Int × Int} {se sn : Sp} {fs ss : List Ed} {sm : List Int} (h : InvJ z fs ss sm) : IsJoin ⟨se, sn, fs, ss⟩ (sures fs) (sures ss) z sm := by
  refine ⟨h.len, fun i hi => ?_, fun k hk hs => ?_⟩
  · rcases h.at' i hi with ⟨h1, h2⟩ | ⟨k, hk, h1, h2, h3⟩
    · left
      refine ⟨h1, ?_⟩
      unfold sures
      rw [maskOf_testBit]
      have : sureAt fs i = false := by simp [sureAt, show i < fs.length from hi, h2]
      simp [this]
    · refine .inr ⟨k, hk, h1, ?_, h3⟩
      have hi' : i < fs.length := hi
      unfold Bo.same
      simp only [List.getElem?_eq_getElem hi', List.getElem?_eq_getElem hk]
      exact h2
  · have hk' : k < ss.length := hk
    unfold sures at hs
    rw [maskOf_testBit] at hs
    have hsa : sureAt ss k = ss[k].sure := by simp [sureAt, hk']
    rw [hsa] at hs
    exact h.all k hk' (by simp at hs; exact hs.2)

/-- Rows in blocks apart. -/
def Dj (v u : Value) : Prop := ∀ g, v.ownBlock = some g → u.ownBlock ≠ some g
theorem Dj.symm {v u : Value} (h : Dj v u) : Dj u v := fun g hu hv => h g hv hu
theorem Dj.kept {v u : Value} (h : Dj v u) : v.ownBlock = none ∨ v.ownBlock ≠ u.ownBlock := by
  cases hv : v.ownBlock with
  | none => exact .inl rfl
  | some g => exact .inr (fun e => h g hv e.symm)
theorem Dj.next {W : World} {v u u' : Value} (h : Dj v u) (hv : ∀ g, v.ownBlock = some g → g < W.heap.size) (hn : RowNext W u u') : Dj v u' := by
  intro g hg e
  rcases hn with hn | ⟨q, hn, hq⟩
  · exact h g hg (hn ▸ e)
  · rw [hn] at e
    cases e
    have := hv g hg
    omega

/-- What stands in memory while the zones are made. -/
structure MadeI (w : World) (pc pb p1 p2 base : Nat) (a : Option Addr) (c : Nat) (xs : List Nat) (k : Nat) (se sn : Sp) (fs ss : List Ed) (sm : List Int) (vF vS vI : Value) : Prop where
  dr : DrawSt w pc pb a c xs k
  d1 : w.heap[p1]? = some (.cells #[drawV pc pb] 48)
  b2 : w.heap[p2]? = some (.cells #[.int .i64 se.lo, .int .i64 se.hi, .int .i64 sn.lo, .int .i64 sn.hi, vF, vS] 26)
  oF : w.ownsRow base 55 7 vF fs.length (edsCells fs)
  oS : w.ownsRow base 55 7 vS ss.length (edsCells ss)
  oI : w.ownsRow base 3 1 vI sm.length (sm.map (Value.int .i64))
  dFS : Dj vF vS
  dFI : Dj vF vI
  dSI : Dj vS vI
  q1 : pc < p1
  q2 : p1 < p2
  q3 : p2 < base
  q4 : base ≤ w.heap.size

section
variable {w w' : World} {pc pb p1 p2 base : Nat} {a : Option Addr} {c : Nat} {xs : List Nat} {k k' : Nat} {se sn : Sp} {fs ss : List Ed} {sm : List Int} {vF vS vI : Value}
/-- Some were drawn. -/
theorem MadeI.draw (h : MadeI w pc pb p1 p2 base a c xs k se sn fs ss sm vF vS vI) (hd : DrawSt w' pc pb a c xs k') (hg : w.grownBy w' (some pc)) : MadeI w' pc pb p1 p2 base a c xs k' se sn fs ss sm vF vS vI := by
  have q1 := h.q1
  have q2 := h.q2
  have q3 := h.q3
  have hk : ∀ {v : Value} {e : TypeId} {size n : Nat} {cs : List Value}, w.ownsRow base e size v n cs → w'.ownsRow base e size v n cs := fun ho => ho.kept hg (by
    cases hv : Value.ownBlock _ with
    | none => exact .inl rfl
    | some g => exact .inr (fun e => by have := (ho.lt g hv).1; have := Option.some.inj e; omega))
  refine ⟨hd, (hg.block p1 (Array.getElem?_eq_some_iff.1 h.d1).1 (fun e => by have := Option.some.inj e; omega)).trans h.d1, (hg.block p2 (Array.getElem?_eq_some_iff.1 h.b2).1 (fun e => by have := Option.some.inj e; omega)).trans h.b2, hk h.oF, hk h.oS, hk h.oI, h.dFS, h.dFI, h.dSI, q1, q2, q3, Nat.le_trans h.q4 hg.size⟩
/-- New blocks were made. -/
theorem MadeI.below (h : MadeI w pc pb p1 p2 base a c xs k se sn fs ss sm vF vS vI) (hb : Below w.heap.size w w') : MadeI w' pc pb p1 p2 base a c xs k se sn fs ss sm vF vS vI :=
  h.draw (h.dr.below hb) (Below.grownB hb _)
theorem MadeI.more (h : MadeI w pc pb p1 p2 base a c xs k se sn fs ss sm vF vS vI) (hk : k ≤ k') : MadeI w pc pb p1 p2 base a c xs k' se sn fs ss sm vF vS vI :=
  { h with dr := h.dr.more hk }
end

theorem edsCells_snoc (l : List Ed) (x : Ed) : edsCells (l ++ [x]) = edsCells l ++ edCells x := by simp [edsCells]
def edArr (x : Ed) : Array Value := #[.int .i64 x.e.lo, .int .i64 x.e.hi, .int .i64 x.n.lo, .int .i64 x.n.hi, .int .i64 x.b.lo, .int .i64 x.b.hi, .bool x.sure]
theorem edCells_one (x : Ed) : ∀ u ∈ edCells x, u.oneCell' = true := by
  intro u hu
  simp only [edCells, List.mem_cons, List.not_mem_nil, or_false] at hu
  rcases hu with rfl | rfl | rfl | rfl | rfl | rfl | rfl <;> rfl
theorem edArr_cell (w : World) (x : Ed) (j : Nat) (u : Value) (h : (edCells x)[j]? = some u) : (w.alloc (.cells (edArr x) 55)).cell? ⟨w.heap.size, j, none⟩ = some u := by
  refine cell_new _ _ _ j _ ?_
  rw [← h]
  unfold edArr edCells
  simp

/-- A star more in an owned row, stored through the block of the border at cell o. -/
theorem putEd {w : World} {base p2 : Nat} {v : Value} {l : List Ed} (x : Ed) (ho : w.ownsRow base 55 7 v l.length (edsCells l)) (hl : l.length ≤ 100) (hq : p2 < base) (hbase : base ≤ w.heap.size) :
    ∃ v' w', (Builtin.append_ #[24, 24] 24 #[v, .slice (some ⟨w.heap.size, 0, none⟩) 1 1]).run Try.prog (w.alloc (.cells (edArr x) 55)) = .ok v' w' ∧ w'.ownsRow base 55 7 v' (l ++ [x]).length (edsCells (l ++ [x])) ∧ w.grownBy w' v.ownBlock ∧ RowNext w v v' := by
  obtain ⟨i0, hi, hz0, hz1, hz2⟩ := info_parts infoEd
  obtain ⟨v', w', hrun, hown', hgrow, hnext⟩ := appendSome (w.alloc (.cells (edArr x) 55)) base 24 55 i0 _ 7 56 Try.underlying24 hi hz0 hz1 hz2 rfl (by decide) v l.length _ (ho.alloc _) (edCells x) rfl (edCells_one x) w.heap.size 1 (fun j u h => edArr_cell w x j u h) (by omega) (by unfold maxLen; omega) (by rw [World.size_alloc]; omega)
  refine ⟨v', w', hrun, by rw [edsCells_snoc, List.length_append]; exact hown', grown_trans (World.grownBy_alloc w _ _) hgrow (.inl rfl), ?_⟩
  rcases hnext with h | ⟨g, h1, h2⟩
  · exact .inl h
  · exact .inr ⟨g, h1, by rw [World.size_alloc] at h2; omega⟩
/-- A number more. -/
theorem putInt {w : World} {base : Nat} {v : Value} {l : List Int} (x : Int) (ho : w.ownsRow base 3 1 v l.length (l.map (Value.int .i64))) (hl : l.length ≤ 100) (hbase : base ≤ w.heap.size) :
    ∃ v' w', (Builtin.append_ #[40, 40] 40 #[v, .slice (some ⟨w.heap.size, 0, none⟩) 1 1]).run Try.prog (w.alloc (.cells #[.int .i64 x] 3)) = .ok v' w' ∧ w'.ownsRow base 3 1 v' (l ++ [x]).length ((l ++ [x]).map (Value.int .i64)) ∧ w.grownBy w' v.ownBlock ∧ RowNext w v v' := by
  obtain ⟨i0, hi, hz0, hz1, hz2⟩ := info_parts infoInt
  obtain ⟨v', w', hrun, hown', hgrow, hnext⟩ := appendSome (w.alloc (.cells #[.int .i64 x] 3)) base 40 3 i0 _ 1 8 Try.underlying40 hi hz0 hz1 hz2 rfl (by decide) v l.length _ (ho.alloc _) [.int .i64 x] rfl (by simp [Value.oneCell']) w.heap.size 1 (fun j u h => by
    match j with
    | 0 => cases h; exact cell_new _ _ _ 0 _ rfl
    | j + 1 => cases h) (by omega) (by unfold maxLen; omega) (by rw [World.size_alloc]; omega)
  refine ⟨v', w', hrun, by rw [List.map_append, List.length_append]; exact hown', grown_trans (World.grownBy_alloc w _ _) hgrow (.inl rfl), ?_⟩
  rcases hnext with h | ⟨g, h1, h2⟩
  · exact .inl h
  · exact .inr ⟨g, h1, by rw [World.size_alloc] at h2; omega⟩
end Go.Proofs.Ytjkegmjjhdmkiaa
namespace Go.Proofs.Ytjkegmjjhdmkiaa
open Go.RowKit Go.Shelf
set_option maxHeartbeats 12800000
set_option maxRecDepth 100000
set_option linter.unusedSimpArgs false
set_option linter.unusedVariables false

theorem made_reg2 (pc pb p1 : Nat) (a : Option Addr) (c : Nat) (xs : List Nat) (k : Nat) (hx : Hid (NumsOk xs)) (hk : k ≤ 900) (hp : pc < p1) (wA : World) (hd : DrawSt wA pc pb a c xs k) (h1 : wA.heap[p1]? = some (.cells #[drawV pc pb] 48))  {z0 z2 z3 z4 z5 z6 z7 z8 z9 z10 z11 z12 z13 z14 z15 z16 z17 z18 z19 z20 z21 z22 z23 z24 z25 z26 z27 z28 z29 z30 z31 z32 z33 z34 z35 z36 z37 z38 z39 z40 z41 z42 z43 z44 z45 z46 z47 z48 z49 z50 z51 z52 z53 z54 z55 z56 z57 z58 z59 z60 z61 z62 z63 z64 z65 z66 z67 z68 z69 z70 z71 z72 z73 z74 z75 z76 z77 z78 z79 z80 z81 z82 z83 z84 z85 z86 z87 z88 z89 z90 z91 z92 z93 z94 z95 z96 z97 z98 z99 z100 z101 z102 z103 z104 z105 z106 z107 z108 z109 z110 z111 z112 z113 z114 z115 z116 z117 z118 z119 z120 z121 z122 z123 z124 z125 z126 z127 z128 z129 z130 z131 z132 z133 z134 z135 z136 z137 z138 z139 z140 z141 z142 : Value}
    (K : Act → World → Prop) (Q : Exit → Act → World → Prop)
    (hfin : ∀ (s15 s16 s17 s18 s19 s20 : Value) (r1 r2 : Nat) (w3 : World), (r1 : Int) < 9 → (r2 : Int) < 9 → DrawSt w3 pc pb a c xs (k + 2) → wA.grownBy w3 (some pc) → K ⟨(z0 :: (.pointer (some ⟨p1, 0, none⟩)) :: z2 :: (.int .i64 ((r1 : Int) - 4)) :: (.int .i64 ((r2 : Int) - 4)) :: z5 :: z6 :: z7 :: z8 :: z9 :: z10 :: z11 :: z12 :: z13 :: z14 :: s15 :: s16 :: s17 :: s18 :: s19 :: s20 :: z21 :: z22 :: z23 :: z24 :: z25 :: z26 :: z27 :: z28 :: z29 :: z30 :: z31 :: z32 :: z33 :: z34 :: z35 :: z36 :: z37 :: z38 :: z39 :: z40 :: z41 :: z42 :: z43 :: z44 :: z45 :: z46 :: z47 :: z48 :: z49 :: z50 :: z51 :: z52 :: z53 :: z54 :: z55 :: z56 :: z57 :: z58 :: z59 :: z60 :: z61 :: z62 :: z63 :: z64 :: z65 :: z66 :: z67 :: z68 :: z69 :: z70 :: z71 :: z72 :: z73 :: z74 :: z75 :: z76 :: z77 :: z78 :: z79 :: z80 :: z81 :: z82 :: z83 :: z84 :: z85 :: z86 :: z87 :: z88 :: z89 :: z90 :: z91 :: z92 :: z93 :: z94 :: z95 :: z96 :: z97 :: z98 :: z99 :: z100 :: z101 :: z102 :: z103 :: z104 :: z105 :: z106 :: z107 :: z108 :: z109 :: z110 :: z111 :: z112 :: z113 :: z114 :: z115 :: z116 :: z117 :: z118 :: z119 :: z120 :: z121 :: z122 :: z123 :: z124 :: z125 :: z126 :: z127 :: z128 :: z129 :: z130 :: z131 :: z132 :: z133 :: z134 :: z135 :: z136 :: z137 :: z138 :: z139 :: z140 :: z141 :: z142 :: []).toArray, []⟩ w3) :
    Code.wp Try.prog (((Try.f28.body.bind (findReg 2)).getD .skip)) (Exit.then K Q) ⟨(z0 :: (.pointer (some ⟨p1, 0, none⟩)) :: z2 :: z3 :: z4 :: z5 :: z6 :: z7 :: z8 :: z9 :: z10 :: z11 :: z12 :: z13 :: z14 :: z15 :: z16 :: z17 :: z18 :: z19 :: z20 :: z21 :: z22 :: z23 :: z24 :: z25 :: z26 :: z27 :: z28 :: z29 :: z30 :: z31 :: z32 :: z33 :: z34 :: z35 :: z36 :: z37 :: z38 :: z39 :: z40 :: z41 :: z42 :: z43 :: z44 :: z45 :: z46 :: z47 :: z48 :: z49 :: z50 :: z51 :: z52 :: z53 :: z54 :: z55 :: z56 :: z57 :: z58 :: z59 :: z60 :: z61 :: z62 :: z63 :: z64 :: z65 :: z66 :: z67 :: z68 :: z69 :: z70 :: z71 :: z72 :: z73 :: z74 :: z75 :: z76 :: z77 :: z78 :: z79 :: z80 :: z81 :: z82 :: z83 :: z84 :: z85 :: z86 :: z87 :: z88 :: z89 :: z90 :: z91 :: z92 :: z93 :: z94 :: z95 :: z96 :: z97 :: z98 :: z99 :: z100 :: z101 :: z102 :: z103 :: z104 :: z105 :: z106 :: z107 :: z108 :: z109 :: z110 :: z111 :: z112 :: z113 :: z114 :: z115 :: z116 :: z117 :: z118 :: z119 :: z120 :: z121 :: z122 :: z123 :: z124 :: z125 :: z126 :: z127 :: z128 :: z129 :: z130 :: z131 :: z132 :: z133 :: z134 :: z135 :: z136 :: z137 :: z138 :: z139 :: z140 :: z141 :: z142 :: []).toArray, []⟩ wA := by
  have HFIN := Lib.hid hfin
  have S1 : ∀ W' : World, W'.heap[p1]? = some (.cells #[drawV pc pb] 48) → W'.cell? ⟨p1, 0, none⟩ = some (.func (.func 62) #[] #[.pointer (some ⟨pc, 0, none⟩), .pointer (some ⟨pb, 0, none⟩)]) := fun W' h => cell_block h 0
  have hd0 := hd.below (below_drew wA)
  have hg0 : wA.grownBy wA.drew (some pc) := Below.grownB (below_drew wA) _
  have h10 : wA.drew.heap[p1]? = some (.cells #[drawV pc pb] 48) := h1
  clear hfin hd h1
  conv => arg 2; whnf
  refine (wpIn_wide (n := 1)).1 ?_
  refine wpIn_region_Wn (S := fun W' => W'.heap[p1]? = some (.cells #[drawV pc pb] 48)) 8 (by kernel_rfl) (by kernel_rfl) (by exact h10) (fun hHeld => ?_)
  clear h10
  refine wpAnyW_takeD 0 15 (v := ?_) (by kernel_rfl) (by kernel_rfl) (by kernel_rfl) (by kernel_rfl) (fun _ _ _ h => h) ?_ (by assumption) ?_
  rotate_left
  · intro oi hoi w hSw; (try dsimp only at hSw); simp only [List.getElem?_toArray, List.getElem?_cons_zero, List.getElem?_cons_succ, Option.some.injEq] at hoi; subst hoi; go_simp; try with_reducible rfl
  simp only [Act.put, List.setIfInBounds_toArray, List.set_cons_zero, List.set_cons_succ]
  refine wpAnyW_takeD 3 18 (v := ?_) (by kernel_rfl) (by kernel_rfl) (by kernel_rfl) (by kernel_rfl) (fun _ _ _ h => h) ?_ (by assumption) ?_
  rotate_left
  · intro oi hoi w hSw; (try dsimp only at hSw); simp only [List.getElem?_toArray, List.getElem?_cons_zero, List.getElem?_cons_succ, Option.some.injEq] at hoi; subst hoi; go_simp; try with_reducible rfl
  simp only [Act.put, List.setIfInBounds_toArray, List.set_cons_zero, List.set_cons_succ]
  refine wpAnyW_one 1 (by kernel_rfl) (by kernel_rfl) ?_
  intro o ho K hK
  simp only [List.getElem?_toArray, List.getElem?_cons_zero, List.getElem?_cons_succ, Option.some.injEq] at ho
  subst ho
  go_simp
  refine ⟨trivial, CallsIn.mono (callsIn_wide.2 (draw_any 9 pc pb a c xs (k + 0) hx.out (by omega) (by omega) _ hd0)) ?_⟩
  rintro e W1 ⟨r1, hr1, rfl, hd1, hgg1⟩
  have hg1 := grown_trans hg0 hgg1 (.inl rfl)
  have hH1 : W1.heap[p1]? = some (.cells #[drawV pc pb] 48) := (hgg1.block p1 (Array.getElem?_eq_some_iff.1 hHeld).1 (fun e => by have := Option.some.inj e; omega)).trans hHeld
  refine hK _ _ hH1 (fun _ => ?_)
  clear hK K hgg1 hd0 hg0 hHeld
  try simp only [Act.put, List.setIfInBounds_toArray, List.set_cons_zero, List.set_cons_succ]
  have e1 : IntKind.i64.wrap ((r1 : Int) - 4) = (r1 : Int) - 4 := by rw [IntKind.wrap_i64]; omega
  refine wpAnyW_takeD 2 17 (v := ?_) (by kernel_rfl) (by kernel_rfl) (by kernel_rfl) (by kernel_rfl) (fun _ _ _ h => h) ?_ (by assumption) ?_
  rotate_left
  · intro oi hoi w hSw; (try dsimp only at hSw); simp only [List.getElem?_toArray, List.getElem?_cons_zero, List.getElem?_cons_succ, Option.some.injEq] at hoi; subst hoi; go_simp; try with_reducible rfl
  simp only [Act.put, List.setIfInBounds_toArray, List.set_cons_zero, List.set_cons_succ]
  refine wpAnyW_one 4 (by kernel_rfl) (by kernel_rfl) ?_
  intro o ho K hK
  simp only [List.getElem?_toArray, List.getElem?_cons_zero, List.getElem?_cons_succ, Option.some.injEq] at ho
  subst ho
  go_simp
  refine ⟨trivial, CallsIn.mono (callsIn_wide.2 (draw_any 9 pc pb a c xs (k + 1) hx.out (by omega) (by omega) _ hd1)) ?_⟩
  rintro e W2 ⟨r2, hr2, rfl, hd2, hgg2⟩
  have hg2 := grown_trans hg1 hgg2 (.inl rfl)
  have hH2 : W2.heap[p1]? = some (.cells #[drawV pc pb] 48) := (hgg2.block p1 (Array.getElem?_eq_some_iff.1 hH1).1 (fun e => by have := Option.some.inj e; omega)).trans hH1
  refine hK _ _ hH2 (fun _ => ?_)
  clear hK K hgg2 hd1 hg1 hH1
  try simp only [Act.put, List.setIfInBounds_toArray, List.set_cons_zero, List.set_cons_succ]
  have e2 : IntKind.i64.wrap ((r2 : Int) - 4) = (r2 : Int) - 4 := by rw [IntKind.wrap_i64]; omega
  refine wpAnyW_takeD 5 20 (v := ?_) (by kernel_rfl) (by kernel_rfl) (by kernel_rfl) (by kernel_rfl) (fun _ _ _ h => h) ?_ (by assumption) ?_
  rotate_left
  · intro oi hoi w hSw; (try dsimp only at hSw); simp only [List.getElem?_toArray, List.getElem?_cons_zero, List.getElem?_cons_succ, Option.some.injEq] at hoi; subst hoi; go_simp; try with_reducible rfl
  simp only [Act.put, List.setIfInBounds_toArray, List.set_cons_zero, List.set_cons_succ]
  refine wpAnyW_takeD 6 3 (v := ?_) (by kernel_rfl) (by kernel_rfl) (by kernel_rfl) (by kernel_rfl) (fun _ _ _ h => h) ?_ (by assumption) ?_
  rotate_left
  · intro oi hoi w hSw; (try dsimp only at hSw); simp only [List.getElem?_toArray, List.getElem?_cons_zero, List.getElem?_cons_succ, Option.some.injEq] at hoi; subst hoi; go_simp; try with_reducible rfl
  simp only [Act.put, List.setIfInBounds_toArray, List.set_cons_zero, List.set_cons_succ]
  refine wpAnyW_takeD 7 4 (v := ?_) (by kernel_rfl) (by kernel_rfl) (by kernel_rfl) (by kernel_rfl) (fun _ _ _ h => h) ?_ (by assumption) ?_
  rotate_left
  · intro oi hoi w hSw; (try dsimp only at hSw); simp only [List.getElem?_toArray, List.getElem?_cons_zero, List.getElem?_cons_succ, Option.some.injEq] at hoi; subst hoi; go_simp; try with_reducible rfl
  simp only [Act.put, List.setIfInBounds_toArray, List.set_cons_zero, List.set_cons_succ]
  refine wpAnyW_done (by kernel_rfl) ?_ _
  dsimp only [onNormal]
  exact HFIN.out _ _ _ _ _ _ r1 r2 W2 hr1 hr2 hd2 hg2

theorem made_reg6 (pc pb p1 : Nat) (a : Option Addr) (c : Nat) (xs : List Nat) (k : Nat) (hx : Hid (NumsOk xs)) (hk : k ≤ 900) (hp : pc < p1) (wA : World) (hd : DrawSt wA pc pb a c xs k) (h1 : wA.heap[p1]? = some (.cells #[drawV pc pb] 48))  {z0 z2 z3 z4 z5 z6 z7 z8 z9 z10 z11 z12 z13 z14 z15 z16 z17 z18 z19 z20 z21 z22 z23 z24 z25 z26 z27 z28 z29 z30 z31 z32 z33 z34 z35 z36 z37 z38 z39 z40 z41 z42 z43 z44 z45 z46 z47 z48 z49 z50 z51 z52 z53 z54 z55 z56 z57 z58 z59 z60 z61 z62 z63 z64 z65 z66 z67 z68 z69 z70 z71 z72 z73 z74 z75 z76 z77 z78 z79 z80 z81 z82 z83 z84 z85 z86 z87 z88 z89 z90 z91 z92 z93 z94 z95 z96 z97 z98 z99 z100 z101 z102 z103 z104 z105 z106 z107 z108 z109 z110 z111 z112 z113 z114 z115 z116 z117 z118 z119 z120 z121 z122 z123 z124 z125 z126 z127 z128 z129 z130 z131 z132 z133 z134 z135 z136 z137 z138 z139 z140 z141 z142 : Value}
    (K : Act → World → Prop) (Q : Exit → Act → World → Prop)
    (hfin : ∀ (s46 s47 s48 s49 s50 s51 s52 s53 s54 : Value) (r1 r2 r3 : Nat) (w3 : World), (r1 : Int) < 60 → (r2 : Int) < 60 → (r3 : Int) < 60 → DrawSt w3 pc pb a c xs (k + 3) → wA.grownBy w3 (some pc) → K ⟨(z0 :: (.pointer (some ⟨p1, 0, none⟩)) :: z2 :: z3 :: z4 :: z5 :: z6 :: (.int .i64 (100 + (r1 : Int))) :: (.int .i64 (100 + (r2 : Int))) :: (.int .i64 (500 + (r3 : Int))) :: z10 :: z11 :: z12 :: z13 :: z14 :: z15 :: z16 :: z17 :: z18 :: z19 :: z20 :: z21 :: z22 :: z23 :: z24 :: z25 :: z26 :: z27 :: z28 :: z29 :: z30 :: z31 :: z32 :: z33 :: z34 :: z35 :: z36 :: z37 :: z38 :: z39 :: z40 :: z41 :: z42 :: z43 :: z44 :: z45 :: s46 :: s47 :: s48 :: s49 :: s50 :: s51 :: s52 :: s53 :: s54 :: z55 :: z56 :: z57 :: z58 :: z59 :: z60 :: z61 :: z62 :: z63 :: z64 :: z65 :: z66 :: z67 :: z68 :: z69 :: z70 :: z71 :: z72 :: z73 :: z74 :: z75 :: z76 :: z77 :: z78 :: z79 :: z80 :: z81 :: z82 :: z83 :: z84 :: z85 :: z86 :: z87 :: z88 :: z89 :: z90 :: z91 :: z92 :: z93 :: z94 :: z95 :: z96 :: z97 :: z98 :: z99 :: z100 :: z101 :: z102 :: z103 :: z104 :: z105 :: z106 :: z107 :: z108 :: z109 :: z110 :: z111 :: z112 :: z113 :: z114 :: z115 :: z116 :: z117 :: z118 :: z119 :: z120 :: z121 :: z122 :: z123 :: z124 :: z125 :: z126 :: z127 :: z128 :: z129 :: z130 :: z131 :: z132 :: z133 :: z134 :: z135 :: z136 :: z137 :: z138 :: z139 :: z140 :: z141 :: z142 :: []).toArray, []⟩ w3) :
    Code.wp Try.prog (((Try.f28.body.bind (findReg 6)).getD .skip)) (Exit.then K Q) ⟨(z0 :: (.pointer (some ⟨p1, 0, none⟩)) :: z2 :: z3 :: z4 :: z5 :: z6 :: z7 :: z8 :: z9 :: z10 :: z11 :: z12 :: z13 :: z14 :: z15 :: z16 :: z17 :: z18 :: z19 :: z20 :: z21 :: z22 :: z23 :: z24 :: z25 :: z26 :: z27 :: z28 :: z29 :: z30 :: z31 :: z32 :: z33 :: z34 :: z35 :: z36 :: z37 :: z38 :: z39 :: z40 :: z41 :: z42 :: z43 :: z44 :: z45 :: z46 :: z47 :: z48 :: z49 :: z50 :: z51 :: z52 :: z53 :: z54 :: z55 :: z56 :: z57 :: z58 :: z59 :: z60 :: z61 :: z62 :: z63 :: z64 :: z65 :: z66 :: z67 :: z68 :: z69 :: z70 :: z71 :: z72 :: z73 :: z74 :: z75 :: z76 :: z77 :: z78 :: z79 :: z80 :: z81 :: z82 :: z83 :: z84 :: z85 :: z86 :: z87 :: z88 :: z89 :: z90 :: z91 :: z92 :: z93 :: z94 :: z95 :: z96 :: z97 :: z98 :: z99 :: z100 :: z101 :: z102 :: z103 :: z104 :: z105 :: z106 :: z107 :: z108 :: z109 :: z110 :: z111 :: z112 :: z113 :: z114 :: z115 :: z116 :: z117 :: z118 :: z119 :: z120 :: z121 :: z122 :: z123 :: z124 :: z125 :: z126 :: z127 :: z128 :: z129 :: z130 :: z131 :: z132 :: z133 :: z134 :: z135 :: z136 :: z137 :: z138 :: z139 :: z140 :: z141 :: z142 :: []).toArray, []⟩ wA := by
  have HFIN := Lib.hid hfin
  have S1 : ∀ W' : World, W'.heap[p1]? = some (.cells #[drawV pc pb] 48) → W'.cell? ⟨p1, 0, none⟩ = some (.func (.func 62) #[] #[.pointer (some ⟨pc, 0, none⟩), .pointer (some ⟨pb, 0, none⟩)]) := fun W' h => cell_block h 0
  have hd0 := hd.below (below_drew wA)
  have hg0 : wA.grownBy wA.drew (some pc) := Below.grownB (below_drew wA) _
  have h10 : wA.drew.heap[p1]? = some (.cells #[drawV pc pb] 48) := h1
  clear hfin hd h1
  conv => arg 2; whnf
  refine (wpIn_wide (n := 1)).1 ?_
  refine wpIn_region_Wn (S := fun W' => W'.heap[p1]? = some (.cells #[drawV pc pb] 48)) 12 (by kernel_rfl) (by kernel_rfl) (by exact h10) (fun hHeld => ?_)
  clear h10
  refine wpAnyW_takeD 0 46 (v := ?_) (by kernel_rfl) (by kernel_rfl) (by kernel_rfl) (by kernel_rfl) (fun _ _ _ h => h) ?_ (by assumption) ?_
  rotate_left
  · intro oi hoi w hSw; (try dsimp only at hSw); simp only [List.getElem?_toArray, List.getElem?_cons_zero, List.getElem?_cons_succ, Option.some.injEq] at hoi; subst hoi; go_simp; try with_reducible rfl
  simp only [Act.put, List.setIfInBounds_toArray, List.set_cons_zero, List.set_cons_succ]
  refine wpAnyW_takeD 3 49 (v := ?_) (by kernel_rfl) (by kernel_rfl) (by kernel_rfl) (by kernel_rfl) (fun _ _ _ h => h) ?_ (by assumption) ?_
  rotate_left
  · intro oi hoi w hSw; (try dsimp only at hSw); simp only [List.getElem?_toArray, List.getElem?_cons_zero, List.getElem?_cons_succ, Option.some.injEq] at hoi; subst hoi; go_simp; try with_reducible rfl
  simp only [Act.put, List.setIfInBounds_toArray, List.set_cons_zero, List.set_cons_succ]
  refine wpAnyW_takeD 6 52 (v := ?_) (by kernel_rfl) (by kernel_rfl) (by kernel_rfl) (by kernel_rfl) (fun _ _ _ h => h) ?_ (by assumption) ?_
  rotate_left
  · intro oi hoi w hSw; (try dsimp only at hSw); simp only [List.getElem?_toArray, List.getElem?_cons_zero, List.getElem?_cons_succ, Option.some.injEq] at hoi; subst hoi; go_simp; try with_reducible rfl
  simp only [Act.put, List.setIfInBounds_toArray, List.set_cons_zero, List.set_cons_succ]
  refine wpAnyW_one 1 (by kernel_rfl) (by kernel_rfl) ?_
  intro o ho K hK
  simp only [List.getElem?_toArray, List.getElem?_cons_zero, List.getElem?_cons_succ, Option.some.injEq] at ho
  subst ho
  go_simp
  refine ⟨trivial, CallsIn.mono (callsIn_wide.2 (draw_any 60 pc pb a c xs (k + 0) hx.out (by omega) (by omega) _ hd0)) ?_⟩
  rintro e W1 ⟨r1, hr1, rfl, hd1, hgg1⟩
  have hg1 := grown_trans hg0 hgg1 (.inl rfl)
  have hH1 : W1.heap[p1]? = some (.cells #[drawV pc pb] 48) := (hgg1.block p1 (Array.getElem?_eq_some_iff.1 hHeld).1 (fun e => by have := Option.some.inj e; omega)).trans hHeld
  refine hK _ _ hH1 (fun _ => ?_)
  clear hK K hgg1 hd0 hg0 hHeld
  try simp only [Act.put, List.setIfInBounds_toArray, List.set_cons_zero, List.set_cons_succ]
  have e1 : IntKind.i64.wrap (100 + (r1 : Int)) = 100 + (r1 : Int) := by rw [IntKind.wrap_i64]; omega
  refine wpAnyW_takeD 2 48 (v := ?_) (by kernel_rfl) (by kernel_rfl) (by kernel_rfl) (by kernel_rfl) (fun _ _ _ h => h) ?_ (by assumption) ?_
  rotate_left
  · intro oi hoi w hSw; (try dsimp only at hSw); simp only [List.getElem?_toArray, List.getElem?_cons_zero, List.getElem?_cons_succ, Option.some.injEq] at hoi; subst hoi; go_simp; try with_reducible rfl
  simp only [Act.put, List.setIfInBounds_toArray, List.set_cons_zero, List.set_cons_succ]
  refine wpAnyW_one 4 (by kernel_rfl) (by kernel_rfl) ?_
  intro o ho K hK
  simp only [List.getElem?_toArray, List.getElem?_cons_zero, List.getElem?_cons_succ, Option.some.injEq] at ho
  subst ho
  go_simp
  refine ⟨trivial, CallsIn.mono (callsIn_wide.2 (draw_any 60 pc pb a c xs (k + 1) hx.out (by omega) (by omega) _ hd1)) ?_⟩
  rintro e W2 ⟨r2, hr2, rfl, hd2, hgg2⟩
  have hg2 := grown_trans hg1 hgg2 (.inl rfl)
  have hH2 : W2.heap[p1]? = some (.cells #[drawV pc pb] 48) := (hgg2.block p1 (Array.getElem?_eq_some_iff.1 hH1).1 (fun e => by have := Option.some.inj e; omega)).trans hH1
  refine hK _ _ hH2 (fun _ => ?_)
  clear hK K hgg2 hd1 hg1 hH1
  try simp only [Act.put, List.setIfInBounds_toArray, List.set_cons_zero, List.set_cons_succ]
  have e2 : IntKind.i64.wrap (100 + (r2 : Int)) = 100 + (r2 : Int) := by rw [IntKind.wrap_i64]; omega
  refine wpAnyW_takeD 5 51 (v := ?_) (by kernel_rfl) (by kernel_rfl) (by kernel_rfl) (by kernel_rfl) (fun _ _ _ h => h) ?_ (by assumption) ?_
  rotate_left
  · intro oi hoi w hSw; (try dsimp only at hSw); simp only [List.getElem?_toArray, List.getElem?_cons_zero, List.getElem?_cons_succ, Option.some.injEq] at hoi; subst hoi; go_simp; try with_reducible rfl
  simp only [Act.put, List.setIfInBounds_toArray, List.set_cons_zero, List.set_cons_succ]
  refine wpAnyW_one 7 (by kernel_rfl) (by kernel_rfl) ?_
  intro o ho K hK
  simp only [List.getElem?_toArray, List.getElem?_cons_zero, List.getElem?_cons_succ, Option.some.injEq] at ho
  subst ho
  go_simp
  refine ⟨trivial, CallsIn.mono (callsIn_wide.2 (draw_any 60 pc pb a c xs (k + 2) hx.out (by omega) (by omega) _ hd2)) ?_⟩
  rintro e W3 ⟨r3, hr3, rfl, hd3, hgg3⟩
  have hg3 := grown_trans hg2 hgg3 (.inl rfl)
  have hH3 : W3.heap[p1]? = some (.cells #[drawV pc pb] 48) := (hgg3.block p1 (Array.getElem?_eq_some_iff.1 hH2).1 (fun e => by have := Option.some.inj e; omega)).trans hH2
  refine hK _ _ hH3 (fun _ => ?_)
  clear hK K hgg3 hd2 hg2 hH2
  try simp only [Act.put, List.setIfInBounds_toArray, List.set_cons_zero, List.set_cons_succ]
  have e3 : IntKind.i64.wrap (500 + (r3 : Int)) = 500 + (r3 : Int) := by rw [IntKind.wrap_i64]; omega
  refine wpAnyW_takeD 8 54 (v := ?_) (by kernel_rfl) (by kernel_rfl) (by kernel_rfl) (by kernel_rfl) (fun _ _ _ h => h) ?_ (by assumption) ?_
  rotate_left
  · intro oi hoi w hSw; (try dsimp only at hSw); simp only [List.getElem?_toArray, List.getElem?_cons_zero, List.getElem?_cons_succ, Option.some.injEq] at hoi; subst hoi; go_simp; try with_reducible rfl
  simp only [Act.put, List.setIfInBounds_toArray, List.set_cons_zero, List.set_cons_succ]
  refine wpAnyW_takeD 9 7 (v := ?_) (by kernel_rfl) (by kernel_rfl) (by kernel_rfl) (by kernel_rfl) (fun _ _ _ h => h) ?_ (by assumption) ?_
  rotate_left
  · intro oi hoi w hSw; (try dsimp only at hSw); simp only [List.getElem?_toArray, List.getElem?_cons_zero, List.getElem?_cons_succ, Option.some.injEq] at hoi; subst hoi; go_simp; try with_reducible rfl
  simp only [Act.put, List.setIfInBounds_toArray, List.set_cons_zero, List.set_cons_succ]
  refine wpAnyW_takeD 10 8 (v := ?_) (by kernel_rfl) (by kernel_rfl) (by kernel_rfl) (by kernel_rfl) (fun _ _ _ h => h) ?_ (by assumption) ?_
  rotate_left
  · intro oi hoi w hSw; (try dsimp only at hSw); simp only [List.getElem?_toArray, List.getElem?_cons_zero, List.getElem?_cons_succ, Option.some.injEq] at hoi; subst hoi; go_simp; try with_reducible rfl
  simp only [Act.put, List.setIfInBounds_toArray, List.set_cons_zero, List.set_cons_succ]
  refine wpAnyW_takeD 11 9 (v := ?_) (by kernel_rfl) (by kernel_rfl) (by kernel_rfl) (by kernel_rfl) (fun _ _ _ h => h) ?_ (by assumption) ?_
  rotate_left
  · intro oi hoi w hSw; (try dsimp only at hSw); simp only [List.getElem?_toArray, List.getElem?_cons_zero, List.getElem?_cons_succ, Option.some.injEq] at hoi; subst hoi; go_simp; try with_reducible rfl
  simp only [Act.put, List.setIfInBounds_toArray, List.set_cons_zero, List.set_cons_succ]
  refine wpAnyW_done (by kernel_rfl) ?_ _
  dsimp only [onNormal]
  exact HFIN.out _ _ _ _ _ _ _ _ _ r1 r2 r3 W3 hr1 hr2 hr3 hd3 hg3

theorem made_reg14 (pc pb p1 : Nat) (a : Option Addr) (c : Nat) (xs : List Nat) (k : Nat) (hx : Hid (NumsOk xs)) (hk : k ≤ 900) (hp : pc < p1) (wA : World) (hd : DrawSt wA pc pb a c xs k) (h1 : wA.heap[p1]? = some (.cells #[drawV pc pb] 48)) (pA pC : Nat) (x y : Ed) {z0 z2 z3 z4 z5 z6 z7 z8 z9 z12 z13 z14 z15 z16 z17 z18 z19 z20 z21 z22 z23 z24 z25 z26 z27 z28 z29 z30 z31 z32 z33 z34 z35 z36 z37 z38 z39 z40 z41 z42 z43 z44 z45 z46 z47 z48 z49 z50 z51 z52 z53 z54 z55 z56 z57 z58 z59 z60 z61 z62 z63 z64 z65 z66 z67 z68 z69 z70 z71 z72 z73 z74 z75 z76 z77 z78 z79 z80 z81 z82 z83 z84 z85 z86 z87 z88 z89 z90 z91 z92 z93 z94 z95 z96 z97 z98 z99 z100 z101 z102 z103 z104 z105 z106 z107 z108 z109 z110 z111 z112 z113 z114 z115 z116 z117 z118 z119 z120 z121 z122 z123 z124 z125 z126 z127 z128 z129 z130 z131 z132 z133 z134 z135 z136 z137 z138 z139 z140 z141 z142 : Value}
    (hA : wA.heap[pA]? = some (.cells (edArr x) 55)) (hC : wA.heap[pC]? = some (.cells (edArr y) 55)) (nA : p1 < pA) (nC : p1 < pC) (nAC : pA ≠ pC) (K : Act → World → Prop) (Q : Exit → Act → World → Prop)
    (hfin : ∀ (s100 s101 s102 s103 s104 s105 s106 s107 : Value) (q1 q2 : Bool) (w3 : World), DrawSt w3 pc pb a c xs (k + 2) → w3.heap[pA]? = some (.cells (edArr { x with sure := q1 }) 55) → w3.heap[pC]? = some (.cells (edArr { y with sure := q2 }) 55) → (∀ i, i ≠ pA → i ≠ pC → i ≠ pc → i < wA.heap.size → w3.heap[i]? = wA.heap[i]?) → (w3.os = wA.os ∧ w3.tape = wA.tape ∧ w3.output = wA.output ∧ wA.heap.size ≤ w3.heap.size) → K ⟨(z0 :: (.pointer (some ⟨p1, 0, none⟩)) :: z2 :: z3 :: z4 :: z5 :: z6 :: z7 :: z8 :: z9 :: (.pointer (some ⟨pA, 0, none⟩)) :: (.pointer (some ⟨pC, 0, none⟩)) :: z12 :: z13 :: z14 :: z15 :: z16 :: z17 :: z18 :: z19 :: z20 :: z21 :: z22 :: z23 :: z24 :: z25 :: z26 :: z27 :: z28 :: z29 :: z30 :: z31 :: z32 :: z33 :: z34 :: z35 :: z36 :: z37 :: z38 :: z39 :: z40 :: z41 :: z42 :: z43 :: z44 :: z45 :: z46 :: z47 :: z48 :: z49 :: z50 :: z51 :: z52 :: z53 :: z54 :: z55 :: z56 :: z57 :: z58 :: z59 :: z60 :: z61 :: z62 :: z63 :: z64 :: z65 :: z66 :: z67 :: z68 :: z69 :: z70 :: z71 :: z72 :: z73 :: z74 :: z75 :: z76 :: z77 :: z78 :: z79 :: z80 :: z81 :: z82 :: z83 :: z84 :: z85 :: z86 :: z87 :: z88 :: z89 :: z90 :: z91 :: z92 :: z93 :: z94 :: z95 :: z96 :: z97 :: z98 :: z99 :: s100 :: s101 :: s102 :: s103 :: s104 :: s105 :: s106 :: s107 :: z108 :: z109 :: z110 :: z111 :: z112 :: z113 :: z114 :: z115 :: z116 :: z117 :: z118 :: z119 :: z120 :: z121 :: z122 :: z123 :: z124 :: z125 :: z126 :: z127 :: z128 :: z129 :: z130 :: z131 :: z132 :: z133 :: z134 :: z135 :: z136 :: z137 :: z138 :: z139 :: z140 :: z141 :: z142 :: []).toArray, []⟩ w3) :
    Code.wp Try.prog (((Try.f28.body.bind (findReg 14)).getD .skip)) (Exit.then K Q) ⟨(z0 :: (.pointer (some ⟨p1, 0, none⟩)) :: z2 :: z3 :: z4 :: z5 :: z6 :: z7 :: z8 :: z9 :: (.pointer (some ⟨pA, 0, none⟩)) :: (.pointer (some ⟨pC, 0, none⟩)) :: z12 :: z13 :: z14 :: z15 :: z16 :: z17 :: z18 :: z19 :: z20 :: z21 :: z22 :: z23 :: z24 :: z25 :: z26 :: z27 :: z28 :: z29 :: z30 :: z31 :: z32 :: z33 :: z34 :: z35 :: z36 :: z37 :: z38 :: z39 :: z40 :: z41 :: z42 :: z43 :: z44 :: z45 :: z46 :: z47 :: z48 :: z49 :: z50 :: z51 :: z52 :: z53 :: z54 :: z55 :: z56 :: z57 :: z58 :: z59 :: z60 :: z61 :: z62 :: z63 :: z64 :: z65 :: z66 :: z67 :: z68 :: z69 :: z70 :: z71 :: z72 :: z73 :: z74 :: z75 :: z76 :: z77 :: z78 :: z79 :: z80 :: z81 :: z82 :: z83 :: z84 :: z85 :: z86 :: z87 :: z88 :: z89 :: z90 :: z91 :: z92 :: z93 :: z94 :: z95 :: z96 :: z97 :: z98 :: z99 :: z100 :: z101 :: z102 :: z103 :: z104 :: z105 :: z106 :: z107 :: z108 :: z109 :: z110 :: z111 :: z112 :: z113 :: z114 :: z115 :: z116 :: z117 :: z118 :: z119 :: z120 :: z121 :: z122 :: z123 :: z124 :: z125 :: z126 :: z127 :: z128 :: z129 :: z130 :: z131 :: z132 :: z133 :: z134 :: z135 :: z136 :: z137 :: z138 :: z139 :: z140 :: z141 :: z142 :: []).toArray, []⟩ wA := by
  have HFIN := Lib.hid hfin
  have S1 : ∀ W' : World, W'.heap[p1]? = some (.cells #[drawV pc pb] 48) → W'.cell? ⟨p1, 0, none⟩ = some (.func (.func 62) #[] #[.pointer (some ⟨pc, 0, none⟩), .pointer (some ⟨pb, 0, none⟩)]) := fun W' h => cell_block h 0
  have hd0 := hd.below (below_drew wA)
  have hg0 : wA.grownBy wA.drew (some pc) := Below.grownB (below_drew wA) _
  have h10 : wA.drew.heap[p1]? = some (.cells #[drawV pc pb] 48) := h1
  have hA0 : wA.drew.heap[pA]? = some (.cells (edArr x) 55) := hA
  have hC0 : wA.drew.heap[pC]? = some (.cells (edArr y) 55) := hC
  clear hfin hd h1 hA hC
  conv => arg 2; whnf
  refine (wpIn_wide (n := 1)).1 ?_
  refine wpIn_region_Wn (S := fun W' => W'.heap[p1]? = some (.cells #[drawV pc pb] 48)) 10 (by kernel_rfl) (by kernel_rfl) (by exact h10) (fun hHeld => ?_)
  clear h10
  refine wpAnyW_takeD 0 100 (v := ?_) (by kernel_rfl) (by kernel_rfl) (by kernel_rfl) (by kernel_rfl) (fun _ _ _ h => h) ?_ (by assumption) ?_
  rotate_left
  · intro oi hoi w hSw; (try dsimp only at hSw); simp only [List.getElem?_toArray, List.getElem?_cons_zero, List.getElem?_cons_succ, Option.some.injEq] at hoi; subst hoi; go_simp; try with_reducible rfl
  simp only [Act.put, List.setIfInBounds_toArray, List.set_cons_zero, List.set_cons_succ]
  refine wpAnyW_takeD 3 103 (v := ?_) (by kernel_rfl) (by kernel_rfl) (by kernel_rfl) (by kernel_rfl) (fun _ _ _ h => h) ?_ (by assumption) ?_
  rotate_left
  · intro oi hoi w hSw; (try dsimp only at hSw); simp only [List.getElem?_toArray, List.getElem?_cons_zero, List.getElem?_cons_succ, Option.some.injEq] at hoi; subst hoi; go_simp; try with_reducible rfl
  simp only [Act.put, List.setIfInBounds_toArray, List.set_cons_zero, List.set_cons_succ]
  refine wpAnyW_one 1 (by kernel_rfl) (by kernel_rfl) ?_
  intro o ho K hK
  simp only [List.getElem?_toArray, List.getElem?_cons_zero, List.getElem?_cons_succ, Option.some.injEq] at ho
  subst ho
  go_simp
  refine ⟨trivial, CallsIn.mono (callsIn_wide.2 (draw_any 2 pc pb a c xs (k + 0) hx.out (by omega) (by omega) _ hd0)) ?_⟩
  rintro e W1 ⟨r1, hr1, rfl, hd1, hgg1⟩
  have hg1 := grown_trans hg0 hgg1 (.inl rfl)
  have hH1 : W1.heap[p1]? = some (.cells #[drawV pc pb] 48) := (hgg1.block p1 (Array.getElem?_eq_some_iff.1 hHeld).1 (fun e => by have := Option.some.inj e; omega)).trans hHeld
  have hA1 := (hgg1.block pA (Array.getElem?_eq_some_iff.1 hA0).1 (fun e => by have := Option.some.inj e; omega)).trans hA0
  have hC1 := (hgg1.block pC (Array.getElem?_eq_some_iff.1 hC0).1 (fun e => by have := Option.some.inj e; omega)).trans hC0
  refine hK _ _ hH1 (fun _ => ?_)
  clear hK K hgg1 hd0 hg0 hHeld hA0 hC0
  try simp only [Act.put, List.setIfInBounds_toArray, List.set_cons_zero, List.set_cons_succ]
  refine wpAnyW_takeD 2 102 (v := ?_) (by kernel_rfl) (by kernel_rfl) (by kernel_rfl) (by kernel_rfl) (fun _ _ _ h => h) ?_ (by assumption) ?_
  rotate_left
  · intro oi hoi w hSw; (try dsimp only at hSw); simp only [List.getElem?_toArray, List.getElem?_cons_zero, List.getElem?_cons_succ, Option.some.injEq] at hoi; subst hoi; go_simp; try with_reducible rfl
  simp only [Act.put, List.setIfInBounds_toArray, List.set_cons_zero, List.set_cons_succ]
  refine wpAnyW_takeD 6 106 (v := ?_) (by kernel_rfl) (by kernel_rfl) (by kernel_rfl) (by kernel_rfl) (fun _ _ _ h => h) ?_ (by assumption) ?_
  rotate_left
  · intro oi hoi w hSw; (try dsimp only at hSw); simp only [List.getElem?_toArray, List.getElem?_cons_zero, List.getElem?_cons_succ, Option.some.injEq] at hoi; subst hoi; go_simp; try with_reducible rfl
  simp only [Act.put, List.setIfInBounds_toArray, List.set_cons_zero, List.set_cons_succ]
  refine wpAnyW_one 4 (by kernel_rfl) (by kernel_rfl) ?_
  intro o ho K hK
  simp only [List.getElem?_toArray, List.getElem?_cons_zero, List.getElem?_cons_succ, Option.some.injEq] at ho
  subst ho
  go_simp
  refine ⟨trivial, CallsIn.mono (callsIn_wide.2 (draw_any 2 pc pb a c xs (k + 1) hx.out (by omega) (by omega) _ hd1)) ?_⟩
  rintro e W2 ⟨r2, hr2, rfl, hd2, hgg2⟩
  have hg2 := grown_trans hg1 hgg2 (.inl rfl)
  have hH2 : W2.heap[p1]? = some (.cells #[drawV pc pb] 48) := (hgg2.block p1 (Array.getElem?_eq_some_iff.1 hH1).1 (fun e => by have := Option.some.inj e; omega)).trans hH1
  have hA2 := (hgg2.block pA (Array.getElem?_eq_some_iff.1 hA1).1 (fun e => by have := Option.some.inj e; omega)).trans hA1
  have hC2 := (hgg2.block pC (Array.getElem?_eq_some_iff.1 hC1).1 (fun e => by have := Option.some.inj e; omega)).trans hC1
  refine hK _ _ hH2 (fun _ => ?_)
  clear hK K hgg2 hd1 hg1 hH1 hA1 hC1
  try simp only [Act.put, List.setIfInBounds_toArray, List.set_cons_zero, List.set_cons_succ]
  refine wpAnyW_takeD 5 105 (v := ?_) (by kernel_rfl) (by kernel_rfl) (by kernel_rfl) (by kernel_rfl) (fun _ _ _ h => h) ?_ (by assumption) ?_
  rotate_left
  · intro oi hoi w hSw; (try dsimp only at hSw); simp only [List.getElem?_toArray, List.getElem?_cons_zero, List.getElem?_cons_succ, Option.some.injEq] at hoi; subst hoi; go_simp; try with_reducible rfl
  simp only [Act.put, List.setIfInBounds_toArray, List.set_cons_zero, List.set_cons_succ]
  have cA := cell_block hA2 6
  have cC := cell_block hC2 6
  have fA := frozen_block hA2 6
  have fC := frozen_block hC2 6
  simp only [edArr, List.getElem?_toArray, List.getElem?_cons_zero, List.getElem?_cons_succ] at cA cC
  have n1 : ¬ pC = pA := fun e => nAC e.symm
  refine wpAnyW_one 7 (by kernel_rfl) (by kernel_rfl) ?_
  intro o ho K hK
  simp only [List.getElem?_toArray, List.getElem?_cons_zero, List.getElem?_cons_succ, Option.some.injEq] at ho
  subst ho
  go_simp
  have mA := heap_setCell_same W2 pA 6 _ _ (.bool ((r1 : Int) == 0)) hA2
  have mC := (Below.heap_setCell W2 ⟨pA, 6, none⟩ (.bool ((r1 : Int) == 0)) pC (by exact n1)).trans hC2
  have mo : ∀ i, i ≠ pA → (W2.setCell ⟨pA, 6, none⟩ (.bool ((r1 : Int) == 0))).heap[i]? = W2.heap[i]? := fun i hi => Below.heap_setCell _ _ _ _ (by exact hi)
  refine hK _ _ ((mo p1 (by omega)).trans hH2) (fun _ => ?_)
  clear hK K
  try simp only [Act.put, List.setIfInBounds_toArray, List.set_cons_zero, List.set_cons_succ]
  refine wpAnyW_takeD 8 107 (v := ?_) (by kernel_rfl) (by kernel_rfl) (by kernel_rfl) (by kernel_rfl) (fun _ _ _ h => h) ?_ (by assumption) ?_
  rotate_left
  · intro oi hoi w hSw; (try dsimp only at hSw); simp only [List.getElem?_toArray, List.getElem?_cons_zero, List.getElem?_cons_succ, Option.some.injEq] at hoi; subst hoi; go_simp; try with_reducible rfl
  simp only [Act.put, List.setIfInBounds_toArray, List.set_cons_zero, List.set_cons_succ]
  have hd3 : DrawSt (W2.setCell ⟨pA, 6, none⟩ (.bool ((r1 : Int) == 0))) pc pb a c xs (k + 2) := hd2.other (fun i hi => mo i (by omega))
  have hH3 : (W2.setCell ⟨pA, 6, none⟩ (.bool ((r1 : Int) == 0))).heap[p1]? = some (.cells #[drawV pc pb] 48) := (mo p1 (by omega)).trans hH2
  have hs3 : W2.heap.size ≤ (W2.setCell ⟨pA, 6, none⟩ (.bool ((r1 : Int) == 0))).heap.size := by simp
  have hos : (W2.setCell ⟨pA, 6, none⟩ (.bool ((r1 : Int) == 0))).os = W2.os ∧ (W2.setCell ⟨pA, 6, none⟩ (.bool ((r1 : Int) == 0))).tape = W2.tape ∧ (W2.setCell ⟨pA, 6, none⟩ (.bool ((r1 : Int) == 0))).output = W2.output := ⟨rfl, rfl, rfl⟩
  generalize W2.setCell ⟨pA, 6, none⟩ (.bool ((r1 : Int) == 0)) = W3 at mA mC mo hd3 hH3 hs3 hos ⊢
  have cC := cell_block mC 6
  have fC := frozen_block mC 6
  simp only [edArr, List.getElem?_toArray, List.getElem?_cons_zero, List.getElem?_cons_succ] at cC
  refine wpAnyW_one 9 (by kernel_rfl) (by kernel_rfl) ?_
  intro o ho K hK
  simp only [List.getElem?_toArray, List.getElem?_cons_zero, List.getElem?_cons_succ, Option.some.injEq] at ho
  subst ho
  go_simp
  have mA' := (Below.heap_setCell W3 ⟨pC, 6, none⟩ (.bool ((r2 : Int) == 0)) pA (by exact nAC)).trans mA
  have mC' := heap_setCell_same W3 pC 6 _ _ (.bool ((r2 : Int) == 0)) mC
  have mo' : ∀ i, i ≠ pC → (W3.setCell ⟨pC, 6, none⟩ (.bool ((r2 : Int) == 0))).heap[i]? = W3.heap[i]? := fun i hi => Below.heap_setCell _ _ _ _ (by exact hi)
  refine hK _ _ ((mo' p1 (by omega)).trans hH3) (fun _ => ?_)
  clear hK K
  try simp only [Act.put, List.setIfInBounds_toArray, List.set_cons_zero, List.set_cons_succ]
  refine wpAnyW_done (by kernel_rfl) ?_ _
  dsimp only [onNormal]
  exact HFIN.out _ _ _ _ _ _ _ _ ((r1 : Int) == 0) ((r2 : Int) == 0) _ (hd3.other (fun i hi => mo' i (by omega))) mA' mC' (fun i i1 i2 i3 i4 => ((mo' i i2).trans (mo i i1)).trans (hg2.block i i4 (fun e => i3 (Option.some.inj e)))) ⟨hos.1.trans hg2.os, hos.2.1.trans hg2.tape, hos.2.2.trans hg2.output, Nat.le_trans hg2.size (Nat.le_trans hs3 (by simp))⟩

end Go.Proofs.Ytjkegmjjhdmkiaa
