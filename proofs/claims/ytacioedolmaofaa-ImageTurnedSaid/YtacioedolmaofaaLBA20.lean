/- tell$1: what is told from a state on. tell: what is told of all ways. What is told from the beginning; Fits, Count, Needs. -/
import Derived.Test.YtacioedolmaofaaLBA19
namespace Go.Proofs.Ytacioedolmaofaa
open Go.RowKit Go.Shelf
attribute [local go_sem] Oper.semAt_some
set_option maxHeartbeats 6400000
set_option maxRecDepth 100000
set_option linter.unusedSimpArgs false
set_option linter.unusedVariables false

theorem imarks_ret {P : Program} {fn : Func} {R : Ending → World → Prop} {tmps : Array Value} {W : World} {D : Nat} {v : Value} (hK : W.heap[D]? = some (.deferred (some [])))
    (hr : ∀ X, Steps (fun k => k = D) W X → X.heap.size = W.heap.size → (results fn tmps).run P X = .ok v X ∧ R (.returned v) X) : bodyPostM Fence.wide 0 P fn R .ret { tmps, defers := [{ target := .collected D, args := #[] }] } W := by
  obtain ⟨h1, h2⟩ := hr _ (Steps.putObj (own := fun k => k = D) W rfl (.deferred none)) (by simp)
  exact ⟨by simp, .inl ⟨_, _, rfl, run_takeDeferred hK, ⟨_, h1, h2⟩⟩⟩
theorem imarks_none {P : Program} {fn : Func} {R : Ending → World → Prop} {tmps : Array Value} {W : World} {v : Value} (hr : (results fn tmps).run P W = .ok v W ∧ R (.returned v) W) : bodyPostM Fence.wide 0 P fn R .ret { tmps, defers := [] } W :=
  ⟨_, hr.1, hr.2⟩

theorem ion_step (p B1 B2 B3 B4 r n : Nat) (fa : Option Addr) (fc : Nat) (ta : Option Addr) (tc : Nat) (T : List ITr) (F fr : Int) (used : Nat) (Ky : Int × Nat → Prop) (w : World)
    (hat : TellAt w p B1 B2 B3 B4 r n F fa fc ta tc T) (hk : KnownT w r T n F Ky)
    (hn : n ≤ 9) (hT : ∀ t ∈ T, t.wf n) (hlen : T.length ≤ 5000) (hc : ∀ a : Int, (T.filter fun t => decide (t.a = a)).length ≤ 100) (h0 : 0 ≤ fr) (hu : used < 512)
    (hon : ∀ (fr' : Int) (used' : Nat) (Ky0 : Int × Nat → Prop) (wq : World), TellAt wq p B1 B2 B3 B4 r n F fa fc ta tc T → KnownT wq r T n F Ky0 → fr < fr' → fr' ≤ n → used' < 512 →
      Calls Try.prog 73 #[stV (fr', used'), .pointer (some ⟨B1, 0, none⟩), .pointer (some ⟨B2, 0, none⟩), .pointer (some ⟨B3, 0, none⟩), .pointer (some ⟨B4, 0, none⟩)] wq (OnP r n T F fr' used' Ky0 wq)) :
    Calls Try.prog 73 #[stV (fr, used), .pointer (some ⟨B1, 0, none⟩), .pointer (some ⟨B2, 0, none⟩), .pointer (some ⟨B3, 0, none⟩), .pointer (some ⟨B4, 0, none⟩)] w (OnP r n T F fr used Ky w) := by
  have hrl := hk.lt
  have HTB := Lib.hid hat.tb
  have hne : r ≠ p ∧ r ≠ B1 ∧ r ≠ B2 ∧ r ≠ B3 ∧ r ≠ B4 ∧ (T ≠ [] → ∀ a, ta = some a → a.block ≠ r) := ⟨(hk.ne hat.t).symm, (hk.ne hat.k).symm, (hk.ne hat.s).symm, (hk.ne hat.f).symm, (hk.ne hat.o).symm, fun hT0 a ha => by
    obtain ⟨b, o, e, _, hx⟩ := hat.tr 0 (List.length_pos_iff.2 hT0)
    rw [e] at ha
    cases ha
    exact hk.ne hx.c0⟩
  have hlt : p < w.heap.size ∧ B1 < w.heap.size ∧ B2 < w.heap.size ∧ B3 < w.heap.size ∧ B4 < w.heap.size := ⟨World.block_lt_of_cell? w _ hat.t, World.block_lt_of_cell? w _ hat.k, World.block_lt_of_cell? w _ hat.s, World.block_lt_of_cell? w _ hat.f, World.block_lt_of_cell? w _ hat.o⟩
  obtain ⟨es, clk, hr, hes⟩ := hk
  have HES := Lib.hid hes
  have hkeys : ∀ en ∈ es, ∃ s', en.key = stV s' := fun en hen => by obtain ⟨s', _, h2, _⟩ := hes en hen; exact ⟨s', h2⟩
  have hlook := fun (W : World) (hW : W.heap[r]? = some (.map es clk)) => lookup_run stKey (t := 127) (et := 90) rfl (z := .agg #[.int .i64 0, .int .i64 0, .int .i64 0, .int .i64 0, .int .u64 0, .int .u64 0]) (fun w => by go_simp) (fr, used) hW hkeys
  obtain ⟨g, q, HL, hq⟩ : ∃ (g : ITold) (q : Bool), (∀ W : World, W.heap[r]? = some (.map es clk) → (Instr.lookup 127 (.map (some r)) (stV (fr, used)) true).run Try.prog W = .ok (.tuple #[tdV g, .bool q]) W) ∧ (q = true → g = tellN T n F fr used) ∧ (q = false → ∀ en ∈ es, en.key ≠ stV (fr, used)) := by
    by_cases hin : ∃ en ∈ es, en.key = stV (fr, used)
    · refine ⟨tellN T n F fr used, true, fun W hW => ?_, fun _ => rfl, fun e => by cases e⟩
      rcases hlook W hW with ⟨_, h2⟩ | ⟨en, hen, h1, h2⟩
      · obtain ⟨en, hen, h3⟩ := hin
        exact absurd h3 (h2 en hen)
      · obtain ⟨s', _, h4, h5⟩ := HES.out en hen
        have : s' = (fr, used) := stKey.inj _ _ (h4.symm.trans h2)
        subst this
        rw [h1, h5]
    · refine ⟨⟨0, 0, 0, 0, 0, 0⟩, false, fun W hW => ?_, fun e => (by cases e), fun _ en hen h => hin ⟨en, hen, h⟩⟩
      rcases hlook W hW with ⟨h1, h2⟩ | ⟨en, hen, h1, h2⟩
      · exact h1
      · exact absurd ⟨en, hen, h2⟩ hin
  clear hlook hes hkeys
  have HQ := Lib.hid hq
  have HNE := Lib.hid hne
  have HLT := Lib.hid hlt
  obtain ⟨lp, l1, l2, l3, l4⟩ := hlt
  clear hq hne
  unfold stV tdV at HL
  unfold stV
  dsimp only at HL ⊢
  refine (callsIn_wide (n := 0)).1 ?_
  refine callsIn_of_wp_marks Try.func73 rfl trivial ?_ rfl
  simp only [Try.ntmps73, List.size_toArray, List.length_cons, List.length_nil, Nat.reduceAdd, Nat.reduceSub, Array.replicate_succ, Array.replicate_zero, List.push_toArray, List.append_toArray, List.nil_append, List.cons_append]
  have c1 := hat.k
  have HLr := fun W hW => HL W hW
  have hl0 := HL ((w.alloc (.cells #[.int .i64 fr, .int .u64 used] 94)).alloc (.cells #[.int .i64 0, .int .i64 0, .int .i64 0, .int .i64 0, .int .u64 0, .int .u64 0] 90)) (by
    rw [alloc_get, alloc_get, World.size_alloc, if_neg (by omega), if_neg (by omega)]; exact hr)
  cases q
  · have HN := Lib.hid (HQ.out.2 rfl)
    gi_wp2
    obtain ⟨W1, hW1⟩ : ∃ W, (((w.alloc (.cells #[.int .i64 fr, .int .u64 used] 94)).alloc (.cells #[.int .i64 0, .int .i64 0, .int .i64 0, .int .i64 0, .int .u64 0, .int .u64 0] 90)).alloc (.cells #[.int .i64 g.many, .int .i64 g.flaws, .int .i64 g.lo, .int .i64 g.hi, .int .u64 g.some, .int .u64 g.all] 90)) = W := ⟨_, rfl⟩
    rw [hW1]
    try simp only [Nat.add_assoc, Nat.reduceAdd]
    have hst_W1 : Steps (fun _ => False) w W1 := by rw [← hW1]; exact ((Steps.alloc _ w _).trans (Steps.alloc (fun _ => False) _ _) (fun _ _ h => h)).trans (Steps.alloc (fun _ => False) _ _) (fun _ _ h => h)
    have hz_W1 : W1.heap.size = w.heap.size + 3 := by rw [← hW1]; simp
    have g0_W1 : W1.heap[w.heap.size]? = some (.cells #[.int .i64 fr, .int .u64 used] 94) := by rw [← hW1]; simp only [alloc_get, World.size_alloc]; repeat (first | exact if_pos trivial | exact if_pos (by omega) | rw [if_neg (by omega)])
    have g1_W1 : W1.heap[w.heap.size + 1]? = some (.cells #[.int .i64 0, .int .i64 0, .int .i64 0, .int .i64 0, .int .u64 0, .int .u64 0] 90) := by rw [← hW1]; simp only [alloc_get, World.size_alloc]; repeat (first | exact if_pos trivial | exact if_pos (by omega) | rw [if_neg (by omega)])
    have g2_W1 : W1.heap[w.heap.size + 2]? = some (.cells #[.int .i64 g.many, .int .i64 g.flaws, .int .i64 g.lo, .int .i64 g.hi, .int .u64 g.some, .int .u64 g.all] 90) := by rw [← hW1]; simp only [alloc_get, World.size_alloc]; repeat (first | exact if_pos trivial | exact if_pos (by omega) | rw [if_neg (by omega)])
    clear hW1
    have hat1 := hat.later hst_W1
    have hr1 := hst_W1.obj (fun h => h) hr
    have HST1 := Lib.hid hst_W1
    obtain ⟨z, hzz⟩ : ∃ z, w.heap.size = z := ⟨_, rfl⟩
    rw [hzz] at g0_W1 g1_W1 g2_W1 hz_W1 hrl lp l1 l2 l3 l4
    try rw [hzz]
    have HZ := Lib.hid hzz
    have ewn : IntKind.i64.wrap ((n : Int) + 1) = (n : Int) + 1 := by rw [IntKind.wrap_i64]; omega
    have k2 : ∀ W', Steps (fun _ => False) W1 W' → W'.cell? ⟨B2, 0, none⟩ = some (.pointer (some ⟨p, 0, none⟩)) := fun W' h => cell_apart h (fun h => h) hat1.s
    have k14 : ∀ W', Steps (fun _ => False) W1 W' → W'.cell? ⟨p, 14, none⟩ = some (.slice fa n fc) := fun W' h => cell_apart h (fun h => h) hat1.l
    clear c1 HLr hl0 HL hst_W1 hzz hat hr
    refine wpIn_region_Wn (S := fun W' => Steps (fun _ => False) W1 W') 18 (by kernel_rfl) (by kernel_rfl) (Steps.refl _ W1).drew (fun H0 => ?_)
    have hd : W1.drew.heap.size = z + 3 := by rw [← hz_W1]; rfl
    generalize W1.drew = w0 at H0 hd ⊢
    refine wTk 0 22 ?_ ?_ ?_
    rotate_left
    · intro o h w k; (try dsimp only at k); simp only [gA, gB, gC, gG] at h; subst h; go_simp; try with_reducible rfl
    simp only [Act.put, gD, gE, gF]
    refine wTk 1 23 ?_ ?_ ?_
    rotate_left
    · intro o h w k; (try dsimp only at k); simp only [gA, gB, gC, gG] at h; subst h; go_simp; try with_reducible rfl
    simp only [Act.put, gD, gE, gF]
    refine wTk 2 24 ?_ ?_ ?_
    rotate_left
    · intro o h w k; (try dsimp only at k); simp only [gA, gB, gC, gG] at h; subst h; go_simp; try with_reducible rfl
    simp only [Act.put, gD, gE, gF]
    refine wTk 3 25 ?_ ?_ ?_
    rotate_left
    · intro o h w k; (try dsimp only at k); simp only [gA, gB, gC, gG] at h; subst h; go_simp; try with_reducible rfl
    simp only [Act.put, gD, gE, gF]
    refine wTk 4 26 ?_ ?_ ?_
    rotate_left
    · intro o h w k; (try dsimp only at k); simp only [gA, gB, gC, gG] at h; subst h; go_simp; try with_reducible rfl
    simp only [Act.put, gD, gE, gF]
    refine wTk 5 27 ?_ ?_ ?_
    rotate_left
    · intro o h w k; (try dsimp only at k); simp only [gA, gB, gC, gG] at h; subst h; go_simp; try with_reducible rfl
    simp only [Act.put, gD, gE, gF]
    refine wTk 6 28 ?_ ?_ ?_
    rotate_left
    · intro o h w k; (try dsimp only at k); simp only [gA, gB, gC, gG] at h; subst h; go_simp; try with_reducible rfl
    simp only [Act.put, gD, gE, gF]
    refine wTk 7 29 ?_ ?_ ?_
    rotate_left
    · intro o h w k; (try dsimp only at k); simp only [gA, gB, gC, gG] at h; subst h; go_simp; try with_reducible rfl
    simp only [Act.put, gD, gE, gF]
    refine wTk 8 30 ?_ ?_ ?_
    rotate_left
    · intro o h w k; (try dsimp only at k); simp only [gA, gB, gC, gG] at h; subst h; go_simp; try with_reducible rfl
    simp only [Act.put, gD, gE, gF]
    refine wTk 9 31 ?_ ?_ ?_
    rotate_left
    · intro o h w k; (try dsimp only at k); simp only [gA, gB, gC, gG] at h; subst h; go_simp; try with_reducible rfl
    simp only [Act.put, gD, gE, gF]
    refine wTk 10 32 ?_ ?_ ?_
    rotate_left
    · intro o h w k; (try dsimp only at k); simp only [gA, gB, gC, gG] at h; subst h; go_simp; try with_reducible rfl
    simp only [Act.put, gD, gE, gF]
    refine wTk 11 33 ?_ ?_ ?_
    rotate_left
    · intro o h w k; (try dsimp only at k); simp only [gA, gB, gC, gG] at h; subst h; go_simp; try with_reducible rfl
    simp only [Act.put, gD, gE, gF]
    refine wTk 12 34 ?_ ?_ ?_
    rotate_left
    · intro o h w k; (try dsimp only at k); simp only [gA, gB, gC, gG] at h; subst h; go_simp; try with_reducible rfl
    simp only [Act.put, gD, gE, gF]
    refine wTk 13 35 ?_ ?_ ?_
    rotate_left
    · intro o h w k; (try dsimp only at k); simp only [gA, gB, gC, gG] at h; subst h; go_simp; try with_reducible rfl
    simp only [Act.put, gD, gE, gF]
    refine wTk 14 36 ?_ ?_ ?_
    rotate_left
    · intro o h w k; (try dsimp only at k); simp only [gA, gB, gC, gG] at h; subst h; go_simp; try with_reducible rfl
    simp only [Act.put, gD, gE, gF]
    refine wTk 15 37 ?_ ?_ ?_
    rotate_left
    · intro o h w k; (try dsimp only at k); simp only [gA, gB, gC, gG] at h; subst h; go_simp; try with_reducible rfl
    simp only [Act.put, gD, gE, gF]
    clear k2 k14
    refine wpAnyW_one 16 (by kernel_rfl) (by kernel_rfl) ?_
    intro o ho K hK
    simp only [gA, gB, gC, gG] at ho
    subst ho
    go_simp
    have hq9 := obj_new w0 (.cells #[.int .i64 0, .int .i64 0, .int .i64 0, .int .i64 0, .int .u64 0, .int .u64 0] 90)
    have hst := Steps.alloc (fun _ => False) w0 (.cells #[.int .i64 0, .int .i64 0, .int .i64 0, .int .i64 0, .int .u64 0, .int .u64 0] 90)
    have hzs : (w0.alloc (.cells #[.int .i64 0, .int .i64 0, .int .i64 0, .int .i64 0, .int .u64 0, .int .u64 0] 90)).heap.size = z + 4 := by rw [World.size_alloc, hd]
    refine hK _ _ (H0.trans hst (fun _ _ h => h)) (fun _ => ?_)
    clear hK K
    try simp only [Act.put, gD, gE, gF]
    have H1 := H0.trans hst (fun _ _ h => h)
    rw [hd] at hq9
    try rw [hd]
    generalize w0.alloc (.cells #[.int .i64 0, .int .i64 0, .int .i64 0, .int .i64 0, .int .u64 0, .int .u64 0] 90) = w1 at hq9 hst hzs H1 ⊢
    have fz := fun k => frozen_block hq9 k
    have f0 := fz 0
    have f1 := fz 1
    have f2 := fz 2
    have f3 := fz 3
    have f4 := fz 4
    have f5 := fz 5
    have cz := fun k => cell_block hq9 k
    have x0 := cz 0
    have x1 := cz 1
    have x2 := cz 2
    have x3 := cz 3
    have x4 := cz 4
    have x5 := cz 5
    clear fz cz
    simp only [gA, gB, gC] at x0 x1 x2 x3 x4 x5
    refine wpAnyW_one 17 (by kernel_rfl) (by kernel_rfl) ?_
    intro o ho K hK
    simp only [gA, gB, gC, gG] at ho
    subst ho
    go_simp
    have zz := star_put hq9 (.int .i64 0) (.int .i64 ((n : Int) + 1)) (.int .i64 ((n : Int) + 1)) (.int .i64 (-1)) (.int .u64 0) (.int .u64 18446744073709551615)
    have hsix := six_steps (z + 3) (.int .i64 0) (.int .i64 ((n : Int) + 1)) (.int .i64 ((n : Int) + 1)) (.int .i64 (-1)) (.int .u64 0) (.int .u64 18446744073709551615) w1
    generalize (((((w1.setCell ⟨z + 3, 0, none⟩ (.int .i64 0)).setCell ⟨z + 3, 1, none⟩ (.int .i64 ((n : Int) + 1))).setCell ⟨z + 3, 2, none⟩ (.int .i64 ((n : Int) + 1))).setCell ⟨z + 3, 3, none⟩ (.int .i64 (-1))).setCell ⟨z + 3, 4, none⟩ (.int .u64 0)).setCell ⟨z + 3, 5, none⟩ (.int .u64 18446744073709551615) = W2 at zz hsix hK ⊢
    have H2 : Steps (fun _ => False) W1 W2 := H1.trans hsix (fun k hk h => by omega)
    have hzs2 := hsix.size
    refine hK _ _ H2 (fun _ => ?_)
    clear hK K
    try simp only [Act.put, gD, gE, gF]
    refine wpAnyW_done (by kernel_rfl) ?_ _
    dsimp only [onNormal]
    clear f0 f1 f2 f3 f4 f5 x0 x1 x2 x3 x4 x5 hq9 H1 H0 hsix hst hd
    gi_wp2
    have hat2 := hat1.later H2
    have h52 := H2.obj (fun h => h) g0_W1
    have k2 : ∀ W', Steps (fun _ => False) W2 W' → W'.cell? ⟨B2, 0, none⟩ = some (.pointer (some ⟨p, 0, none⟩)) := fun W' h => cell_apart h (fun h => h) hat2.s
    have k14 : ∀ W', Steps (fun _ => False) W2 W' → W'.cell? ⟨p, 14, none⟩ = some (.slice fa n fc) := fun W' h => cell_apart h (fun h => h) hat2.l
    have k5 : ∀ W', Steps (fun _ => False) W2 W' → W'.cell? ⟨z, 1, none⟩ = some (.int .u64 used) := fun W' h => cell_apart h (fun h => h) (cell_block h52 1)
    have hbl := bitsIn_le 9 used
    obtain ⟨m, hm⟩ : ∃ m : Nat, bitsIn 9 used = m := ⟨_, rfl⟩
    have hsize := isize_any used hu
    rw [hm] at hbl hsize
    have HM := Lib.hid hm
    have ews : IntKind.i64.wrap ((n : Int) - (m : Int)) = (n : Int) - (m : Int) := by rw [IntKind.wrap_i64]; omega
    clear hm
    refine wpIn_region_Wn (S := fun W' => Steps (fun _ => False) W2 W') 11 (by kernel_rfl) (by kernel_rfl) (Steps.refl _ W2).drew (fun H3 => ?_)
    generalize W2.drew = w3 at H3 ⊢
    refine wTk 0 38 ?_ ?_ ?_
    rotate_left
    · intro o h w k; (try dsimp only at k); simp only [gA, gB, gC, gG] at h; subst h; go_simp; try with_reducible rfl
    simp only [Act.put, gD, gE, gF]
    refine wTk 1 39 ?_ ?_ ?_
    rotate_left
    · intro o h w k; (try dsimp only at k); simp only [gA, gB, gC, gG] at h; subst h; go_simp; try with_reducible rfl
    simp only [Act.put, gD, gE, gF]
    refine wTk 2 40 ?_ ?_ ?_
    rotate_left
    · intro o h w k; (try dsimp only at k); simp only [gA, gB, gC, gG] at h; subst h; go_simp; try with_reducible rfl
    simp only [Act.put, gD, gE, gF]
    refine wTk 3 41 ?_ ?_ ?_
    rotate_left
    · intro o h w k; (try dsimp only at k); simp only [gA, gB, gC, gG] at h; subst h; go_simp; try with_reducible rfl
    simp only [Act.put, gD, gE, gF]
    refine wTk 4 42 ?_ ?_ ?_
    rotate_left
    · intro o h w k; (try dsimp only at k); simp only [gA, gB, gC, gG] at h; subst h; go_simp; try with_reducible rfl
    simp only [Act.put, gD, gE, gF]
    refine wTk 5 43 ?_ ?_ ?_
    rotate_left
    · intro o h w k; (try dsimp only at k); simp only [gA, gB, gC, gG] at h; subst h; go_simp; try with_reducible rfl
    simp only [Act.put, gD, gE, gF]
    refine wTk 6 44 ?_ ?_ ?_
    rotate_left
    · intro o h w k; (try dsimp only at k); simp only [gA, gB, gC, gG] at h; subst h; go_simp; try with_reducible rfl
    simp only [Act.put, gD, gE, gF]
    refine wTk 7 45 ?_ ?_ ?_
    rotate_left
    · intro o h w k; (try dsimp only at k); simp only [gA, gB, gC, gG] at h; subst h; go_simp; try with_reducible rfl
    simp only [Act.put, gD, gE, gF]
    refine wpAnyW_one 8 (by kernel_rfl) (by kernel_rfl) ?_
    intro o ho K hK
    simp only [gA, gB, gC, gG] at ho
    subst ho
    go_simp
    refine ⟨trivial, rfl, CallsIn.mono (callsIn_wide.2 (hsize w3)) ?_⟩
    rintro e w4 ⟨rfl, rfl⟩
    refine hK _ _ H3 (fun _ => ?_)
    clear hK K
    try simp only [Act.put, gD, gE, gF]
    refine wTk 9 47 ?_ ?_ ?_
    rotate_left
    · intro o h w k; (try dsimp only at k); simp only [gA, gB, gC, gG] at h; subst h; go_simp; try with_reducible rfl
    simp only [Act.put, gD, gE, gF]
    refine wTk 10 10 ?_ ?_ ?_
    rotate_left
    · intro o h w k; (try dsimp only at k); simp only [gA, gB, gC, gG] at h; subst h; go_simp; try with_reducible rfl
    simp only [Act.put, gD, gE, gF]
    refine wpAnyW_done (by kernel_rfl) ?_ _
    dsimp only [onNormal]
    have hat3 := hat2.later H3
    have h53 := H3.obj (fun h => h) h52
    have h93 := H3.obj (fun h => h) zz
    have hr3 := H3.obj (fun h => h) (H2.obj (fun h => h) hr1)
    have H13 := H2.trans H3 (fun _ _ h => h)
    have cF := hat3.f
    have c2 := hat3.s
    have c50 := cell_block h53 0
    have c51 := cell_block h53 1
    simp only [gA, gB, gC] at c50 c51
    have hat1' := hat1
    have g0' := g0_W1
    have g1' := g1_W1
    have hr1' := hr1
    clear k2 k14 k5 hat2 hat1 h52 zz hr1 g0_W1 g1_W1 g2_W1 H2 H3 hsize ews ewn
    by_cases hF : (n : Int) - (m : Int) ≤ F
    · have fz := fun k => frozen_block h93 k
      have f0 := fz 0
      have f1 := fz 1
      have f2 := fz 2
      have f3 := fz 3
      have f4 := fz 4
      have f5 := fz 5
      have cz := fun k => cell_block h93 k
      have x0 := cz 0
      have x1 := cz 1
      have x2 := cz 2
      have x3 := cz 3
      have x4 := cz 4
      have x5 := cz 5
      clear fz cz
      simp only [gA, gB, gC] at x0 x1 x2 x3 x4 x5
      gi_wp2_with fail
      have zz := star_put h93 (.int .i64 1) (.int .i64 ((n : Int) - (m : Int))) (.int .i64 0) (.int .i64 0) (.int .u64 0) (.int .u64 0)
      have hsix := six_steps (z + 3) (.int .i64 1) (.int .i64 ((n : Int) - (m : Int))) (.int .i64 0) (.int .i64 0) (.int .u64 0) (.int .u64 0) w3
      generalize (((((w3.setCell ⟨z + 3, 0, none⟩ (.int .i64 1)).setCell ⟨z + 3, 1, none⟩ (.int .i64 ((n : Int) - (m : Int)))).setCell ⟨z + 3, 2, none⟩ (.int .i64 0)).setCell ⟨z + 3, 3, none⟩ (.int .i64 0)).setCell ⟨z + 3, 4, none⟩ (.int .u64 0)).setCell ⟨z + 3, 5, none⟩ (.int .u64 0) = W4 at zz hsix ⊢
      have H14 : Steps (fun _ => False) W1 W4 := H13.trans hsix (fun k hk h => by omega)
      have h94 : W4.heap[z + 3]? = some (.cells (tdA (tellTo T n F used [])) 90) := zz.trans (by unfold tellTo leafTold; rw [List.foldl_nil, HM.out, if_pos hF]; rfl)
      clear f0 f1 f2 f3 f4 f5 x0 x1 x2 x3 x4 x5 hsix zz h93 H13 h53 hr3 hat3
      have hat4 := hat1'.later H14
      have h54 := H14.obj (fun h => h) g0'
      have h64 := H14.obj (fun h => h) g1'
      have hr4 := H14.obj (fun h => h) hr1'
      have hz4 := H14.size
      clear cF c2 c50 c51
      refine ⟨trivial, rfl, (callsIn_wide.2 (inext_made p fr used W4)).mono ?_⟩
      rintro e W5 ⟨rfl, rfl⟩
      obtain ⟨W5, hW5⟩ : ∃ W, (((W4.alloc (.cells #[.pointer (some ⟨p, 0, none⟩)] 77)).alloc (.cells #[.int .i64 fr] 3)).alloc (.cells #[.int .u64 used] 88)) = W := ⟨_, rfl⟩
      rw [hW5]
      try simp only [Nat.add_assoc, Nat.reduceAdd]
      have hst_W5 : Steps (fun _ => False) W4 W5 := by rw [← hW5]; exact ((Steps.alloc _ W4 _).trans (Steps.alloc (fun _ => False) _ _) (fun _ _ h => h)).trans (Steps.alloc (fun _ => False) _ _) (fun _ _ h => h)
      have hz_W5 : W5.heap.size = W4.heap.size + 3 := by rw [← hW5]; simp
      have g0_W5 : W5.heap[W4.heap.size]? = some (.cells #[.pointer (some ⟨p, 0, none⟩)] 77) := by rw [← hW5]; simp only [alloc_get, World.size_alloc]; repeat (first | exact if_pos trivial | exact if_pos (by omega) | rw [if_neg (by omega)])
      have g1_W5 : W5.heap[W4.heap.size + 1]? = some (.cells #[.int .i64 fr] 3) := by rw [← hW5]; simp only [alloc_get, World.size_alloc]; repeat (first | exact if_pos trivial | exact if_pos (by omega) | rw [if_neg (by omega)])
      have g2_W5 : W5.heap[W4.heap.size + 2]? = some (.cells #[.int .u64 used] 88) := by rw [← hW5]; simp only [alloc_get, World.size_alloc]; repeat (first | exact if_pos trivial | exact if_pos (by omega) | rw [if_neg (by omega)])
      clear hW5
      obtain ⟨b, hb⟩ : ∃ b, W4.heap.size = b := ⟨_, rfl⟩
      rw [hb] at g0_W5 g1_W5 g2_W5 hz_W5 hz4
      try rw [hb]
      have hq4 := (Array.getElem?_eq_some_iff.1 h94).1
      rw [hb] at hq4
      have hat5 := hat4.later hst_W5
      have h55 := hst_W5.obj (fun h => h) h54
      have h65 := hst_W5.obj (fun h => h) h64
      have hr5 := hst_W5.obj (fun h => h) hr4
      have h95 := hst_W5.obj (fun h => h) h94
      have H15 := H14.trans hst_W5 (fun _ _ h => h)
      have hk5 : KnownT W5 r T n F (fun x => Ky x ∧ x ≠ (fr, used)) := ⟨es, clk, hr5, fun en hen => by
        obtain ⟨u, hu1, hu2, hu3⟩ := HES.out en hen
        exact ⟨u, ⟨hu1, fun e => HN.out en hen (by rw [hu2, e])⟩, hu2, hu3⟩⟩
      obtain ⟨ne1, ne2, ne3, ne4, ne5, ne6⟩ := HNE.out
      have hzt : ∀ a, ta = some a → a.block < z := fun a ha => by rw [← HZ.out]; exact HTB.out a ha
      clear hat4 h54 h64 hr4 h94 hb hst_W5
      gi_wp2_with fail
      refine wpIn_range_own (α := ITr) (gf := 76) (lb := #[.pointer (some ⟨b, 0, none⟩), .pointer (some ⟨b + 1, 0, none⟩), .pointer (some ⟨b + 2, 0, none⟩)]) (L := nextOf T fr used) (Enc := fun _ x vals _ => vals = #[trV x]) (Kp := KeepCells (NxB p b (b + 1) (b + 2) ta))
        rfl (enters_of Try.func76 (by kernel_rfl) rfl) ?seq KeepCells.trans ?kb ?ps
        (TellI W5 r (z + 3) n T F used (fun x => (Ky x ∧ x ≠ (fr, used)) ∨ fr + 1 ≤ x.1)) (fun _ _ _ _ => False) (TellI.bides (by omega) (by omega)) (fun c own own' x A C h _ _ => h)
        ⟨fun k h => h.elim, Steps.refl _ _, hk5.mono (fun x h => .inl h), h95⟩ (fun _ _ _ _ _ _ h => h) ?round ?done (fun _ _ _ _ _ _ _ _ h => h.elim)
      case seq =>
        intro Wn hs hzn
        have hatn := hat5.later hs
        refine inext_seq p b (b + 1) (b + 2) fr used ta tc T Wn ⟨cell_apart hs (fun h => h) (cell_block g0_W5 0), cell_apart hs (fun h => h) (cell_block g1_W5 0), cell_apart hs (fun h => h) (cell_block g2_W5 0), hatn.t, hatn.tr⟩ (fun t ht i hi => ?_) hlen (by omega)
        have hwf := hT t ht
        have ha := hwf.a
        simp only [List.mem_cons, List.not_mem_nil, or_false] at hi
        rcases hi with rfl | rfl | rfl
        · omega
        · rcases hwf.b with h | h <;> omega
        · rcases hwf.c with h | h <;> omega
      case kb =>
        intro A C hA hs
        refine KeepCells.of_steps hs (fun k hk h => ?_)
        rcases hk with rfl | rfl | rfl | rfl | ⟨a, ha, rfl⟩
        · omega
        · omega
        · omega
        · omega
        · have := hzt a ha; omega
      case ps => rintro own x vals W rfl; rfl
      case round =>
        exact tell_round z p B1 B2 B3 B4 r n z (z + 3) b (b + 1) (b + 2) fa fc ta tc T F fr used (fun x => Ky x ∧ x ≠ (fr, used)) W5 hat5 h55 (by omega) ⟨by omega, by omega, by omega, by omega, by omega, by omega, by omega, by omega, by omega, by omega, by omega, by omega, by omega, by omega, by omega, by omega, by omega, by omega⟩ hzt ⟨ne1, ne2, ne3, ne4, ne5, ne6⟩ hn hT hc h0 hu hon
      case done =>
        rintro D own W hD hoD ⟨hown, hsW, hkW, h9W⟩ hK
        obtain ⟨es', clk', hrW, hes'⟩ := hkW
        have he := tellN_eq (T := T) (n := n) F (fun t ht => (hT t ht).a) fr used
        rw [← he] at h9W
        obtain ⟨o, ho⟩ : ∃ o, tellN T n F fr used = o := ⟨_, rfl⟩
        rw [ho] at h9W
        have HO := Lib.hid ho
        have HES' := Lib.hid hes'
        have hup := update_run stKey (t := 127) (et := 90) rfl (fr, used) (tdV o) hrW (fun en hen => by obtain ⟨u, _, h2, _⟩ := HES'.out en hen; exact ⟨u, h2⟩) (fun en hen e2 => by
          obtain ⟨u, h1, h2, _⟩ := HES'.out en hen
          have := stKey.inj _ _ (h2.symm.trans e2)
          subst this
          rcases h1 with h1 | h1
          · exact h1.2 rfl
          · simp only at h1; omega)
        have hrx := (Array.getElem?_eq_some_iff.1 hrW).1
        obtain ⟨wy, hwy⟩ : ∃ wy, W.putObj r (.map (es'.push { key := stV (fr, used), val := tdV o, born := clk' }) (clk' + 1)) = wy := ⟨_, rfl⟩
        rw [hwy] at hup
        have hsy : Steps (fun k => k = r) W wy := by rw [← hwy]; exact Steps.putObj (own := fun k => k = r) _ rfl _
        have hry : wy.heap[r]? = some (.map (es'.push { key := stV (fr, used), val := tdV o, born := clk' }) (clk' + 1)) := by rw [← hwy]; exact World.putObj_heap_same hrx
        clear hwy he ho hes'
        unfold stV tdV at hup
        unfold tdA at h9W
        have hzW := hsW.size
        have hatW := hat5.steps hsW (by omega) (by omega) (by omega) (by omega) (by omega) (fun k hk bb oo e h => by
          have h1 := hzt _ e
          have h2 := ne6 (fun e0 => by subst e0; cases hk) _ e
          dsimp only at h1 h2
          omega)
        have cW := hatW.k
        have h5W := hsW.obj (k := z) (by omega) h55
        have h6y := hsy.obj (k := z + 1) (by omega) (hsW.obj (k := z + 1) (by omega) h65)
        have h9y := hsy.obj (k := z + 3) (by omega) h9W
        have v0 := cell_block h5W 0
        have v1 := cell_block h5W 1
        have cz := fun k => cell_block h9W k
        have x0 := cz 0
        have x1 := cz 1
        have x2 := cz 2
        have x3 := cz 3
        have x4 := cz 4
        have x5 := cz 5
        have cy := fun k => cell_block h9y k
        have t0 := cy 0
        have t1 := cy 1
        have t2 := cy 2
        have t3 := cy 3
        have t4 := cy 4
        have t5 := cy 5
        have cs := fun k => cell_block h6y k
        have s0 := cs 0
        have s1 := cs 1
        have s2 := cs 2
        have s3 := cs 3
        have s4 := cs 4
        have s5 := cs 5
        have fz := fun k => frozen_block h6y k
        have f0 := fz 0
        have f1 := fz 1
        have f2 := fz 2
        have f3 := fz 3
        have f4 := fz 4
        have f5 := fz 5
        clear cz cy cs fz
        simp only [gA, gB, gC] at v0 v1 x0 x1 x2 x3 x4 x5 t0 t1 t2 t3 t4 t5 s0 s1 s2 s3 s4 s5
        gi_wp2_with fail
        have zz := star_put h6y (.int .i64 o.many) (.int .i64 o.flaws) (.int .i64 o.lo) (.int .i64 o.hi) (.int .u64 o.some) (.int .u64 o.all)
        have hsix := six_steps (z + 1) (.int .i64 o.many) (.int .i64 o.flaws) (.int .i64 o.lo) (.int .i64 o.hi) (.int .u64 o.some) (.int .u64 o.all) wy
        generalize (((((wy.setCell ⟨z + 1, 0, none⟩ (.int .i64 o.many)).setCell ⟨z + 1, 1, none⟩ (.int .i64 o.flaws)).setCell ⟨z + 1, 2, none⟩ (.int .i64 o.lo)).setCell ⟨z + 1, 3, none⟩ (.int .i64 o.hi)).setCell ⟨z + 1, 4, none⟩ (.int .u64 o.some)).setCell ⟨z + 1, 5, none⟩ (.int .u64 o.all) = WF at zz hsix ⊢
        have hzy := hsy.size
        have hKF := hsix.obj (k := D) (by omega) (hsy.obj (k := D) (by omega) hK)
        refine imarks_ret (v := tdV o) hKF (fun X hX _ => ?_)
        have zX := hX.obj (k := z + 1) (by omega) zz
        have cX := fun k => cell_block zX k
        have r0 := cX 0
        have r1 := cX 1
        have r2 := cX 2
        have r3 := cX 3
        have r4 := cX 4
        have r5 := cX 5
        simp only [gA, gB, gC] at r0 r1 r2 r3 r4 r5
        have hzf := hsix.size
        have hrX := hX.obj (k := r) (by omega) (hsix.obj (k := r) (by omega) hry)
        have hall : Steps (fun k => k = r ∨ z ≤ k) w X :=
          (((((HST1.out.mono (own' := fun k => k = r ∨ z ≤ k) (fun _ _ h => h.elim)).trans H15 (fun _ _ h => h.elim)).trans hsW (fun k _ h => by omega)).trans hsy (fun k _ h => .inl h)).trans hsix (fun k _ h => .inr (by omega))).trans hX (fun k _ h => .inr (by omega))
        refine ⟨by simp [results, Try.results73, go_sem, r0, r1, r2, r3, r4, r5, tdV], by rw [HO.out], hall.mono (fun k hk h => by have := HZ.out; omega), ⟨_, _, hrX, fun en hen => ?_⟩⟩
        rcases Array.mem_push.1 hen with hen | rfl
        · obtain ⟨u, hu1, hu2⟩ := HES'.out en hen
          exact ⟨u, by rcases hu1 with h | h; exact .inl h.1; exact .inr (by omega), hu2⟩
        · exact ⟨(fr, used), .inr (Int.le_refl _), rfl, by rw [HO.out]⟩
    ·
      gi_wp2_with fail
      obtain ⟨W4, hW4⟩ : ∃ W4, w3 = W4 := ⟨_, rfl⟩
      rw [hW4] at h93 H13 ⊢
      have H14 := H13
      have h94 : W4.heap[z + 3]? = some (.cells (tdA (tellTo T n F used [])) 90) := h93.trans (by unfold tellTo leafTold; rw [List.foldl_nil, HM.out, if_neg (by omega)]; rfl)
      clear h93 H13 h53 hr3 hat3 hW4
      have hat4 := hat1'.later H14
      have h54 := H14.obj (fun h => h) g0'
      have h64 := H14.obj (fun h => h) g1'
      have hr4 := H14.obj (fun h => h) hr1'
      have hz4 := H14.size
      clear cF c2 c50 c51
      refine ⟨trivial, rfl, (callsIn_wide.2 (inext_made p fr used W4)).mono ?_⟩
      rintro e W5 ⟨rfl, rfl⟩
      obtain ⟨W5, hW5⟩ : ∃ W, (((W4.alloc (.cells #[.pointer (some ⟨p, 0, none⟩)] 77)).alloc (.cells #[.int .i64 fr] 3)).alloc (.cells #[.int .u64 used] 88)) = W := ⟨_, rfl⟩
      rw [hW5]
      try simp only [Nat.add_assoc, Nat.reduceAdd]
      have hst_W5 : Steps (fun _ => False) W4 W5 := by rw [← hW5]; exact ((Steps.alloc _ W4 _).trans (Steps.alloc (fun _ => False) _ _) (fun _ _ h => h)).trans (Steps.alloc (fun _ => False) _ _) (fun _ _ h => h)
      have hz_W5 : W5.heap.size = W4.heap.size + 3 := by rw [← hW5]; simp
      have g0_W5 : W5.heap[W4.heap.size]? = some (.cells #[.pointer (some ⟨p, 0, none⟩)] 77) := by rw [← hW5]; simp only [alloc_get, World.size_alloc]; repeat (first | exact if_pos trivial | exact if_pos (by omega) | rw [if_neg (by omega)])
      have g1_W5 : W5.heap[W4.heap.size + 1]? = some (.cells #[.int .i64 fr] 3) := by rw [← hW5]; simp only [alloc_get, World.size_alloc]; repeat (first | exact if_pos trivial | exact if_pos (by omega) | rw [if_neg (by omega)])
      have g2_W5 : W5.heap[W4.heap.size + 2]? = some (.cells #[.int .u64 used] 88) := by rw [← hW5]; simp only [alloc_get, World.size_alloc]; repeat (first | exact if_pos trivial | exact if_pos (by omega) | rw [if_neg (by omega)])
      clear hW5
      obtain ⟨b, hb⟩ : ∃ b, W4.heap.size = b := ⟨_, rfl⟩
      rw [hb] at g0_W5 g1_W5 g2_W5 hz_W5 hz4
      try rw [hb]
      have hq4 := (Array.getElem?_eq_some_iff.1 h94).1
      rw [hb] at hq4
      have hat5 := hat4.later hst_W5
      have h55 := hst_W5.obj (fun h => h) h54
      have h65 := hst_W5.obj (fun h => h) h64
      have hr5 := hst_W5.obj (fun h => h) hr4
      have h95 := hst_W5.obj (fun h => h) h94
      have H15 := H14.trans hst_W5 (fun _ _ h => h)
      have hk5 : KnownT W5 r T n F (fun x => Ky x ∧ x ≠ (fr, used)) := ⟨es, clk, hr5, fun en hen => by
        obtain ⟨u, hu1, hu2, hu3⟩ := HES.out en hen
        exact ⟨u, ⟨hu1, fun e => HN.out en hen (by rw [hu2, e])⟩, hu2, hu3⟩⟩
      obtain ⟨ne1, ne2, ne3, ne4, ne5, ne6⟩ := HNE.out
      have hzt : ∀ a, ta = some a → a.block < z := fun a ha => by rw [← HZ.out]; exact HTB.out a ha
      clear hat4 h54 h64 hr4 h94 hb hst_W5
      gi_wp2_with fail
      refine wpIn_range_own (α := ITr) (gf := 76) (lb := #[.pointer (some ⟨b, 0, none⟩), .pointer (some ⟨b + 1, 0, none⟩), .pointer (some ⟨b + 2, 0, none⟩)]) (L := nextOf T fr used) (Enc := fun _ x vals _ => vals = #[trV x]) (Kp := KeepCells (NxB p b (b + 1) (b + 2) ta))
        rfl (enters_of Try.func76 (by kernel_rfl) rfl) ?seq KeepCells.trans ?kb ?ps
        (TellI W5 r (z + 3) n T F used (fun x => (Ky x ∧ x ≠ (fr, used)) ∨ fr + 1 ≤ x.1)) (fun _ _ _ _ => False) (TellI.bides (by omega) (by omega)) (fun c own own' x A C h _ _ => h)
        ⟨fun k h => h.elim, Steps.refl _ _, hk5.mono (fun x h => .inl h), h95⟩ (fun _ _ _ _ _ _ h => h) ?round ?done (fun _ _ _ _ _ _ _ _ h => h.elim)
      case seq =>
        intro Wn hs hzn
        have hatn := hat5.later hs
        refine inext_seq p b (b + 1) (b + 2) fr used ta tc T Wn ⟨cell_apart hs (fun h => h) (cell_block g0_W5 0), cell_apart hs (fun h => h) (cell_block g1_W5 0), cell_apart hs (fun h => h) (cell_block g2_W5 0), hatn.t, hatn.tr⟩ (fun t ht i hi => ?_) hlen (by omega)
        have hwf := hT t ht
        have ha := hwf.a
        simp only [List.mem_cons, List.not_mem_nil, or_false] at hi
        rcases hi with rfl | rfl | rfl
        · omega
        · rcases hwf.b with h | h <;> omega
        · rcases hwf.c with h | h <;> omega
      case kb =>
        intro A C hA hs
        refine KeepCells.of_steps hs (fun k hk h => ?_)
        rcases hk with rfl | rfl | rfl | rfl | ⟨a, ha, rfl⟩
        · omega
        · omega
        · omega
        · omega
        · have := hzt a ha; omega
      case ps => rintro own x vals W rfl; rfl
      case round =>
        exact tell_round z p B1 B2 B3 B4 r n z (z + 3) b (b + 1) (b + 2) fa fc ta tc T F fr used (fun x => Ky x ∧ x ≠ (fr, used)) W5 hat5 h55 (by omega) ⟨by omega, by omega, by omega, by omega, by omega, by omega, by omega, by omega, by omega, by omega, by omega, by omega, by omega, by omega, by omega, by omega, by omega, by omega⟩ hzt ⟨ne1, ne2, ne3, ne4, ne5, ne6⟩ hn hT hc h0 hu hon
      case done =>
        rintro D own W hD hoD ⟨hown, hsW, hkW, h9W⟩ hK
        obtain ⟨es', clk', hrW, hes'⟩ := hkW
        have he := tellN_eq (T := T) (n := n) F (fun t ht => (hT t ht).a) fr used
        rw [← he] at h9W
        obtain ⟨o, ho⟩ : ∃ o, tellN T n F fr used = o := ⟨_, rfl⟩
        rw [ho] at h9W
        have HO := Lib.hid ho
        have HES' := Lib.hid hes'
        have hup := update_run stKey (t := 127) (et := 90) rfl (fr, used) (tdV o) hrW (fun en hen => by obtain ⟨u, _, h2, _⟩ := HES'.out en hen; exact ⟨u, h2⟩) (fun en hen e2 => by
          obtain ⟨u, h1, h2, _⟩ := HES'.out en hen
          have := stKey.inj _ _ (h2.symm.trans e2)
          subst this
          rcases h1 with h1 | h1
          · exact h1.2 rfl
          · simp only at h1; omega)
        have hrx := (Array.getElem?_eq_some_iff.1 hrW).1
        obtain ⟨wy, hwy⟩ : ∃ wy, W.putObj r (.map (es'.push { key := stV (fr, used), val := tdV o, born := clk' }) (clk' + 1)) = wy := ⟨_, rfl⟩
        rw [hwy] at hup
        have hsy : Steps (fun k => k = r) W wy := by rw [← hwy]; exact Steps.putObj (own := fun k => k = r) _ rfl _
        have hry : wy.heap[r]? = some (.map (es'.push { key := stV (fr, used), val := tdV o, born := clk' }) (clk' + 1)) := by rw [← hwy]; exact World.putObj_heap_same hrx
        clear hwy he ho hes'
        unfold stV tdV at hup
        unfold tdA at h9W
        have hzW := hsW.size
        have hatW := hat5.steps hsW (by omega) (by omega) (by omega) (by omega) (by omega) (fun k hk bb oo e h => by
          have h1 := hzt _ e
          have h2 := ne6 (fun e0 => by subst e0; cases hk) _ e
          dsimp only at h1 h2
          omega)
        have cW := hatW.k
        have h5W := hsW.obj (k := z) (by omega) h55
        have h6y := hsy.obj (k := z + 1) (by omega) (hsW.obj (k := z + 1) (by omega) h65)
        have h9y := hsy.obj (k := z + 3) (by omega) h9W
        have v0 := cell_block h5W 0
        have v1 := cell_block h5W 1
        have cz := fun k => cell_block h9W k
        have x0 := cz 0
        have x1 := cz 1
        have x2 := cz 2
        have x3 := cz 3
        have x4 := cz 4
        have x5 := cz 5
        have cy := fun k => cell_block h9y k
        have t0 := cy 0
        have t1 := cy 1
        have t2 := cy 2
        have t3 := cy 3
        have t4 := cy 4
        have t5 := cy 5
        have cs := fun k => cell_block h6y k
        have s0 := cs 0
        have s1 := cs 1
        have s2 := cs 2
        have s3 := cs 3
        have s4 := cs 4
        have s5 := cs 5
        have fz := fun k => frozen_block h6y k
        have f0 := fz 0
        have f1 := fz 1
        have f2 := fz 2
        have f3 := fz 3
        have f4 := fz 4
        have f5 := fz 5
        clear cz cy cs fz
        simp only [gA, gB, gC] at v0 v1 x0 x1 x2 x3 x4 x5 t0 t1 t2 t3 t4 t5 s0 s1 s2 s3 s4 s5
        gi_wp2_with fail
        have zz := star_put h6y (.int .i64 o.many) (.int .i64 o.flaws) (.int .i64 o.lo) (.int .i64 o.hi) (.int .u64 o.some) (.int .u64 o.all)
        have hsix := six_steps (z + 1) (.int .i64 o.many) (.int .i64 o.flaws) (.int .i64 o.lo) (.int .i64 o.hi) (.int .u64 o.some) (.int .u64 o.all) wy
        generalize (((((wy.setCell ⟨z + 1, 0, none⟩ (.int .i64 o.many)).setCell ⟨z + 1, 1, none⟩ (.int .i64 o.flaws)).setCell ⟨z + 1, 2, none⟩ (.int .i64 o.lo)).setCell ⟨z + 1, 3, none⟩ (.int .i64 o.hi)).setCell ⟨z + 1, 4, none⟩ (.int .u64 o.some)).setCell ⟨z + 1, 5, none⟩ (.int .u64 o.all) = WF at zz hsix ⊢
        have hzy := hsy.size
        have hKF := hsix.obj (k := D) (by omega) (hsy.obj (k := D) (by omega) hK)
        refine imarks_ret (v := tdV o) hKF (fun X hX _ => ?_)
        have zX := hX.obj (k := z + 1) (by omega) zz
        have cX := fun k => cell_block zX k
        have r0 := cX 0
        have r1 := cX 1
        have r2 := cX 2
        have r3 := cX 3
        have r4 := cX 4
        have r5 := cX 5
        simp only [gA, gB, gC] at r0 r1 r2 r3 r4 r5
        have hzf := hsix.size
        have hrX := hX.obj (k := r) (by omega) (hsix.obj (k := r) (by omega) hry)
        have hall : Steps (fun k => k = r ∨ z ≤ k) w X :=
          (((((HST1.out.mono (own' := fun k => k = r ∨ z ≤ k) (fun _ _ h => h.elim)).trans H15 (fun _ _ h => h.elim)).trans hsW (fun k _ h => by omega)).trans hsy (fun k _ h => .inl h)).trans hsix (fun k _ h => .inr (by omega))).trans hX (fun k _ h => .inr (by omega))
        refine ⟨by simp [results, Try.results73, go_sem, r0, r1, r2, r3, r4, r5, tdV], by rw [HO.out], hall.mono (fun k hk h => by have := HZ.out; omega), ⟨_, _, hrX, fun en hen => ?_⟩⟩
        rcases Array.mem_push.1 hen with hen | rfl
        · obtain ⟨u, hu1, hu2⟩ := HES'.out en hen
          exact ⟨u, by rcases hu1 with h | h; exact .inl h.1; exact .inr (by omega), hu2⟩
        · exact ⟨(fr, used), .inr (Int.le_refl _), rfl, by rw [HO.out]⟩
  · have HG := Lib.hid (HQ.out.1 rfl)
    gi_wp2
    have hst := ((Steps.alloc (fun _ => False) w (.cells #[.int .i64 fr, .int .u64 used] 94)).trans (Steps.alloc (fun _ => False) _ (.cells #[.int .i64 g.many, .int .i64 g.flaws, .int .i64 g.lo, .int .i64 g.hi, .int .u64 g.some, .int .u64 g.all] 90)) (fun _ _ h => h)).trans (Steps.alloc (fun _ => False) _ (.cells #[.int .i64 g.many, .int .i64 g.flaws, .int .i64 g.lo, .int .i64 g.hi, .int .u64 g.some, .int .u64 g.all] 90)) (fun _ _ h => h)
    have hbx := obj_later (below_alloc _ (.cells #[.int .i64 g.many, .int .i64 g.flaws, .int .i64 g.lo, .int .i64 g.hi, .int .u64 g.some, .int .u64 g.all] 90)) (obj_new (w.alloc (.cells #[.int .i64 fr, .int .u64 used] 94)) (.cells #[.int .i64 g.many, .int .i64 g.flaws, .int .i64 g.lo, .int .i64 g.hi, .int .u64 g.some, .int .u64 g.all] 90))
    rw [World.size_alloc] at hbx
    generalize ((w.alloc (.cells #[.int .i64 fr, .int .u64 used] 94)).alloc (.cells #[.int .i64 g.many, .int .i64 g.flaws, .int .i64 g.lo, .int .i64 g.hi, .int .u64 g.some, .int .u64 g.all] 90)).alloc (.cells #[.int .i64 g.many, .int .i64 g.flaws, .int .i64 g.lo, .int .i64 g.hi, .int .u64 g.some, .int .u64 g.all] 90) = W3 at hst hbx ⊢
    have cz := fun k => cell_block hbx k
    have x0 := cz 0
    have x1 := cz 1
    have x2 := cz 2
    have x3 := cz 3
    have x4 := cz 4
    have x5 := cz 5
    simp only [gA, gB, gC] at x0 x1 x2 x3 x4 x5
    refine imarks_none (v := tdV g) ⟨?_, by rw [HG.out], hst.mono (fun _ _ h => h.elim), ⟨es, clk, hst.obj (fun h => h) hr, fun en hen => ?_⟩⟩
    · simp [results, Try.results73, go_sem, x0, x1, x2, x3, x4, x5, tdV]
    · obtain ⟨u, hu1, hu2⟩ := HES.out en hen
      exact ⟨u, .inl hu1, hu2⟩
end Go.Proofs.Ytacioedolmaofaa
namespace Go.Proofs.Ytacioedolmaofaa
open Go.RowKit Go.Shelf
attribute [local go_sem] Oper.semAt_some
set_option maxHeartbeats 6400000
set_option maxRecDepth 100000
set_option linter.unusedSimpArgs false
set_option linter.unusedVariables false

theorem ion_any (p B1 B2 B3 B4 r n : Nat) (fa : Option Addr) (fc : Nat) (ta : Option Addr) (tc : Nat) (T : List ITr) (F : Int)
    (hn : n ≤ 9) (hT : ∀ t ∈ T, t.wf n) (hlen : T.length ≤ 5000) (hc : ∀ a : Int, (T.filter fun t => decide (t.a = a)).length ≤ 100) : ∀ (m : Nat) (fr : Int) (used : Nat) (Ky : Int × Nat → Prop) (w : World), ((n : Int) - fr).toNat ≤ m → 0 ≤ fr → used < 512 →
    TellAt w p B1 B2 B3 B4 r n F fa fc ta tc T → KnownT w r T n F Ky →
    Calls Try.prog 73 #[stV (fr, used), .pointer (some ⟨B1, 0, none⟩), .pointer (some ⟨B2, 0, none⟩), .pointer (some ⟨B3, 0, none⟩), .pointer (some ⟨B4, 0, none⟩)] w (OnP r n T F fr used Ky w) := by
  intro m
  induction m with
  | zero =>
    intro fr used Ky w hm h0 hu hat hk
    exact ion_step p B1 B2 B3 B4 r n fa fc ta tc T F fr used Ky w hat hk hn hT hlen hc h0 hu (fun fr' used' Ky0 wq _ _ h1 h2 _ => by omega)
  | succ m ih =>
    intro fr used Ky w hm h0 hu hat hk
    exact ion_step p B1 B2 B3 B4 r n fa fc ta tc T F fr used Ky w hat hk hn hT hlen hc h0 hu (fun fr' used' Ky0 wq ha hkk h1 h2 h3 => ih fr' used' Ky0 wq (by omega) (by omega) h3 ha hkk)

/-- What 'tell' returns. -/
def TellPost (p n : Nat) (F : Int) (fa : Option Addr) (fc : Nat) (ta : Option Addr) (tc : Nat) (T : List ITr) (w : World) (e : Ending) (w' : World) : Prop :=
  ∃ B1 B2 B3 B4 r, e = .returned (onV B1 B2 B3 B4) ∧ TellAt w' p B1 B2 B3 B4 r n F fa fc ta tc T ∧ KnownT w' r T n F (fun _ => False) ∧ w.heap.size ≤ r ∧ Below w.heap.size w w'
theorem itell_any (p n : Nat) (F : Int) (fa : Option Addr) (fc : Nat) (ta : Option Addr) (tc : Nat) (T : List ITr) (w : World) (h14 : w.cell? ⟨p, 14, none⟩ = some (.slice fa n fc)) (h15 : w.cell? ⟨p, 15, none⟩ = some (.slice ta T.length tc)) (htr : TrSl w ta T) (htb : ∀ a, ta = some a → a.block < w.heap.size) :
    Calls Try.prog 44 #[.pointer (some ⟨p, 0, none⟩), .int .i64 F] w (TellPost p n F fa fc ta tc T w) := by
  go_enter Try.func44, Try.ntmps44
  have hmm := @run_makeMap Try.prog
  go_wp2
  have hst : Steps (fun _ => False) w (((((w.alloc (.cells #[.pointer (some ⟨p, 0, none⟩)] 77)).alloc (.cells #[.int .i64 F] 3)).alloc (.map #[] 0)).alloc (.cells #[.map (some (w.heap.size + 2))] 127)).alloc (.cells #[onV (w.heap.size + 3) w.heap.size (w.heap.size + 1) (w.heap.size + 4)] 91)) :=
    ((((Steps.alloc _ w _).trans (Steps.alloc (fun _ => False) _ _) (fun _ _ h => h)).trans (Steps.alloc (fun _ => False) _ _) (fun _ _ h => h)).trans (Steps.alloc (fun _ => False) _ _) (fun _ _ h => h)).trans (Steps.alloc (fun _ => False) _ _) (fun _ _ h => h)
  obtain ⟨W, hW⟩ : ∃ W, (((((w.alloc (.cells #[.pointer (some ⟨p, 0, none⟩)] 77)).alloc (.cells #[.int .i64 F] 3)).alloc (.map #[] 0)).alloc (.cells #[.map (some (w.heap.size + 2))] 127)).alloc (.cells #[onV (w.heap.size + 3) w.heap.size (w.heap.size + 1) (w.heap.size + 4)] 91)) = W := ⟨_, rfl⟩
  have g0 : W.heap[w.heap.size]? = some (.cells #[.pointer (some ⟨p, 0, none⟩)] 77) := by rw [← hW]; simp only [alloc_get, World.size_alloc]; repeat (first | exact if_pos trivial | exact if_pos (by omega) | rw [if_neg (by omega)])
  have g1 : W.heap[w.heap.size + 1]? = some (.cells #[.int .i64 F] 3) := by rw [← hW]; simp only [alloc_get, World.size_alloc]; repeat (first | exact if_pos trivial | exact if_pos (by omega) | rw [if_neg (by omega)])
  have g2 : W.heap[w.heap.size + 2]? = some (.map #[] 0) := by rw [← hW]; simp only [alloc_get, World.size_alloc]; repeat (first | exact if_pos trivial | exact if_pos (by omega) | rw [if_neg (by omega)])
  have g3 : W.heap[w.heap.size + 3]? = some (.cells #[.map (some (w.heap.size + 2))] 127) := by rw [← hW]; simp only [alloc_get, World.size_alloc]; repeat (first | exact if_pos trivial | exact if_pos (by omega) | rw [if_neg (by omega)])
  have g4 : W.heap[w.heap.size + 4]? = some (.cells #[onV (w.heap.size + 3) w.heap.size (w.heap.size + 1) (w.heap.size + 4)] 91) := by rw [← hW]; simp only [alloc_get, World.size_alloc]; repeat (first | exact if_pos trivial | exact if_pos (by omega) | rw [if_neg (by omega)])
  rw [hW] at hst
  have hpost : TellPost p n F fa fc ta tc T w (.returned (onV (w.heap.size + 3) w.heap.size (w.heap.size + 1) (w.heap.size + 4))) W :=
    ⟨_, _, _, _, w.heap.size + 2, rfl, ⟨cell_block g3 0, cell_block g0 0, cell_block g1 0, cell_block g4 0, cell_apart hst (fun h => h) h14, cell_apart hst (fun h => h) h15, htr.below (hst.below (Nat.le_refl _) (fun _ _ h => h)) (Nat.le_refl _), fun a ha => Nat.lt_of_lt_of_le (htb a ha) hst.size⟩,
      ⟨#[], 0, g2, fun en hen => by simp at hen⟩, by omega, hst.below (Nat.le_refl _) (fun _ _ h => h)⟩
  unfold onV at hW hpost
  rw [hW]
  go_ret
  simpa [World.size_alloc] using hpost
end Go.Proofs.Ytacioedolmaofaa
namespace Go.Proofs.Ytacioedolmaofaa
open Go.RowKit Go.Shelf
attribute [local go_sem] Oper.semAt_some
set_option maxHeartbeats 6400000
set_option maxRecDepth 100000
set_option linter.unusedSimpArgs false
set_option linter.unusedVariables false

/-- What is asked of a list of trails. -/
structure TOk (T : List ITr) (n : Nat) : Prop where
  wf : ∀ t ∈ T, t.wf n
  len : T.length ≤ 5000
  cnt : ∀ a : Int, (T.filter fun t => decide (t.a = a)).length ≤ 100
theorem opC_a (s : ISheet) (a b : Int) (k : Nat) : ∀ t ∈ opC s a b k, t.a = a := by
  intro t ht
  unfold opC at ht
  obtain ⟨ht, _⟩ := List.mem_filter.1 ht
  obtain ⟨j, _, rfl⟩ := List.mem_map.1 ht
  rfl
theorem opB_a (s : ISheet) (a : Int) (k : Nat) : ∀ t ∈ opB s a k, t.a = a := by
  intro t ht
  unfold opB at ht
  obtain ⟨j, _, ht⟩ := List.mem_flatMap.1 ht
  exact opC_a s a _ _ t ht
theorem opA_cnt (s : ISheet) (hn : s.l.length ≤ 9) (a : Int) : ∀ k : Nat, ((opA s k).filter fun t => decide (t.a = a)).length ≤ if a < (k : Int) then 100 else 0 := by
  intro k
  induction k with
  | zero => simp [opA]
  | succ k ih =>
    rw [opA_succ, List.filter_append, List.length_append]
    have hb := opB_len s (k : Int) (s.l.length + 1)
    have hm : (s.l.length + 1) * (s.l.length + 1) ≤ 10 * 10 := Nat.mul_le_mul (by omega) (by omega)
    by_cases e : a = (k : Int)
    · rw [if_neg (by omega)] at ih
      rw [if_pos (by omega)]
      have := List.length_filter_le (fun t : ITr => decide (t.a = a)) (opB s (k : Int) (s.l.length + 1))
      omega
    · have h0 : (opB s (k : Int) (s.l.length + 1)).filter (fun t => decide (t.a = a)) = [] := by
        rw [List.filter_eq_nil_iff]
        intro t ht
        rw [opB_a s _ _ t ht]
        simp; omega
      rw [h0, List.length_nil]
      by_cases e2 : a < (k : Int)
      · rw [if_pos e2] at ih; rw [if_pos (by omega)]; omega
      · rw [if_neg e2] at ih; rw [if_neg (by omega)]; omega
theorem trailsOk (s : ISheet) (hn : s.l.length ≤ 9) : TOk s.trails s.l.length := by
  refine ⟨trails_wf, ?_, fun a => ?_⟩
  · have := op_len s hn s.l.length hn 0 0 0 0 (by omega) (by omega)
    rw [List.length_append, List.length_append, opA_all] at this
    omega
  · have := opA_cnt s hn a s.l.length
    rw [opA_all] at this
    split at this <;> omega
theorem TOk.filter {T : List ITr} {n : Nat} (h : TOk T n) (p : ITr → Bool) : TOk (T.filter p) n := by
  refine ⟨fun t ht => h.wf t (List.mem_filter.1 ht).1, Nat.le_trans (List.length_filter_le _ _) h.len, fun a => ?_⟩
  have e : (T.filter p).filter (fun t => decide (t.a = a)) = (T.filter fun t => decide (t.a = a)).filter p := by
    rw [List.filter_filter, List.filter_filter]
    congr 1
    funext t
    exact Bool.and_comm _ _
  rw [e]
  exact Nat.le_trans (List.length_filter_le _ _) (h.cnt a)

theorem SheetAt.c14 {w : World} {p : Nat} {s : ISheet} {fa : Option Addr} {fc : Nat} {ta : Option Addr} {tc : Nat} {T : List ITr} (h : SheetAt w p s fa fc ta tc T) : w.cell? ⟨p, 14, none⟩ = some (.slice fa s.l.length fc) := cell_block h.sh 14
theorem SheetAt.c15 {w : World} {p : Nat} {s : ISheet} {fa : Option Addr} {fc : Nat} {ta : Option Addr} {tc : Nat} {T : List ITr} (h : SheetAt w p s fa fc ta tc T) : w.cell? ⟨p, 15, none⟩ = some (.slice ta T.length tc) := cell_block h.sh 15
theorem SheetAt.at' {w : World} {p : Nat} {s : ISheet} {fa : Option Addr} {fc : Nat} {ta : Option Addr} {tc : Nat} {T : List ITr} (h : SheetAt w p s fa fc ta tc T) : ShAt w p s fa fc := ShAt.of h.sh
theorem SheetAt.later {w w' : World} {p : Nat} {s : ISheet} {fa : Option Addr} {fc : Nat} {ta : Option Addr} {tc : Nat} {T : List ITr} (h : SheetAt w p s fa fc ta tc T) (hb : Below w.heap.size w w') : SheetAt w' p s fa fc ta tc T :=
  ⟨obj_later hb h.sh, h.im.below hb (Nat.le_refl _), h.tr.below hb (Nat.le_refl _), fun a ha => Nat.lt_of_lt_of_le (h.tb a ha) hb.size, h.tp⟩
theorem SheetAt.steps {A C : World} {p : Nat} {s : ISheet} {fa : Option Addr} {fc : Nat} {ta : Option Addr} {tc : Nat} {T : List ITr} {own : Nat → Prop} (h : SheetAt A p s fa fc ta tc T) (hs : Steps own A C) (ho : ∀ k, own k → k < p) (hl : ImSl C fa s.l) : SheetAt C p s fa fc ta tc T :=
  ⟨hs.obj (fun e => by have := ho _ e; omega) h.sh, hl, fun k hk => by
    obtain ⟨b, o, ha, hlt, hx⟩ := h.tr k hk
    have := h.tp _ ha
    dsimp only at this
    exact ⟨b, o, ha, Nat.lt_of_lt_of_le hlt hs.size, hx.same (hs.block b hlt (fun e => by have := ho _ e; omega))⟩, fun a ha => Nat.lt_of_lt_of_le (h.tb a ha) hs.size, h.tp⟩

/-- What is told from a state on, no matter what is known. -/
theorem ion_from {p B1 B2 B3 B4 r n : Nat} {fa : Option Addr} {fc : Nat} {ta : Option Addr} {tc : Nat} {T : List ITr} {F : Int} {w : World} {Ky : Int × Nat → Prop} (hn : n ≤ 9) (hT : TOk T n) (hat : TellAt w p B1 B2 B3 B4 r n F fa fc ta tc T) (hk : KnownT w r T n F Ky) (fr : Int) (used : Nat) (h0 : 0 ≤ fr) (hu : used < 512) :
    Calls Try.prog 73 #[.agg #[.int .i64 fr, .int .u64 used], .pointer (some ⟨B1, 0, none⟩), .pointer (some ⟨B2, 0, none⟩), .pointer (some ⟨B3, 0, none⟩), .pointer (some ⟨B4, 0, none⟩)] w (OnP r n T F fr used Ky w) :=
  ion_any p B1 B2 B3 B4 r n fa fc ta tc T F hn hT.wf hT.len hT.cnt _ fr used _ w (Nat.le_refl _) h0 hu hat hk

theorem tfield0 (a b c d e f : Value) (w : World) : (Instr.field 90 (.agg #[a, b, c, d, e, f]) 0).run Try.prog w = .ok a w := by kernel_rfl
theorem tfield1 (a b c d e f : Value) (w : World) : (Instr.field 90 (.agg #[a, b, c, d, e, f]) 1).run Try.prog w = .ok b w := by kernel_rfl
def itCount (s : ISheet) : Int × Int := if s.ok then (((tellN s.trails s.l.length s.flaws 0 0).many : Int), 0) else (0, 1)
def itNeeds (s : ISheet) : Int × Int := if s.ok then ((tellN s.trails s.l.length s.l.length 0 0).flaws, 0) else (0, 1)
def itFits (s : ISheet) (t : ITr) : Bool × Int := if s.ok then (if t.ok s.l.length then ((s.star t).isSome, 0) else (false, 2)) else (false, 1)

theorem iCount_any (s : ISheet) (fa : Option Addr) (fc : Nat) (w : World) (hl : ImSl w fa s.l) (hlen : s.l.length < 9223372036854775807) :
    Calls Try.prog 15 #[.agg #[.int .i64 s.ax.lo, .int .i64 s.ax.hi, .int .i64 s.ay.lo, .int .i64 s.ay.hi, .int .i64 s.bx.lo, .int .i64 s.bx.hi, .int .i64 s.by'.lo, .int .i64 s.by'.hi, .int .i64 s.f.lo, .int .i64 s.f.hi, .int .i64 s.g.lo, .int .i64 s.g.hi, .int .i64 s.limit, .int .i64 s.flaws, .slice fa s.l.length fc]] w fun e w' => e = .returned (.tuple #[.int .i64 (itCount s).1, .int .i64 (itCount s).2]) ∧ Below w.heap.size w w' := by
  obtain ⟨rv, hrv⟩ : ∃ rv, itCount s = rv := ⟨_, rfl⟩
  rw [hrv]
  have HRV := Lib.hid hrv
  clear hrv
  unfold itCount at HRV
  go_enter Try.func15, Try.ntmps15
  go_wp2_with fail
  obtain ⟨W0, hW0⟩ : ∃ W, (w.alloc (.cells #[.int .i64 s.ax.lo, .int .i64 s.ax.hi, .int .i64 s.ay.lo, .int .i64 s.ay.hi, .int .i64 s.bx.lo, .int .i64 s.bx.hi, .int .i64 s.by'.lo, .int .i64 s.by'.hi, .int .i64 s.f.lo, .int .i64 s.f.hi, .int .i64 s.g.lo, .int .i64 s.g.hi, .int .i64 s.limit, .int .i64 s.flaws, .slice fa s.l.length fc] 30)) = W := ⟨_, rfl⟩
  rw [hW0]
  try simp only [Nat.add_assoc, Nat.reduceAdd]
  have hst_W0 : Steps (fun _ => False) w W0 := by rw [← hW0]; exact Steps.alloc _ w _
  have hz_W0 : W0.heap.size = w.heap.size + 1 := by rw [← hW0]; simp
  have g0_W0 : W0.heap[w.heap.size]? = some (.cells #[.int .i64 s.ax.lo, .int .i64 s.ax.hi, .int .i64 s.ay.lo, .int .i64 s.ay.hi, .int .i64 s.bx.lo, .int .i64 s.bx.hi, .int .i64 s.by'.lo, .int .i64 s.by'.hi, .int .i64 s.f.lo, .int .i64 s.f.hi, .int .i64 s.g.lo, .int .i64 s.g.hi, .int .i64 s.limit, .int .i64 s.flaws, .slice fa s.l.length fc] 30) := by rw [← hW0]; simp only [alloc_get, World.size_alloc]; repeat (first | exact if_pos trivial | exact if_pos (by omega) | rw [if_neg (by omega)])
  clear hW0
  have hb0 : Below w.heap.size w W0 := hst_W0.below (Nat.le_refl _) (fun _ _ h => h)
  have hl0 := hl.below hb0 (Nat.le_refl _)
  refine (iopen_any s fa fc W0 hl0 hlen).mono ?_
  rintro e w1 ⟨hb1, h1⟩
  have hB1 := hb0.trans (hb1.mono hb0.size)
  have hx1 := obj_later hb1 g0_W0
  have hz0 : w.heap.size < W0.heap.size := by omega
  by_cases hok : s.ok = true
  · rw [if_pos hok] at h1
    have hrv := HRV.out
    rw [if_pos hok] at hrv
    have hn9 : s.l.length ≤ 9 := ((iok_iff s).1 hok).2.2.2.2.2.2.2.2.2
    obtain ⟨p, ta, tc, rfl, hp, hS⟩ := h1
    have c13 := cell_block hx1 13
    have c14 := cell_block hx1 14
    try simp only [gA, gB, gC] at c13 c14
    have hti := itell_any p s.l.length s.flaws fa fc ta tc s.trails w1 hS.c14 hS.c15 hS.tr hS.tb
    have hz1 := hb1.size
    clear HRV hx1 g0_W0 hst_W0 hz_W0 hb0 hl0 hb1
    go_wp2_with fail
    refine hti.mono ?_
    rintro e w2 ⟨B1, B2, B3, B4, r, rfl, hat, hkn, hr, hb2⟩
    have hon := ion_from hn9 (trailsOk s hn9) hat hkn 0 0 (Int.le_refl _) (by decide)
    unfold onV
    go_wp2_with fail
    refine hon.mono ?_
    rintro e w3 ⟨rfl, hs3, _⟩
    unfold tdV
    have hB3 := hB1.trans ((hb2.mono (by omega : w.heap.size ≤ w1.heap.size)).trans (hs3.below (B := w.heap.size) (by have := hb2.size; omega) (fun k hk h => by omega)))
    have hv1 : (tellN s.trails s.l.length s.flaws 0 0).many = rv.1 := by rw [← hrv]
    have hv2 : (0 : Int) = rv.2 := by rw [← hrv]
    have HV := Lib.hid (And.intro hv1 hv2)
    clear hv1 hv2 hrv
    have tf := tfield0 (.int .i64 (tellN s.trails s.l.length s.flaws 0 0).many) (.int .i64 (tellN s.trails s.l.length s.flaws 0 0).flaws) (.int .i64 (tellN s.trails s.l.length s.flaws 0 0).lo) (.int .i64 (tellN s.trails s.l.length s.flaws 0 0).hi) (.int .u64 (tellN s.trails s.l.length s.flaws 0 0).some) (.int .u64 (tellN s.trails s.l.length s.flaws 0 0).all)
    go_wp2_with fail
    go_ret2
    exact ⟨by rw [← HV.out.1, ← HV.out.2]; rfl, hB3⟩
  · rw [if_neg hok] at h1
    have hrv := HRV.out
    rw [if_neg hok] at hrv
    subst h1
    subst hrv
    go_wp2_with fail
    go_ret2
    exact ⟨rfl, hB1⟩

theorem iNeeds_any (s : ISheet) (fa : Option Addr) (fc : Nat) (w : World) (hl : ImSl w fa s.l) (hlen : s.l.length < 9223372036854775807) :
    Calls Try.prog 17 #[.agg #[.int .i64 s.ax.lo, .int .i64 s.ax.hi, .int .i64 s.ay.lo, .int .i64 s.ay.hi, .int .i64 s.bx.lo, .int .i64 s.bx.hi, .int .i64 s.by'.lo, .int .i64 s.by'.hi, .int .i64 s.f.lo, .int .i64 s.f.hi, .int .i64 s.g.lo, .int .i64 s.g.hi, .int .i64 s.limit, .int .i64 s.flaws, .slice fa s.l.length fc]] w fun e w' => e = .returned (.tuple #[.int .i64 (itNeeds s).1, .int .i64 (itNeeds s).2]) ∧ Below w.heap.size w w' := by
  obtain ⟨rv, hrv⟩ : ∃ rv, itNeeds s = rv := ⟨_, rfl⟩
  rw [hrv]
  have HRV := Lib.hid hrv
  clear hrv
  unfold itNeeds at HRV
  go_enter Try.func17, Try.ntmps17
  go_wp2_with fail
  obtain ⟨W0, hW0⟩ : ∃ W, (w.alloc (.cells #[.int .i64 s.ax.lo, .int .i64 s.ax.hi, .int .i64 s.ay.lo, .int .i64 s.ay.hi, .int .i64 s.bx.lo, .int .i64 s.bx.hi, .int .i64 s.by'.lo, .int .i64 s.by'.hi, .int .i64 s.f.lo, .int .i64 s.f.hi, .int .i64 s.g.lo, .int .i64 s.g.hi, .int .i64 s.limit, .int .i64 s.flaws, .slice fa s.l.length fc] 30)) = W := ⟨_, rfl⟩
  rw [hW0]
  try simp only [Nat.add_assoc, Nat.reduceAdd]
  have hst_W0 : Steps (fun _ => False) w W0 := by rw [← hW0]; exact Steps.alloc _ w _
  have hz_W0 : W0.heap.size = w.heap.size + 1 := by rw [← hW0]; simp
  have g0_W0 : W0.heap[w.heap.size]? = some (.cells #[.int .i64 s.ax.lo, .int .i64 s.ax.hi, .int .i64 s.ay.lo, .int .i64 s.ay.hi, .int .i64 s.bx.lo, .int .i64 s.bx.hi, .int .i64 s.by'.lo, .int .i64 s.by'.hi, .int .i64 s.f.lo, .int .i64 s.f.hi, .int .i64 s.g.lo, .int .i64 s.g.hi, .int .i64 s.limit, .int .i64 s.flaws, .slice fa s.l.length fc] 30) := by rw [← hW0]; simp only [alloc_get, World.size_alloc]; repeat (first | exact if_pos trivial | exact if_pos (by omega) | rw [if_neg (by omega)])
  clear hW0
  have hb0 : Below w.heap.size w W0 := hst_W0.below (Nat.le_refl _) (fun _ _ h => h)
  have hl0 := hl.below hb0 (Nat.le_refl _)
  refine (iopen_any s fa fc W0 hl0 hlen).mono ?_
  rintro e w1 ⟨hb1, h1⟩
  have hB1 := hb0.trans (hb1.mono hb0.size)
  have hx1 := obj_later hb1 g0_W0
  have hz0 : w.heap.size < W0.heap.size := by omega
  by_cases hok : s.ok = true
  · rw [if_pos hok] at h1
    have hrv := HRV.out
    rw [if_pos hok] at hrv
    have hn9 : s.l.length ≤ 9 := ((iok_iff s).1 hok).2.2.2.2.2.2.2.2.2
    obtain ⟨p, ta, tc, rfl, hp, hS⟩ := h1
    have c13 := cell_block hx1 13
    have c14 := cell_block hx1 14
    try simp only [gA, gB, gC] at c13 c14
    have hti := itell_any p s.l.length (s.l.length : Int) fa fc ta tc s.trails w1 hS.c14 hS.c15 hS.tr hS.tb
    have hz1 := hb1.size
    clear HRV hx1 g0_W0 hst_W0 hz_W0 hb0 hl0 hb1
    go_wp2_with fail
    refine hti.mono ?_
    rintro e w2 ⟨B1, B2, B3, B4, r, rfl, hat, hkn, hr, hb2⟩
    have hon := ion_from hn9 (trailsOk s hn9) hat hkn 0 0 (Int.le_refl _) (by decide)
    unfold onV
    go_wp2_with fail
    refine hon.mono ?_
    rintro e w3 ⟨rfl, hs3, _⟩
    unfold tdV
    have hB3 := hB1.trans ((hb2.mono (by omega : w.heap.size ≤ w1.heap.size)).trans (hs3.below (B := w.heap.size) (by have := hb2.size; omega) (fun k hk h => by omega)))
    have hv1 : (tellN s.trails s.l.length (s.l.length : Int) 0 0).flaws = rv.1 := by rw [← hrv]
    have hv2 : (0 : Int) = rv.2 := by rw [← hrv]
    have HV := Lib.hid (And.intro hv1 hv2)
    clear hv1 hv2 hrv
    have tf := tfield1 (.int .i64 (tellN s.trails s.l.length (s.l.length : Int) 0 0).many) (.int .i64 (tellN s.trails s.l.length (s.l.length : Int) 0 0).flaws) (.int .i64 (tellN s.trails s.l.length (s.l.length : Int) 0 0).lo) (.int .i64 (tellN s.trails s.l.length (s.l.length : Int) 0 0).hi) (.int .u64 (tellN s.trails s.l.length (s.l.length : Int) 0 0).some) (.int .u64 (tellN s.trails s.l.length (s.l.length : Int) 0 0).all)
    go_wp2_with fail
    go_ret2
    exact ⟨by rw [← HV.out.1, ← HV.out.2]; rfl, hB3⟩
  · rw [if_neg hok] at h1
    have hrv := HRV.out
    rw [if_neg hok] at hrv
    subst h1
    subst hrv
    go_wp2_with fail
    go_ret2
    exact ⟨rfl, hB1⟩

theorem iFits_any (s : ISheet) (fa : Option Addr) (fc : Nat) (t : ITr) (w : World) (hl : ImSl w fa s.l) (hlen : s.l.length < 9223372036854775807) :
    Calls Try.prog 13 #[.agg #[.int .i64 s.ax.lo, .int .i64 s.ax.hi, .int .i64 s.ay.lo, .int .i64 s.ay.hi, .int .i64 s.bx.lo, .int .i64 s.bx.hi, .int .i64 s.by'.lo, .int .i64 s.by'.hi, .int .i64 s.f.lo, .int .i64 s.f.hi, .int .i64 s.g.lo, .int .i64 s.g.hi, .int .i64 s.limit, .int .i64 s.flaws, .slice fa s.l.length fc], .agg #[.int .i64 t.a, .int .i64 t.b, .int .i64 t.c]] w fun e w' => e = .returned (.tuple #[.bool (itFits s t).1, .int .i64 (itFits s t).2]) ∧ Below w.heap.size w w' := by
  obtain ⟨rv, hrv⟩ : ∃ rv, itFits s t = rv := ⟨_, rfl⟩
  rw [hrv]
  have HRV := Lib.hid hrv
  clear hrv
  unfold itFits at HRV
  go_enter Try.func13, Try.ntmps13
  go_wp2_with fail
  obtain ⟨W0, hW0⟩ : ∃ W, ((w.alloc (.cells #[.int .i64 s.ax.lo, .int .i64 s.ax.hi, .int .i64 s.ay.lo, .int .i64 s.ay.hi, .int .i64 s.bx.lo, .int .i64 s.bx.hi, .int .i64 s.by'.lo, .int .i64 s.by'.hi, .int .i64 s.f.lo, .int .i64 s.f.hi, .int .i64 s.g.lo, .int .i64 s.g.hi, .int .i64 s.limit, .int .i64 s.flaws, .slice fa s.l.length fc] 30)).alloc (.cells #[.int .i64 t.a, .int .i64 t.b, .int .i64 t.c] 32)) = W := ⟨_, rfl⟩
  rw [hW0]
  try simp only [Nat.add_assoc, Nat.reduceAdd]
  have hst_W0 : Steps (fun _ => False) w W0 := by rw [← hW0]; exact (Steps.alloc _ w _).trans (Steps.alloc (fun _ => False) _ _) (fun _ _ h => h)
  have hz_W0 : W0.heap.size = w.heap.size + 2 := by rw [← hW0]; simp
  have g0_W0 : W0.heap[w.heap.size]? = some (.cells #[.int .i64 s.ax.lo, .int .i64 s.ax.hi, .int .i64 s.ay.lo, .int .i64 s.ay.hi, .int .i64 s.bx.lo, .int .i64 s.bx.hi, .int .i64 s.by'.lo, .int .i64 s.by'.hi, .int .i64 s.f.lo, .int .i64 s.f.hi, .int .i64 s.g.lo, .int .i64 s.g.hi, .int .i64 s.limit, .int .i64 s.flaws, .slice fa s.l.length fc] 30) := by rw [← hW0]; simp only [alloc_get, World.size_alloc]; repeat (first | exact if_pos trivial | exact if_pos (by omega) | rw [if_neg (by omega)])
  have g1_W0 : W0.heap[w.heap.size + 1]? = some (.cells #[.int .i64 t.a, .int .i64 t.b, .int .i64 t.c] 32) := by rw [← hW0]; simp only [alloc_get, World.size_alloc]; repeat (first | exact if_pos trivial | exact if_pos (by omega) | rw [if_neg (by omega)])
  clear hW0
  have hb0 : Below w.heap.size w W0 := hst_W0.below (Nat.le_refl _) (fun _ _ h => h)
  have hl0 := hl.below hb0 (Nat.le_refl _)
  refine (iopen_any s fa fc W0 hl0 hlen).mono ?_
  rintro e w1 ⟨hb1, h1⟩
  have hB1 := hb0.trans (hb1.mono hb0.size)
  have hx1 := obj_later hb1 g0_W0
  have hz0 : w.heap.size < W0.heap.size := by omega
  have hy1 := obj_later hb1 g1_W0
  by_cases hok : s.ok = true
  · rw [if_pos hok] at h1
    have hrv := HRV.out
    rw [if_pos hok] at hrv
    have hn9 : s.l.length ≤ 9 := ((iok_iff s).1 hok).2.2.2.2.2.2.2.2.2
    obtain ⟨p, ta, tc, rfl, hp, hS⟩ := h1
    have y0 := cell_block hy1 0
    have y1 := cell_block hy1 1
    have y2 := cell_block hy1 2
    simp only [gA, gB, gC] at y0 y1 y2
    clear HRV hx1 g0_W0 g1_W0 hst_W0 hz_W0 hb0 hl0 hb1
    have HR := Lib.hid hrv
    clear hrv
    go_wp2_with fail
    refine (iisTrail_any p s.l.length fc fa t w1 hS.c14 hn9).mono ?_
    rintro e w2 ⟨rfl, hb2⟩
    have hB2 := hB1.trans (hb2.mono hB1.size)
    have hS2 := hS.later hb2
    have hy2 := obj_later hb2 hy1
    have v0 := cell_block hy2 0
    have v1 := cell_block hy2 1
    have v2 := cell_block hy2 2
    simp only [gA, gB, gC] at v0 v1 v2
    clear y0 y1 y2 hb2 hS hy1
    cases htk : t.ok s.l.length
    · have hrv := HR.out
      rw [htk] at hrv
      have HR := Lib.hid hrv
      clear hrv htk
      go_wp2_with fail
      go_ret2
      exact ⟨by rw [← HR.out]; rfl, hB2⟩
    · have hrv := HR.out
      rw [htk] at hrv
      have HR := Lib.hid hrv
      clear hrv
      go_wp2_with fail
      refine (istar_any p fc fa s t w2 hok htk hS2.at' hS2.im).mono ?_
      rintro e w3 ⟨rfl, hb3⟩
      rw [star_same hok]
      have hB3 := hB2.trans (hb3.mono hB2.size)
      clear v0 v1 v2 hy2 hb3 htk
      cases hst : s.star t with
      | none =>
        have hrv := HR.out
        rw [hst] at hrv
        have HR := Lib.hid hrv
        clear hrv hst
        unfold starV
        go_wp2_with fail
        go_ret2
        exact ⟨by rw [← HR.out]; rfl, hB3.alloc hB3.size _⟩
      | some o =>
        have hrv := HR.out
        rw [hst] at hrv
        have HR := Lib.hid hrv
        clear hrv hst
        unfold starV
        go_wp2_with fail
        go_ret2
        exact ⟨by rw [← HR.out]; rfl, hB3.alloc hB3.size _⟩
  · rw [if_neg hok] at h1
    have hrv := HRV.out
    rw [if_neg hok] at hrv
    subst h1
    subst hrv
    go_wp2_with fail
    go_ret2
    exact ⟨rfl, hB1⟩
end Go.Proofs.Ytacioedolmaofaa
