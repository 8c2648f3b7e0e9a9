/- The closures of traits. The reference of layer 2: its small functions. -/
import Derived.Test.YtacioedolmaofaaLBA7
import Derived.Test.YtacioedolmaofaaLBA6
namespace Go.Proofs.Ytacioedolmaofaa
open Go.RowKit Go.Shelf
set_option maxHeartbeats 3200000
set_option maxRecDepth 100000
set_option linter.unusedSimpArgs false
set_option linter.unusedVariables false

/-- No end of it is large. -/
def Sp.small (s : Sp) : Prop := (-4000000 ≤ s.lo ∧ s.lo ≤ 4000000) ∧ (-4000000 ≤ s.hi ∧ s.hi ≤ 4000000)

theorem itr_back (x d : Sp) (w : World) (hx : x.small) (hd : d.small) :
    Calls Try.prog 84 #[.agg #[.int .i64 x.lo, .int .i64 x.hi], .agg #[.int .i64 d.lo, .int .i64 d.hi]] w fun e w' => e = .returned (.agg #[.int .i64 (x.less d).lo, .int .i64 (x.less d).hi]) ∧ Below w.heap.size w w' := by
  obtain ⟨⟨x1, x2⟩, ⟨x3, x4⟩⟩ := hx
  obtain ⟨⟨d1, d2⟩, ⟨d3, d4⟩⟩ := hd
  go_enter Try.func84, Try.ntmps84
  go_wp2
  obtain ⟨W0, hW0⟩ : ∃ W, (((w.alloc (.cells #[.int .i64 x.lo, .int .i64 x.hi] 82)).alloc (.cells #[.int .i64 d.lo, .int .i64 d.hi] 23)).alloc (.cells #[.int .i64 (x.lo - d.hi), .int .i64 (x.hi - d.lo)] 82)) = W := ⟨_, rfl⟩
  rw [hW0]
  try simp only [Nat.add_assoc, Nat.reduceAdd]
  have hst_W0 : Steps (fun _ => False) w W0 := by rw [← hW0]; exact ((Steps.alloc _ w _).trans (Steps.alloc (fun _ => False) _ _) (fun _ _ h => h)).trans (Steps.alloc (fun _ => False) _ _) (fun _ _ h => h)
  have hz_W0 : W0.heap.size = w.heap.size + 3 := by rw [← hW0]; simp
  have g0_W0 : W0.heap[w.heap.size]? = some (.cells #[.int .i64 x.lo, .int .i64 x.hi] 82) := by rw [← hW0]; simp only [alloc_get, World.size_alloc]; repeat (first | exact if_pos trivial | exact if_pos (by omega) | rw [if_neg (by omega)])
  have g1_W0 : W0.heap[w.heap.size + 1]? = some (.cells #[.int .i64 d.lo, .int .i64 d.hi] 23) := by rw [← hW0]; simp only [alloc_get, World.size_alloc]; repeat (first | exact if_pos trivial | exact if_pos (by omega) | rw [if_neg (by omega)])
  have g2_W0 : W0.heap[w.heap.size + 2]? = some (.cells #[.int .i64 (x.lo - d.hi), .int .i64 (x.hi - d.lo)] 82) := by rw [← hW0]; simp only [alloc_get, World.size_alloc]; repeat (first | exact if_pos trivial | exact if_pos (by omega) | rw [if_neg (by omega)])
  clear hW0
  have hb0 : Below w.heap.size w W0 := hst_W0.below (Nat.le_refl _) (fun _ _ h => h)
  have c0 := cell_block g2_W0 0
  have c1 := cell_block g2_W0 1
  simp only [gA, gB, gC] at c0 c1
  exact bodyPost_ret (v := .agg #[.int .i64 (x.lo - d.hi), .int .i64 (x.hi - d.lo)]) (by simp [results, Try.results84, go_sem, c0, c1]) rfl ⟨rfl, hb0⟩

theorem itr_get2 (x : ISpot) (w : World) :
    Calls Try.prog 85 #[.agg #[.int .i64 x.x.lo, .int .i64 x.x.hi, .int .i64 x.y.lo, .int .i64 x.y.hi, .int .i64 x.s.lo, .int .i64 x.s.hi]] w fun e w' => e = .returned (.agg #[.int .i64 x.x.lo, .int .i64 x.x.hi]) ∧ Below w.heap.size w w' := by
  go_enter Try.func85, Try.ntmps85
  go_wp2
  obtain ⟨W0, hW0⟩ : ∃ W, ((w.alloc (.cells #[.int .i64 x.x.lo, .int .i64 x.x.hi, .int .i64 x.y.lo, .int .i64 x.y.hi, .int .i64 x.s.lo, .int .i64 x.s.hi] 61)).alloc (.cells #[.int .i64 x.x.lo, .int .i64 x.x.hi] 23)) = W := ⟨_, rfl⟩
  rw [hW0]
  try simp only [Nat.add_assoc, Nat.reduceAdd]
  have hst_W0 : Steps (fun _ => False) w W0 := by rw [← hW0]; exact (Steps.alloc _ w _).trans (Steps.alloc (fun _ => False) _ _) (fun _ _ h => h)
  have hz_W0 : W0.heap.size = w.heap.size + 2 := by rw [← hW0]; simp
  have g0_W0 : W0.heap[w.heap.size]? = some (.cells #[.int .i64 x.x.lo, .int .i64 x.x.hi, .int .i64 x.y.lo, .int .i64 x.y.hi, .int .i64 x.s.lo, .int .i64 x.s.hi] 61) := by rw [← hW0]; simp only [alloc_get, World.size_alloc]; repeat (first | exact if_pos trivial | exact if_pos (by omega) | rw [if_neg (by omega)])
  have g1_W0 : W0.heap[w.heap.size + 1]? = some (.cells #[.int .i64 x.x.lo, .int .i64 x.x.hi] 23) := by rw [← hW0]; simp only [alloc_get, World.size_alloc]; repeat (first | exact if_pos trivial | exact if_pos (by omega) | rw [if_neg (by omega)])
  clear hW0
  have hb0 : Below w.heap.size w W0 := hst_W0.below (Nat.le_refl _) (fun _ _ h => h)
  have c0 := cell_block g1_W0 0
  have c1 := cell_block g1_W0 1
  simp only [gA, gB, gC] at c0 c1
  exact bodyPost_ret (v := .agg #[.int .i64 x.x.lo, .int .i64 x.x.hi]) (by simp [results, Try.results85, go_sem, c0, c1]) rfl ⟨rfl, hb0⟩

theorem itr_get4 (x : ISpot) (w : World) :
    Calls Try.prog 87 #[.agg #[.int .i64 x.x.lo, .int .i64 x.x.hi, .int .i64 x.y.lo, .int .i64 x.y.hi, .int .i64 x.s.lo, .int .i64 x.s.hi]] w fun e w' => e = .returned (.agg #[.int .i64 x.y.lo, .int .i64 x.y.hi]) ∧ Below w.heap.size w w' := by
  go_enter Try.func87, Try.ntmps87
  go_wp2
  obtain ⟨W0, hW0⟩ : ∃ W, ((w.alloc (.cells #[.int .i64 x.x.lo, .int .i64 x.x.hi, .int .i64 x.y.lo, .int .i64 x.y.hi, .int .i64 x.s.lo, .int .i64 x.s.hi] 61)).alloc (.cells #[.int .i64 x.y.lo, .int .i64 x.y.hi] 23)) = W := ⟨_, rfl⟩
  rw [hW0]
  try simp only [Nat.add_assoc, Nat.reduceAdd]
  have hst_W0 : Steps (fun _ => False) w W0 := by rw [← hW0]; exact (Steps.alloc _ w _).trans (Steps.alloc (fun _ => False) _ _) (fun _ _ h => h)
  have hz_W0 : W0.heap.size = w.heap.size + 2 := by rw [← hW0]; simp
  have g0_W0 : W0.heap[w.heap.size]? = some (.cells #[.int .i64 x.x.lo, .int .i64 x.x.hi, .int .i64 x.y.lo, .int .i64 x.y.hi, .int .i64 x.s.lo, .int .i64 x.s.hi] 61) := by rw [← hW0]; simp only [alloc_get, World.size_alloc]; repeat (first | exact if_pos trivial | exact if_pos (by omega) | rw [if_neg (by omega)])
  have g1_W0 : W0.heap[w.heap.size + 1]? = some (.cells #[.int .i64 x.y.lo, .int .i64 x.y.hi] 23) := by rw [← hW0]; simp only [alloc_get, World.size_alloc]; repeat (first | exact if_pos trivial | exact if_pos (by omega) | rw [if_neg (by omega)])
  clear hW0
  have hb0 : Below w.heap.size w W0 := hst_W0.below (Nat.le_refl _) (fun _ _ h => h)
  have c0 := cell_block g1_W0 0
  have c1 := cell_block g1_W0 1
  simp only [gA, gB, gC] at c0 c1
  exact bodyPost_ret (v := .agg #[.int .i64 x.y.lo, .int .i64 x.y.hi]) (by simp [results, Try.results87, go_sem, c0, c1]) rfl ⟨rfl, hb0⟩

theorem itr_get6 (x : ISpot) (w : World) :
    Calls Try.prog 89 #[.agg #[.int .i64 x.x.lo, .int .i64 x.x.hi, .int .i64 x.y.lo, .int .i64 x.y.hi, .int .i64 x.s.lo, .int .i64 x.s.hi]] w fun e w' => e = .returned (.agg #[.int .i64 x.s.lo, .int .i64 x.s.hi]) ∧ Below w.heap.size w w' := by
  go_enter Try.func89, Try.ntmps89
  go_wp2
  obtain ⟨W0, hW0⟩ : ∃ W, ((w.alloc (.cells #[.int .i64 x.x.lo, .int .i64 x.x.hi, .int .i64 x.y.lo, .int .i64 x.y.hi, .int .i64 x.s.lo, .int .i64 x.s.hi] 61)).alloc (.cells #[.int .i64 x.s.lo, .int .i64 x.s.hi] 23)) = W := ⟨_, rfl⟩
  rw [hW0]
  try simp only [Nat.add_assoc, Nat.reduceAdd]
  have hst_W0 : Steps (fun _ => False) w W0 := by rw [← hW0]; exact (Steps.alloc _ w _).trans (Steps.alloc (fun _ => False) _ _) (fun _ _ h => h)
  have hz_W0 : W0.heap.size = w.heap.size + 2 := by rw [← hW0]; simp
  have g0_W0 : W0.heap[w.heap.size]? = some (.cells #[.int .i64 x.x.lo, .int .i64 x.x.hi, .int .i64 x.y.lo, .int .i64 x.y.hi, .int .i64 x.s.lo, .int .i64 x.s.hi] 61) := by rw [← hW0]; simp only [alloc_get, World.size_alloc]; repeat (first | exact if_pos trivial | exact if_pos (by omega) | rw [if_neg (by omega)])
  have g1_W0 : W0.heap[w.heap.size + 1]? = some (.cells #[.int .i64 x.s.lo, .int .i64 x.s.hi] 23) := by rw [← hW0]; simp only [alloc_get, World.size_alloc]; repeat (first | exact if_pos trivial | exact if_pos (by omega) | rw [if_neg (by omega)])
  clear hW0
  have hb0 : Below w.heap.size w W0 := hst_W0.below (Nat.le_refl _) (fun _ _ h => h)
  have c0 := cell_block g1_W0 0
  have c1 := cell_block g1_W0 1
  simp only [gA, gB, gC] at c0 c1
  exact bodyPost_ret (v := .agg #[.int .i64 x.s.lo, .int .i64 x.s.hi]) (by simp [results, Try.results89, go_sem, c0, c1]) rfl ⟨rfl, hb0⟩

theorem itr_moved3_1 (p g fc : Nat) (fa : Option Addr) (s : ISheet) (x : Sp) (w : World) (hs : ShAt w p s fa fc) (hg : w.cell? ⟨g, 0, none⟩ = some (.func (.func 84) #[] #[])) (hx : x.small) (hd : s.ax.small) :
    Calls Try.prog 86 #[.pointer (some ⟨p, 0, none⟩), .int .i64 1, .agg #[.int .i64 x.lo, .int .i64 x.hi], .pointer (some ⟨g, 0, none⟩)] w fun e w' => e = .returned (.agg #[.int .i64 (x.less s.ax).lo, .int .i64 (x.less s.ax).hi]) ∧ Below w.heap.size w w' := by
  have hp := hs.lt
  have hgl := World.block_lt_of_cell? w _ hg
  have c0 := hs.c0
  have c1 := hs.c1
  go_enter Try.func86, Try.ntmps86
  go_upto_region 1 with fail
  obtain ⟨W0, hW0⟩ : ∃ W, ((w.alloc (.cells #[.int .i64 x.lo, .int .i64 x.hi] 82)).alloc (.cells #[.int .i64 0, .int .i64 0] 82)) = W := ⟨_, rfl⟩
  rw [hW0]
  try simp only [Nat.add_assoc, Nat.reduceAdd]
  have hst_W0 : Steps (fun _ => False) w W0 := by rw [← hW0]; exact (Steps.alloc _ w _).trans (Steps.alloc (fun _ => False) _ _) (fun _ _ h => h)
  have hz_W0 : W0.heap.size = w.heap.size + 2 := by rw [← hW0]; simp
  have g0_W0 : W0.heap[w.heap.size]? = some (.cells #[.int .i64 x.lo, .int .i64 x.hi] 82) := by rw [← hW0]; simp only [alloc_get, World.size_alloc]; repeat (first | exact if_pos trivial | exact if_pos (by omega) | rw [if_neg (by omega)])
  have g1_W0 : W0.heap[w.heap.size + 1]? = some (.cells #[.int .i64 0, .int .i64 0] 82) := by rw [← hW0]; simp only [alloc_get, World.size_alloc]; repeat (first | exact if_pos trivial | exact if_pos (by omega) | rw [if_neg (by omega)])
  clear hW0
  have hb0 : Below w.heap.size w W0 := hst_W0.below (Nat.le_refl _) (fun _ _ h => h)
  have d0 := cell_later hb0 c0
  have d1 := cell_later hb0 c1
  have dg := cell_later hb0 hg
  have x0 := cell_block g0_W0 0
  have x1 := cell_block g0_W0 1
  simp only [gA, gB, gC] at x0 x1
  obtain ⟨b, hb⟩ : ∃ b, w.heap.size = b := ⟨_, rfl⟩
  have hpb : p < b := by rw [← hb]; exact hp
  have hgb : g < b := by rw [← hb]; exact hgl
  have hW0 : b + 2 = W0.heap.size := by rw [hz_W0, hb]
  rw [hb] at g1_W0 x0 x1 hb0
  try rw [hb]
  clear g0_W0 hst_W0 hz_W0 c0 c1 hg hs hp hgl
  have HW := Lib.hid hW0
  have HBS := Lib.hid hb
  clear hW0 hb
  have hld : ∀ (q o : Nat) (v : Value), W0.cell? ⟨q, o, none⟩ = some v → q < b + 1 → ∀ W, Below (b + 1) W0 W → W.cell? ⟨q, o, none⟩ = some v := fun q o v h hq W hW => (hW.cell (p := ⟨q, o, none⟩) hq).trans h
  have D0 := hld _ _ _ d0 (by omega)
  have D1 := hld _ _ _ d1 (by omega)
  have DG := hld _ _ _ dg (by omega)
  have X0 := hld _ _ _ x0 (by omega)
  have X1 := hld _ _ _ x1 (by omega)
  clear d0 d1 dg x0 x1 hld
  have hw0 : IntKind.i64.wrap 0 = 0 := by decide
  have hw1 : IntKind.i64.wrap 1 = 1 := by decide
  refine (wpIn_wide (n := 1)).1 ?_
  refine wpIn_region_Wn (S := Below (b + 1) W0) 13 (by kernel_rfl) (by kernel_rfl) (Below.refl _ _).drew (fun hHeld => ?_)
  refine wTk 0 8 ?_ ?_ ?_
  rotate_left
  · intro o h w k; (try dsimp only at k); simp only [gA, gB, gC, gG] at h; subst h; go_simp; try with_reducible rfl
  simp only [Act.put, gD, gE, gF]
  refine wTk 1 9 ?_ ?_ ?_
  rotate_left
  · intro o h w k; (try dsimp only at k); simp only [gA, gB, gC, gG] at h; subst h; go_simp; try with_reducible rfl
  simp only [Act.put, gD, gE, gF]
  refine wTk 2 10 ?_ ?_ ?_
  rotate_left
  · intro o h w k; (try dsimp only at k); simp only [gA, gB, gC, gG] at h; subst h; go_simp; try with_reducible rfl
  simp only [Act.put, gD, gE, gF]
  refine wTk 3 11 ?_ ?_ ?_
  rotate_left
  · intro o h w k; (try dsimp only at k); simp only [gA, gB, gC, gG] at h; subst h; go_simp; try with_reducible rfl
  simp only [Act.put, gD, gE, gF]
  refine wTk 4 12 ?_ ?_ ?_
  rotate_left
  · intro o h w k; (try dsimp only at k); simp only [gA, gB, gC, gG] at h; subst h; go_simp; try with_reducible rfl
  simp only [Act.put, gD, gE, gF]
  refine wTk 5 13 ?_ ?_ ?_
  rotate_left
  · intro o h w k; (try dsimp only at k); simp only [gA, gB, gC, gG] at h; subst h; go_simp; try with_reducible rfl
  simp only [Act.put, gD, gE, gF]
  refine wTk 6 14 ?_ ?_ ?_
  rotate_left
  · intro o h w k; (try dsimp only at k); simp only [gA, gB, gC, gG] at h; subst h; go_simp; try with_reducible rfl
  simp only [Act.put, gD, gE, gF]
  refine wTk 7 15 ?_ ?_ ?_
  rotate_left
  · intro o h w k; (try dsimp only at k); simp only [gA, gB, gC, gG] at h; subst h; go_simp; try with_reducible rfl
  simp only [Act.put, gD, gE, gF]
  refine wTk 8 16 ?_ ?_ ?_
  rotate_left
  · intro o h w k; (try dsimp only at k); simp only [gA, gB, gC, gG] at h; subst h; go_simp; try with_reducible rfl
  simp only [Act.put, gD, gE, gF]
  refine wTk 9 17 ?_ ?_ ?_
  rotate_left
  · intro o h w k; (try dsimp only at k); simp only [gA, gB, gC, gG] at h; subst h; go_simp; try with_reducible rfl
  simp only [Act.put, gD, gE, gF]
  refine wTk 10 18 ?_ ?_ ?_
  rotate_left
  · intro o h w k; (try dsimp only at k); simp only [gA, gB, gC, gG] at h; subst h; go_simp; try with_reducible rfl
  simp only [Act.put, gD, gE, gF]
  refine wpAnyW_one 11 (by kernel_rfl) (by kernel_rfl) ?_
  intro o ho K hK
  simp only [gA, gB, gC, gG] at ho
  subst ho
  go_simp
  refine ⟨trivial, CallsIn.mono (callsIn_wide.2 (itr_back x s.ax _ hx hd)) ?_⟩
  rintro e w1 ⟨rfl, hb1⟩
  have hs1 : b + 2 ≤ w1.heap.size := by rw [HW.out]; exact hb1.size
  have g1 : w1.heap[b + 1]? = some (.cells #[.int .i64 0, .int .i64 0] 82) := (hb1.block (b + 1) (by have := HW.out; show b + 1 < W0.heap.size; omega)).trans g1_W0
  have hH1 : Below (b + 1) W0 w1 := hHeld.trans (hb1.mono (by have := HW.out; show b + 1 ≤ W0.heap.size; omega))
  refine hK _ _ hH1 (fun _ => ?_)
  clear hK K g1_W0
  try simp only [Act.put, gD, gE, gF]
  have k0 := cell_block g1 0
  have k1 := cell_block g1 1
  have f0 := frozen_block g1 0
  have f1 := frozen_block g1 1
  simp only [gA, gB, gC] at k0 k1
  refine wpAnyW_one 12 (by kernel_rfl) (by kernel_rfl) ?_
  intro o ho K hK
  simp only [gA, gB, gC, gG] at ho
  subst ho
  go_simp
  refine hK _ _ ((hH1.setCell (p := ⟨b + 1, 0, none⟩) (Nat.le_refl _) _).setCell (p := ⟨b + 1, 1, none⟩) (Nat.le_refl _) _) (fun _ => ?_)
  clear hK K
  try simp only [Act.put, gD, gE, gF]
  refine wpAnyW_done (by kernel_rfl) ?_ _
  dsimp only [onNormal]
  have z2 := block_set (block_set g1 0 (.int .i64 (x.less s.ax).lo)) 1 (.int .i64 (x.less s.ax).hi)
  have hB2 : Below b w ((w1.setCell ⟨b + 1, 0, none⟩ (.int .i64 (x.less s.ax).lo)).setCell ⟨b + 1, 1, none⟩ (.int .i64 (x.less s.ax).hi)) :=
    ((hb0.trans (hH1.mono (by have := HW.out; omega))).setCell (p := ⟨b + 1, 0, none⟩) (Nat.le_succ _) _).setCell (p := ⟨b + 1, 1, none⟩) (Nat.le_succ _) _
  have m0 := cell_block z2 0
  have m1 := cell_block z2 1
  simp only [gD, gE, gF, gA, gB, gC] at m0 m1
  go_wp2_with fail
  exact bodyPost_ret (v := .agg #[.int .i64 (x.less s.ax).lo, .int .i64 (x.less s.ax).hi]) (by simp [results, Try.results86, go_sem, m0, m1]) rfl ⟨rfl, by rw [HBS.out]; exact hB2⟩

theorem itr_moved3_2 (p g fc : Nat) (fa : Option Addr) (s : ISheet) (x : Sp) (w : World) (hs : ShAt w p s fa fc) (hg : w.cell? ⟨g, 0, none⟩ = some (.func (.func 84) #[] #[])) (hx : x.small) (hd : s.bx.small) :
    Calls Try.prog 86 #[.pointer (some ⟨p, 0, none⟩), .int .i64 2, .agg #[.int .i64 x.lo, .int .i64 x.hi], .pointer (some ⟨g, 0, none⟩)] w fun e w' => e = .returned (.agg #[.int .i64 (x.less s.bx).lo, .int .i64 (x.less s.bx).hi]) ∧ Below w.heap.size w w' := by
  have hp := hs.lt
  have hgl := World.block_lt_of_cell? w _ hg
  have c0 := hs.c4
  have c1 := hs.c5
  go_enter Try.func86, Try.ntmps86
  go_upto_region 1 with fail
  obtain ⟨W0, hW0⟩ : ∃ W, ((w.alloc (.cells #[.int .i64 x.lo, .int .i64 x.hi] 82)).alloc (.cells #[.int .i64 0, .int .i64 0] 82)) = W := ⟨_, rfl⟩
  rw [hW0]
  try simp only [Nat.add_assoc, Nat.reduceAdd]
  have hst_W0 : Steps (fun _ => False) w W0 := by rw [← hW0]; exact (Steps.alloc _ w _).trans (Steps.alloc (fun _ => False) _ _) (fun _ _ h => h)
  have hz_W0 : W0.heap.size = w.heap.size + 2 := by rw [← hW0]; simp
  have g0_W0 : W0.heap[w.heap.size]? = some (.cells #[.int .i64 x.lo, .int .i64 x.hi] 82) := by rw [← hW0]; simp only [alloc_get, World.size_alloc]; repeat (first | exact if_pos trivial | exact if_pos (by omega) | rw [if_neg (by omega)])
  have g1_W0 : W0.heap[w.heap.size + 1]? = some (.cells #[.int .i64 0, .int .i64 0] 82) := by rw [← hW0]; simp only [alloc_get, World.size_alloc]; repeat (first | exact if_pos trivial | exact if_pos (by omega) | rw [if_neg (by omega)])
  clear hW0
  have hb0 : Below w.heap.size w W0 := hst_W0.below (Nat.le_refl _) (fun _ _ h => h)
  have d0 := cell_later hb0 c0
  have d1 := cell_later hb0 c1
  have dg := cell_later hb0 hg
  have x0 := cell_block g0_W0 0
  have x1 := cell_block g0_W0 1
  simp only [gA, gB, gC] at x0 x1
  obtain ⟨b, hb⟩ : ∃ b, w.heap.size = b := ⟨_, rfl⟩
  have hpb : p < b := by rw [← hb]; exact hp
  have hgb : g < b := by rw [← hb]; exact hgl
  have hW0 : b + 2 = W0.heap.size := by rw [hz_W0, hb]
  rw [hb] at g1_W0 x0 x1 hb0
  try rw [hb]
  clear g0_W0 hst_W0 hz_W0 c0 c1 hg hs hp hgl
  have HW := Lib.hid hW0
  have HBS := Lib.hid hb
  clear hW0 hb
  have hld : ∀ (q o : Nat) (v : Value), W0.cell? ⟨q, o, none⟩ = some v → q < b + 1 → ∀ W, Below (b + 1) W0 W → W.cell? ⟨q, o, none⟩ = some v := fun q o v h hq W hW => (hW.cell (p := ⟨q, o, none⟩) hq).trans h
  have D0 := hld _ _ _ d0 (by omega)
  have D1 := hld _ _ _ d1 (by omega)
  have DG := hld _ _ _ dg (by omega)
  have X0 := hld _ _ _ x0 (by omega)
  have X1 := hld _ _ _ x1 (by omega)
  clear d0 d1 dg x0 x1 hld
  have hw0 : IntKind.i64.wrap 0 = 0 := by decide
  have hw1 : IntKind.i64.wrap 1 = 1 := by decide
  refine (wpIn_wide (n := 1)).1 ?_
  refine wpIn_region_Wn (S := Below (b + 1) W0) 13 (by kernel_rfl) (by kernel_rfl) (Below.refl _ _).drew (fun hHeld => ?_)
  refine wTk 0 8 ?_ ?_ ?_
  rotate_left
  · intro o h w k; (try dsimp only at k); simp only [gA, gB, gC, gG] at h; subst h; go_simp; try with_reducible rfl
  simp only [Act.put, gD, gE, gF]
  refine wTk 1 9 ?_ ?_ ?_
  rotate_left
  · intro o h w k; (try dsimp only at k); simp only [gA, gB, gC, gG] at h; subst h; go_simp; try with_reducible rfl
  simp only [Act.put, gD, gE, gF]
  refine wTk 2 10 ?_ ?_ ?_
  rotate_left
  · intro o h w k; (try dsimp only at k); simp only [gA, gB, gC, gG] at h; subst h; go_simp; try with_reducible rfl
  simp only [Act.put, gD, gE, gF]
  refine wTk 3 11 ?_ ?_ ?_
  rotate_left
  · intro o h w k; (try dsimp only at k); simp only [gA, gB, gC, gG] at h; subst h; go_simp; try with_reducible rfl
  simp only [Act.put, gD, gE, gF]
  refine wTk 4 12 ?_ ?_ ?_
  rotate_left
  · intro o h w k; (try dsimp only at k); simp only [gA, gB, gC, gG] at h; subst h; go_simp; try with_reducible rfl
  simp only [Act.put, gD, gE, gF]
  refine wTk 5 13 ?_ ?_ ?_
  rotate_left
  · intro o h w k; (try dsimp only at k); simp only [gA, gB, gC, gG] at h; subst h; go_simp; try with_reducible rfl
  simp only [Act.put, gD, gE, gF]
  refine wTk 6 14 ?_ ?_ ?_
  rotate_left
  · intro o h w k; (try dsimp only at k); simp only [gA, gB, gC, gG] at h; subst h; go_simp; try with_reducible rfl
  simp only [Act.put, gD, gE, gF]
  refine wTk 7 15 ?_ ?_ ?_
  rotate_left
  · intro o h w k; (try dsimp only at k); simp only [gA, gB, gC, gG] at h; subst h; go_simp; try with_reducible rfl
  simp only [Act.put, gD, gE, gF]
  refine wTk 8 16 ?_ ?_ ?_
  rotate_left
  · intro o h w k; (try dsimp only at k); simp only [gA, gB, gC, gG] at h; subst h; go_simp; try with_reducible rfl
  simp only [Act.put, gD, gE, gF]
  refine wTk 9 17 ?_ ?_ ?_
  rotate_left
  · intro o h w k; (try dsimp only at k); simp only [gA, gB, gC, gG] at h; subst h; go_simp; try with_reducible rfl
  simp only [Act.put, gD, gE, gF]
  refine wTk 10 18 ?_ ?_ ?_
  rotate_left
  · intro o h w k; (try dsimp only at k); simp only [gA, gB, gC, gG] at h; subst h; go_simp; try with_reducible rfl
  simp only [Act.put, gD, gE, gF]
  refine wpAnyW_one 11 (by kernel_rfl) (by kernel_rfl) ?_
  intro o ho K hK
  simp only [gA, gB, gC, gG] at ho
  subst ho
  go_simp
  refine ⟨trivial, CallsIn.mono (callsIn_wide.2 (itr_back x s.bx _ hx hd)) ?_⟩
  rintro e w1 ⟨rfl, hb1⟩
  have hs1 : b + 2 ≤ w1.heap.size := by rw [HW.out]; exact hb1.size
  have g1 : w1.heap[b + 1]? = some (.cells #[.int .i64 0, .int .i64 0] 82) := (hb1.block (b + 1) (by have := HW.out; show b + 1 < W0.heap.size; omega)).trans g1_W0
  have hH1 : Below (b + 1) W0 w1 := hHeld.trans (hb1.mono (by have := HW.out; show b + 1 ≤ W0.heap.size; omega))
  refine hK _ _ hH1 (fun _ => ?_)
  clear hK K g1_W0
  try simp only [Act.put, gD, gE, gF]
  have k0 := cell_block g1 0
  have k1 := cell_block g1 1
  have f0 := frozen_block g1 0
  have f1 := frozen_block g1 1
  simp only [gA, gB, gC] at k0 k1
  refine wpAnyW_one 12 (by kernel_rfl) (by kernel_rfl) ?_
  intro o ho K hK
  simp only [gA, gB, gC, gG] at ho
  subst ho
  go_simp
  refine hK _ _ ((hH1.setCell (p := ⟨b + 1, 0, none⟩) (Nat.le_refl _) _).setCell (p := ⟨b + 1, 1, none⟩) (Nat.le_refl _) _) (fun _ => ?_)
  clear hK K
  try simp only [Act.put, gD, gE, gF]
  refine wpAnyW_done (by kernel_rfl) ?_ _
  dsimp only [onNormal]
  have z2 := block_set (block_set g1 0 (.int .i64 (x.less s.bx).lo)) 1 (.int .i64 (x.less s.bx).hi)
  have hB2 : Below b w ((w1.setCell ⟨b + 1, 0, none⟩ (.int .i64 (x.less s.bx).lo)).setCell ⟨b + 1, 1, none⟩ (.int .i64 (x.less s.bx).hi)) :=
    ((hb0.trans (hH1.mono (by have := HW.out; omega))).setCell (p := ⟨b + 1, 0, none⟩) (Nat.le_succ _) _).setCell (p := ⟨b + 1, 1, none⟩) (Nat.le_succ _) _
  have m0 := cell_block z2 0
  have m1 := cell_block z2 1
  simp only [gD, gE, gF, gA, gB, gC] at m0 m1
  go_wp2_with fail
  exact bodyPost_ret (v := .agg #[.int .i64 (x.less s.bx).lo, .int .i64 (x.less s.bx).hi]) (by simp [results, Try.results86, go_sem, m0, m1]) rfl ⟨rfl, by rw [HBS.out]; exact hB2⟩

theorem itr_moved5_1 (p g fc : Nat) (fa : Option Addr) (s : ISheet) (x : Sp) (w : World) (hs : ShAt w p s fa fc) (hg : w.cell? ⟨g, 0, none⟩ = some (.func (.func 84) #[] #[])) (hx : x.small) (hd : s.ay.small) :
    Calls Try.prog 88 #[.pointer (some ⟨p, 0, none⟩), .int .i64 1, .agg #[.int .i64 x.lo, .int .i64 x.hi], .pointer (some ⟨g, 0, none⟩)] w fun e w' => e = .returned (.agg #[.int .i64 (x.less s.ay).lo, .int .i64 (x.less s.ay).hi]) ∧ Below w.heap.size w w' := by
  have hp := hs.lt
  have hgl := World.block_lt_of_cell? w _ hg
  have c0 := hs.c2
  have c1 := hs.c3
  go_enter Try.func88, Try.ntmps88
  go_upto_region 1 with fail
  obtain ⟨W0, hW0⟩ : ∃ W, ((w.alloc (.cells #[.int .i64 x.lo, .int .i64 x.hi] 82)).alloc (.cells #[.int .i64 0, .int .i64 0] 82)) = W := ⟨_, rfl⟩
  rw [hW0]
  try simp only [Nat.add_assoc, Nat.reduceAdd]
  have hst_W0 : Steps (fun _ => False) w W0 := by rw [← hW0]; exact (Steps.alloc _ w _).trans (Steps.alloc (fun _ => False) _ _) (fun _ _ h => h)
  have hz_W0 : W0.heap.size = w.heap.size + 2 := by rw [← hW0]; simp
  have g0_W0 : W0.heap[w.heap.size]? = some (.cells #[.int .i64 x.lo, .int .i64 x.hi] 82) := by rw [← hW0]; simp only [alloc_get, World.size_alloc]; repeat (first | exact if_pos trivial | exact if_pos (by omega) | rw [if_neg (by omega)])
  have g1_W0 : W0.heap[w.heap.size + 1]? = some (.cells #[.int .i64 0, .int .i64 0] 82) := by rw [← hW0]; simp only [alloc_get, World.size_alloc]; repeat (first | exact if_pos trivial | exact if_pos (by omega) | rw [if_neg (by omega)])
  clear hW0
  have hb0 : Below w.heap.size w W0 := hst_W0.below (Nat.le_refl _) (fun _ _ h => h)
  have d0 := cell_later hb0 c0
  have d1 := cell_later hb0 c1
  have dg := cell_later hb0 hg
  have x0 := cell_block g0_W0 0
  have x1 := cell_block g0_W0 1
  simp only [gA, gB, gC] at x0 x1
  obtain ⟨b, hb⟩ : ∃ b, w.heap.size = b := ⟨_, rfl⟩
  have hpb : p < b := by rw [← hb]; exact hp
  have hgb : g < b := by rw [← hb]; exact hgl
  have hW0 : b + 2 = W0.heap.size := by rw [hz_W0, hb]
  rw [hb] at g1_W0 x0 x1 hb0
  try rw [hb]
  clear g0_W0 hst_W0 hz_W0 c0 c1 hg hs hp hgl
  have HW := Lib.hid hW0
  have HBS := Lib.hid hb
  clear hW0 hb
  have hld : ∀ (q o : Nat) (v : Value), W0.cell? ⟨q, o, none⟩ = some v → q < b + 1 → ∀ W, Below (b + 1) W0 W → W.cell? ⟨q, o, none⟩ = some v := fun q o v h hq W hW => (hW.cell (p := ⟨q, o, none⟩) hq).trans h
  have D0 := hld _ _ _ d0 (by omega)
  have D1 := hld _ _ _ d1 (by omega)
  have DG := hld _ _ _ dg (by omega)
  have X0 := hld _ _ _ x0 (by omega)
  have X1 := hld _ _ _ x1 (by omega)
  clear d0 d1 dg x0 x1 hld
  have hw0 : IntKind.i64.wrap 0 = 0 := by decide
  have hw1 : IntKind.i64.wrap 1 = 1 := by decide
  refine (wpIn_wide (n := 1)).1 ?_
  refine wpIn_region_Wn (S := Below (b + 1) W0) 13 (by kernel_rfl) (by kernel_rfl) (Below.refl _ _).drew (fun hHeld => ?_)
  refine wTk 0 8 ?_ ?_ ?_
  rotate_left
  · intro o h w k; (try dsimp only at k); simp only [gA, gB, gC, gG] at h; subst h; go_simp; try with_reducible rfl
  simp only [Act.put, gD, gE, gF]
  refine wTk 1 9 ?_ ?_ ?_
  rotate_left
  · intro o h w k; (try dsimp only at k); simp only [gA, gB, gC, gG] at h; subst h; go_simp; try with_reducible rfl
  simp only [Act.put, gD, gE, gF]
  refine wTk 2 10 ?_ ?_ ?_
  rotate_left
  · intro o h w k; (try dsimp only at k); simp only [gA, gB, gC, gG] at h; subst h; go_simp; try with_reducible rfl
  simp only [Act.put, gD, gE, gF]
  refine wTk 3 11 ?_ ?_ ?_
  rotate_left
  · intro o h w k; (try dsimp only at k); simp only [gA, gB, gC, gG] at h; subst h; go_simp; try with_reducible rfl
  simp only [Act.put, gD, gE, gF]
  refine wTk 4 12 ?_ ?_ ?_
  rotate_left
  · intro o h w k; (try dsimp only at k); simp only [gA, gB, gC, gG] at h; subst h; go_simp; try with_reducible rfl
  simp only [Act.put, gD, gE, gF]
  refine wTk 5 13 ?_ ?_ ?_
  rotate_left
  · intro o h w k; (try dsimp only at k); simp only [gA, gB, gC, gG] at h; subst h; go_simp; try with_reducible rfl
  simp only [Act.put, gD, gE, gF]
  refine wTk 6 14 ?_ ?_ ?_
  rotate_left
  · intro o h w k; (try dsimp only at k); simp only [gA, gB, gC, gG] at h; subst h; go_simp; try with_reducible rfl
  simp only [Act.put, gD, gE, gF]
  refine wTk 7 15 ?_ ?_ ?_
  rotate_left
  · intro o h w k; (try dsimp only at k); simp only [gA, gB, gC, gG] at h; subst h; go_simp; try with_reducible rfl
  simp only [Act.put, gD, gE, gF]
  refine wTk 8 16 ?_ ?_ ?_
  rotate_left
  · intro o h w k; (try dsimp only at k); simp only [gA, gB, gC, gG] at h; subst h; go_simp; try with_reducible rfl
  simp only [Act.put, gD, gE, gF]
  refine wTk 9 17 ?_ ?_ ?_
  rotate_left
  · intro o h w k; (try dsimp only at k); simp only [gA, gB, gC, gG] at h; subst h; go_simp; try with_reducible rfl
  simp only [Act.put, gD, gE, gF]
  refine wTk 10 18 ?_ ?_ ?_
  rotate_left
  · intro o h w k; (try dsimp only at k); simp only [gA, gB, gC, gG] at h; subst h; go_simp; try with_reducible rfl
  simp only [Act.put, gD, gE, gF]
  refine wpAnyW_one 11 (by kernel_rfl) (by kernel_rfl) ?_
  intro o ho K hK
  simp only [gA, gB, gC, gG] at ho
  subst ho
  go_simp
  refine ⟨trivial, CallsIn.mono (callsIn_wide.2 (itr_back x s.ay _ hx hd)) ?_⟩
  rintro e w1 ⟨rfl, hb1⟩
  have hs1 : b + 2 ≤ w1.heap.size := by rw [HW.out]; exact hb1.size
  have g1 : w1.heap[b + 1]? = some (.cells #[.int .i64 0, .int .i64 0] 82) := (hb1.block (b + 1) (by have := HW.out; show b + 1 < W0.heap.size; omega)).trans g1_W0
  have hH1 : Below (b + 1) W0 w1 := hHeld.trans (hb1.mono (by have := HW.out; show b + 1 ≤ W0.heap.size; omega))
  refine hK _ _ hH1 (fun _ => ?_)
  clear hK K g1_W0
  try simp only [Act.put, gD, gE, gF]
  have k0 := cell_block g1 0
  have k1 := cell_block g1 1
  have f0 := frozen_block g1 0
  have f1 := frozen_block g1 1
  simp only [gA, gB, gC] at k0 k1
  refine wpAnyW_one 12 (by kernel_rfl) (by kernel_rfl) ?_
  intro o ho K hK
  simp only [gA, gB, gC, gG] at ho
  subst ho
  go_simp
  refine hK _ _ ((hH1.setCell (p := ⟨b + 1, 0, none⟩) (Nat.le_refl _) _).setCell (p := ⟨b + 1, 1, none⟩) (Nat.le_refl _) _) (fun _ => ?_)
  clear hK K
  try simp only [Act.put, gD, gE, gF]
  refine wpAnyW_done (by kernel_rfl) ?_ _
  dsimp only [onNormal]
  have z2 := block_set (block_set g1 0 (.int .i64 (x.less s.ay).lo)) 1 (.int .i64 (x.less s.ay).hi)
  have hB2 : Below b w ((w1.setCell ⟨b + 1, 0, none⟩ (.int .i64 (x.less s.ay).lo)).setCell ⟨b + 1, 1, none⟩ (.int .i64 (x.less s.ay).hi)) :=
    ((hb0.trans (hH1.mono (by have := HW.out; omega))).setCell (p := ⟨b + 1, 0, none⟩) (Nat.le_succ _) _).setCell (p := ⟨b + 1, 1, none⟩) (Nat.le_succ _) _
  have m0 := cell_block z2 0
  have m1 := cell_block z2 1
  simp only [gD, gE, gF, gA, gB, gC] at m0 m1
  go_wp2_with fail
  exact bodyPost_ret (v := .agg #[.int .i64 (x.less s.ay).lo, .int .i64 (x.less s.ay).hi]) (by simp [results, Try.results88, go_sem, m0, m1]) rfl ⟨rfl, by rw [HBS.out]; exact hB2⟩

theorem itr_moved5_2 (p g fc : Nat) (fa : Option Addr) (s : ISheet) (x : Sp) (w : World) (hs : ShAt w p s fa fc) (hg : w.cell? ⟨g, 0, none⟩ = some (.func (.func 84) #[] #[])) (hx : x.small) (hd : s.by'.small) :
    Calls Try.prog 88 #[.pointer (some ⟨p, 0, none⟩), .int .i64 2, .agg #[.int .i64 x.lo, .int .i64 x.hi], .pointer (some ⟨g, 0, none⟩)] w fun e w' => e = .returned (.agg #[.int .i64 (x.less s.by').lo, .int .i64 (x.less s.by').hi]) ∧ Below w.heap.size w w' := by
  have hp := hs.lt
  have hgl := World.block_lt_of_cell? w _ hg
  have c0 := hs.c6
  have c1 := hs.c7
  go_enter Try.func88, Try.ntmps88
  go_upto_region 1 with fail
  obtain ⟨W0, hW0⟩ : ∃ W, ((w.alloc (.cells #[.int .i64 x.lo, .int .i64 x.hi] 82)).alloc (.cells #[.int .i64 0, .int .i64 0] 82)) = W := ⟨_, rfl⟩
  rw [hW0]
  try simp only [Nat.add_assoc, Nat.reduceAdd]
  have hst_W0 : Steps (fun _ => False) w W0 := by rw [← hW0]; exact (Steps.alloc _ w _).trans (Steps.alloc (fun _ => False) _ _) (fun _ _ h => h)
  have hz_W0 : W0.heap.size = w.heap.size + 2 := by rw [← hW0]; simp
  have g0_W0 : W0.heap[w.heap.size]? = some (.cells #[.int .i64 x.lo, .int .i64 x.hi] 82) := by rw [← hW0]; simp only [alloc_get, World.size_alloc]; repeat (first | exact if_pos trivial | exact if_pos (by omega) | rw [if_neg (by omega)])
  have g1_W0 : W0.heap[w.heap.size + 1]? = some (.cells #[.int .i64 0, .int .i64 0] 82) := by rw [← hW0]; simp only [alloc_get, World.size_alloc]; repeat (first | exact if_pos trivial | exact if_pos (by omega) | rw [if_neg (by omega)])
  clear hW0
  have hb0 : Below w.heap.size w W0 := hst_W0.below (Nat.le_refl _) (fun _ _ h => h)
  have d0 := cell_later hb0 c0
  have d1 := cell_later hb0 c1
  have dg := cell_later hb0 hg
  have x0 := cell_block g0_W0 0
  have x1 := cell_block g0_W0 1
  simp only [gA, gB, gC] at x0 x1
  obtain ⟨b, hb⟩ : ∃ b, w.heap.size = b := ⟨_, rfl⟩
  have hpb : p < b := by rw [← hb]; exact hp
  have hgb : g < b := by rw [← hb]; exact hgl
  have hW0 : b + 2 = W0.heap.size := by rw [hz_W0, hb]
  rw [hb] at g1_W0 x0 x1 hb0
  try rw [hb]
  clear g0_W0 hst_W0 hz_W0 c0 c1 hg hs hp hgl
  have HW := Lib.hid hW0
  have HBS := Lib.hid hb
  clear hW0 hb
  have hld : ∀ (q o : Nat) (v : Value), W0.cell? ⟨q, o, none⟩ = some v → q < b + 1 → ∀ W, Below (b + 1) W0 W → W.cell? ⟨q, o, none⟩ = some v := fun q o v h hq W hW => (hW.cell (p := ⟨q, o, none⟩) hq).trans h
  have D0 := hld _ _ _ d0 (by omega)
  have D1 := hld _ _ _ d1 (by omega)
  have DG := hld _ _ _ dg (by omega)
  have X0 := hld _ _ _ x0 (by omega)
  have X1 := hld _ _ _ x1 (by omega)
  clear d0 d1 dg x0 x1 hld
  have hw0 : IntKind.i64.wrap 0 = 0 := by decide
  have hw1 : IntKind.i64.wrap 1 = 1 := by decide
  refine (wpIn_wide (n := 1)).1 ?_
  refine wpIn_region_Wn (S := Below (b + 1) W0) 13 (by kernel_rfl) (by kernel_rfl) (Below.refl _ _).drew (fun hHeld => ?_)
  refine wTk 0 8 ?_ ?_ ?_
  rotate_left
  · intro o h w k; (try dsimp only at k); simp only [gA, gB, gC, gG] at h; subst h; go_simp; try with_reducible rfl
  simp only [Act.put, gD, gE, gF]
  refine wTk 1 9 ?_ ?_ ?_
  rotate_left
  · intro o h w k; (try dsimp only at k); simp only [gA, gB, gC, gG] at h; subst h; go_simp; try with_reducible rfl
  simp only [Act.put, gD, gE, gF]
  refine wTk 2 10 ?_ ?_ ?_
  rotate_left
  · intro o h w k; (try dsimp only at k); simp only [gA, gB, gC, gG] at h; subst h; go_simp; try with_reducible rfl
  simp only [Act.put, gD, gE, gF]
  refine wTk 3 11 ?_ ?_ ?_
  rotate_left
  · intro o h w k; (try dsimp only at k); simp only [gA, gB, gC, gG] at h; subst h; go_simp; try with_reducible rfl
  simp only [Act.put, gD, gE, gF]
  refine wTk 4 12 ?_ ?_ ?_
  rotate_left
  · intro o h w k; (try dsimp only at k); simp only [gA, gB, gC, gG] at h; subst h; go_simp; try with_reducible rfl
  simp only [Act.put, gD, gE, gF]
  refine wTk 5 13 ?_ ?_ ?_
  rotate_left
  · intro o h w k; (try dsimp only at k); simp only [gA, gB, gC, gG] at h; subst h; go_simp; try with_reducible rfl
  simp only [Act.put, gD, gE, gF]
  refine wTk 6 14 ?_ ?_ ?_
  rotate_left
  · intro o h w k; (try dsimp only at k); simp only [gA, gB, gC, gG] at h; subst h; go_simp; try with_reducible rfl
  simp only [Act.put, gD, gE, gF]
  refine wTk 7 15 ?_ ?_ ?_
  rotate_left
  · intro o h w k; (try dsimp only at k); simp only [gA, gB, gC, gG] at h; subst h; go_simp; try with_reducible rfl
  simp only [Act.put, gD, gE, gF]
  refine wTk 8 16 ?_ ?_ ?_
  rotate_left
  · intro o h w k; (try dsimp only at k); simp only [gA, gB, gC, gG] at h; subst h; go_simp; try with_reducible rfl
  simp only [Act.put, gD, gE, gF]
  refine wTk 9 17 ?_ ?_ ?_
  rotate_left
  · intro o h w k; (try dsimp only at k); simp only [gA, gB, gC, gG] at h; subst h; go_simp; try with_reducible rfl
  simp only [Act.put, gD, gE, gF]
  refine wTk 10 18 ?_ ?_ ?_
  rotate_left
  · intro o h w k; (try dsimp only at k); simp only [gA, gB, gC, gG] at h; subst h; go_simp; try with_reducible rfl
  simp only [Act.put, gD, gE, gF]
  refine wpAnyW_one 11 (by kernel_rfl) (by kernel_rfl) ?_
  intro o ho K hK
  simp only [gA, gB, gC, gG] at ho
  subst ho
  go_simp
  refine ⟨trivial, CallsIn.mono (callsIn_wide.2 (itr_back x s.by' _ hx hd)) ?_⟩
  rintro e w1 ⟨rfl, hb1⟩
  have hs1 : b + 2 ≤ w1.heap.size := by rw [HW.out]; exact hb1.size
  have g1 : w1.heap[b + 1]? = some (.cells #[.int .i64 0, .int .i64 0] 82) := (hb1.block (b + 1) (by have := HW.out; show b + 1 < W0.heap.size; omega)).trans g1_W0
  have hH1 : Below (b + 1) W0 w1 := hHeld.trans (hb1.mono (by have := HW.out; show b + 1 ≤ W0.heap.size; omega))
  refine hK _ _ hH1 (fun _ => ?_)
  clear hK K g1_W0
  try simp only [Act.put, gD, gE, gF]
  have k0 := cell_block g1 0
  have k1 := cell_block g1 1
  have f0 := frozen_block g1 0
  have f1 := frozen_block g1 1
  simp only [gA, gB, gC] at k0 k1
  refine wpAnyW_one 12 (by kernel_rfl) (by kernel_rfl) ?_
  intro o ho K hK
  simp only [gA, gB, gC, gG] at ho
  subst ho
  go_simp
  refine hK _ _ ((hH1.setCell (p := ⟨b + 1, 0, none⟩) (Nat.le_refl _) _).setCell (p := ⟨b + 1, 1, none⟩) (Nat.le_refl _) _) (fun _ => ?_)
  clear hK K
  try simp only [Act.put, gD, gE, gF]
  refine wpAnyW_done (by kernel_rfl) ?_ _
  dsimp only [onNormal]
  have z2 := block_set (block_set g1 0 (.int .i64 (x.less s.by').lo)) 1 (.int .i64 (x.less s.by').hi)
  have hB2 : Below b w ((w1.setCell ⟨b + 1, 0, none⟩ (.int .i64 (x.less s.by').lo)).setCell ⟨b + 1, 1, none⟩ (.int .i64 (x.less s.by').hi)) :=
    ((hb0.trans (hH1.mono (by have := HW.out; omega))).setCell (p := ⟨b + 1, 0, none⟩) (Nat.le_succ _) _).setCell (p := ⟨b + 1, 1, none⟩) (Nat.le_succ _) _
  have m0 := cell_block z2 0
  have m1 := cell_block z2 1
  simp only [gD, gE, gF, gA, gB, gC] at m0 m1
  go_wp2_with fail
  exact bodyPost_ret (v := .agg #[.int .i64 (x.less s.by').lo, .int .i64 (x.less s.by').hi]) (by simp [results, Try.results88, go_sem, m0, m1]) rfl ⟨rfl, by rw [HBS.out]; exact hB2⟩
end Go.Proofs.Ytacioedolmaofaa
namespace Go.Proofs.Ytacioedolmaofaa
open Go.RowKit Go.Shelf
set_option maxHeartbeats 3200000
set_option maxRecDepth 100000
set_option linter.unusedSimpArgs false
set_option linter.unusedVariables false

theorem irin_any (n lo hi : Int) (w : World) :
    Calls Try.prog 57 #[.int .i64 n, .int .i64 lo, .int .i64 hi] w fun e w' => e = .returned (.bool (decide (lo ≤ n) && decide (n ≤ hi))) ∧ w = w' := by
  go_enter Try.func57, Try.ntmps57
  go_wp2
  all_goals (go_ret; refine ⟨ret_bool ?_, rfl⟩)
  · have h : lo ≤ n := by assumption
    simp [h]
  · have h : n < lo := by assumption
    simp; omega

theorem irspan_any (s : Sp) (lo hi : Int) (w : World) :
    Calls Try.prog 63 #[.agg #[.int .i64 s.lo, .int .i64 s.hi], .int .i64 lo, .int .i64 hi] w fun e w' => e = .returned (.bool (s.ok lo hi)) ∧ Below w.heap.size w w' := by
  obtain ⟨a, b⟩ := s
  simp only [Sp.ok]
  go_enter Try.func63, Try.ntmps63
  go_wp2
  all_goals (go_ret; refine ⟨ret_bool ?_, (Below.refl _ _).alloc (Nat.le_refl _) _⟩)
  · have h1 : lo ≤ a := by assumption
    have h2 : a ≤ b := by assumption
    simp [h1, h2]
  · have h1 : b < a := by assumption
    simp; omega
  · have h1 : a < lo := by assumption
    simp; omega

theorem ircommon_any (s t : Sp) (w : World) :
    Calls Try.prog 64 #[.agg #[.int .i64 s.lo, .int .i64 s.hi], .agg #[.int .i64 t.lo, .int .i64 t.hi]] w fun e w' => e = .returned (.agg #[.int .i64 (s.meet t).lo, .int .i64 (s.meet t).hi]) ∧ Below w.heap.size w w' := by
  obtain ⟨s0, s1⟩ := s
  obtain ⟨t0, t1⟩ := t
  have E1 : (max s0 t0) = (Sp.meet ⟨s0, s1⟩ ⟨t0, t1⟩).lo := rfl
  have E2 : (min s1 t1) = (Sp.meet ⟨s0, s1⟩ ⟨t0, t1⟩).hi := rfl
  rw [← E1, ← E2]
  clear E1 E2
  show Calls Try.prog 64 #[.agg #[.int .i64 s0, .int .i64 s1], .agg #[.int .i64 t0, .int .i64 t1]] w fun e w' => e = .returned (.agg #[.int .i64 (max s0 t0), .int .i64 (min s1 t1)]) ∧ Below w.heap.size w w'
  generalize hm : (max s0 t0) = m
  generalize hn : (min s1 t1) = n
  have hm := Lib.hid hm
  have hn := Lib.hid hn
  go_enter Try.func64, Try.ntmps64
  go_wp2
  · have h1 : s0 < t0 := by assumption
    have h2 : t1 < s1 := by assumption
    obtain ⟨W0, hW0⟩ : ∃ W, (((w.alloc (.cells #[.int .i64 s0, .int .i64 s1] 23)).alloc (.cells #[.int .i64 t0, .int .i64 t1] 23)).alloc (.cells #[.int .i64 t0, .int .i64 t1] 23)) = W := ⟨_, rfl⟩
    rw [hW0]
    try simp only [Nat.add_assoc, Nat.reduceAdd]
    have hst_W0 : Steps (fun _ => False) w W0 := by rw [← hW0]; exact ((Steps.alloc _ w _).trans (Steps.alloc (fun _ => False) _ _) (fun _ _ h => h)).trans (Steps.alloc (fun _ => False) _ _) (fun _ _ h => h)
    have hz_W0 : W0.heap.size = w.heap.size + 3 := by rw [← hW0]; simp
    have g0_W0 : W0.heap[w.heap.size]? = some (.cells #[.int .i64 s0, .int .i64 s1] 23) := by rw [← hW0]; simp only [alloc_get, World.size_alloc]; repeat (first | exact if_pos trivial | exact if_pos (by omega) | rw [if_neg (by omega)])
    have g1_W0 : W0.heap[w.heap.size + 1]? = some (.cells #[.int .i64 t0, .int .i64 t1] 23) := by rw [← hW0]; simp only [alloc_get, World.size_alloc]; repeat (first | exact if_pos trivial | exact if_pos (by omega) | rw [if_neg (by omega)])
    have g2_W0 : W0.heap[w.heap.size + 2]? = some (.cells #[.int .i64 t0, .int .i64 t1] 23) := by rw [← hW0]; simp only [alloc_get, World.size_alloc]; repeat (first | exact if_pos trivial | exact if_pos (by omega) | rw [if_neg (by omega)])
    clear hW0
    have hb0 : Below w.heap.size w W0 := hst_W0.below (Nat.le_refl _) (fun _ _ h => h)
    have c0 := cell_block g2_W0 0
    have c1 := cell_block g2_W0 1
    simp only [gA, gB, gC] at c0 c1
    have em : m = t0 := by have := hm.out; omega
    have en : n = t1 := by have := hn.out; omega
    exact bodyPost_ret (v := .agg #[.int .i64 t0, .int .i64 t1]) (by simp [results, Try.results64, go_sem, c0, c1]) rfl ⟨by rw [em, en], hb0⟩
  · have h1 : s0 < t0 := by assumption
    have h2 : s1 ≤ t1 := by assumption
    obtain ⟨W0, hW0⟩ : ∃ W, (((w.alloc (.cells #[.int .i64 s0, .int .i64 s1] 23)).alloc (.cells #[.int .i64 t0, .int .i64 t1] 23)).alloc (.cells #[.int .i64 t0, .int .i64 s1] 23)) = W := ⟨_, rfl⟩
    rw [hW0]
    try simp only [Nat.add_assoc, Nat.reduceAdd]
    have hst_W0 : Steps (fun _ => False) w W0 := by rw [← hW0]; exact ((Steps.alloc _ w _).trans (Steps.alloc (fun _ => False) _ _) (fun _ _ h => h)).trans (Steps.alloc (fun _ => False) _ _) (fun _ _ h => h)
    have hz_W0 : W0.heap.size = w.heap.size + 3 := by rw [← hW0]; simp
    have g0_W0 : W0.heap[w.heap.size]? = some (.cells #[.int .i64 s0, .int .i64 s1] 23) := by rw [← hW0]; simp only [alloc_get, World.size_alloc]; repeat (first | exact if_pos trivial | exact if_pos (by omega) | rw [if_neg (by omega)])
    have g1_W0 : W0.heap[w.heap.size + 1]? = some (.cells #[.int .i64 t0, .int .i64 t1] 23) := by rw [← hW0]; simp only [alloc_get, World.size_alloc]; repeat (first | exact if_pos trivial | exact if_pos (by omega) | rw [if_neg (by omega)])
    have g2_W0 : W0.heap[w.heap.size + 2]? = some (.cells #[.int .i64 t0, .int .i64 s1] 23) := by rw [← hW0]; simp only [alloc_get, World.size_alloc]; repeat (first | exact if_pos trivial | exact if_pos (by omega) | rw [if_neg (by omega)])
    clear hW0
    have hb0 : Below w.heap.size w W0 := hst_W0.below (Nat.le_refl _) (fun _ _ h => h)
    have c0 := cell_block g2_W0 0
    have c1 := cell_block g2_W0 1
    simp only [gA, gB, gC] at c0 c1
    have em : m = t0 := by have := hm.out; omega
    have en : n = s1 := by have := hn.out; omega
    exact bodyPost_ret (v := .agg #[.int .i64 t0, .int .i64 s1]) (by simp [results, Try.results64, go_sem, c0, c1]) rfl ⟨by rw [em, en], hb0⟩
  · have h1 : t0 ≤ s0 := by assumption
    have h2 : t1 < s1 := by assumption
    obtain ⟨W0, hW0⟩ : ∃ W, (((w.alloc (.cells #[.int .i64 s0, .int .i64 s1] 23)).alloc (.cells #[.int .i64 t0, .int .i64 t1] 23)).alloc (.cells #[.int .i64 s0, .int .i64 t1] 23)) = W := ⟨_, rfl⟩
    rw [hW0]
    try simp only [Nat.add_assoc, Nat.reduceAdd]
    have hst_W0 : Steps (fun _ => False) w W0 := by rw [← hW0]; exact ((Steps.alloc _ w _).trans (Steps.alloc (fun _ => False) _ _) (fun _ _ h => h)).trans (Steps.alloc (fun _ => False) _ _) (fun _ _ h => h)
    have hz_W0 : W0.heap.size = w.heap.size + 3 := by rw [← hW0]; simp
    have g0_W0 : W0.heap[w.heap.size]? = some (.cells #[.int .i64 s0, .int .i64 s1] 23) := by rw [← hW0]; simp only [alloc_get, World.size_alloc]; repeat (first | exact if_pos trivial | exact if_pos (by omega) | rw [if_neg (by omega)])
    have g1_W0 : W0.heap[w.heap.size + 1]? = some (.cells #[.int .i64 t0, .int .i64 t1] 23) := by rw [← hW0]; simp only [alloc_get, World.size_alloc]; repeat (first | exact if_pos trivial | exact if_pos (by omega) | rw [if_neg (by omega)])
    have g2_W0 : W0.heap[w.heap.size + 2]? = some (.cells #[.int .i64 s0, .int .i64 t1] 23) := by rw [← hW0]; simp only [alloc_get, World.size_alloc]; repeat (first | exact if_pos trivial | exact if_pos (by omega) | rw [if_neg (by omega)])
    clear hW0
    have hb0 : Below w.heap.size w W0 := hst_W0.below (Nat.le_refl _) (fun _ _ h => h)
    have c0 := cell_block g2_W0 0
    have c1 := cell_block g2_W0 1
    simp only [gA, gB, gC] at c0 c1
    have em : m = s0 := by have := hm.out; omega
    have en : n = t1 := by have := hn.out; omega
    exact bodyPost_ret (v := .agg #[.int .i64 s0, .int .i64 t1]) (by simp [results, Try.results64, go_sem, c0, c1]) rfl ⟨by rw [em, en], hb0⟩
  · have h1 : t0 ≤ s0 := by assumption
    have h2 : s1 ≤ t1 := by assumption
    obtain ⟨W0, hW0⟩ : ∃ W, (((w.alloc (.cells #[.int .i64 s0, .int .i64 s1] 23)).alloc (.cells #[.int .i64 t0, .int .i64 t1] 23)).alloc (.cells #[.int .i64 s0, .int .i64 s1] 23)) = W := ⟨_, rfl⟩
    rw [hW0]
    try simp only [Nat.add_assoc, Nat.reduceAdd]
    have hst_W0 : Steps (fun _ => False) w W0 := by rw [← hW0]; exact ((Steps.alloc _ w _).trans (Steps.alloc (fun _ => False) _ _) (fun _ _ h => h)).trans (Steps.alloc (fun _ => False) _ _) (fun _ _ h => h)
    have hz_W0 : W0.heap.size = w.heap.size + 3 := by rw [← hW0]; simp
    have g0_W0 : W0.heap[w.heap.size]? = some (.cells #[.int .i64 s0, .int .i64 s1] 23) := by rw [← hW0]; simp only [alloc_get, World.size_alloc]; repeat (first | exact if_pos trivial | exact if_pos (by omega) | rw [if_neg (by omega)])
    have g1_W0 : W0.heap[w.heap.size + 1]? = some (.cells #[.int .i64 t0, .int .i64 t1] 23) := by rw [← hW0]; simp only [alloc_get, World.size_alloc]; repeat (first | exact if_pos trivial | exact if_pos (by omega) | rw [if_neg (by omega)])
    have g2_W0 : W0.heap[w.heap.size + 2]? = some (.cells #[.int .i64 s0, .int .i64 s1] 23) := by rw [← hW0]; simp only [alloc_get, World.size_alloc]; repeat (first | exact if_pos trivial | exact if_pos (by omega) | rw [if_neg (by omega)])
    clear hW0
    have hb0 : Below w.heap.size w W0 := hst_W0.below (Nat.le_refl _) (fun _ _ h => h)
    have c0 := cell_block g2_W0 0
    have c1 := cell_block g2_W0 1
    simp only [gA, gB, gC] at c0 c1
    have em : m = s0 := by have := hm.out; omega
    have en : n = s1 := by have := hn.out; omega
    exact bodyPost_ret (v := .agg #[.int .i64 s0, .int .i64 s1]) (by simp [results, Try.results64, go_sem, c0, c1]) rfl ⟨by rw [em, en], hb0⟩

theorem irjoin_any (s t : Sp) (w : World) :
    Calls Try.prog 58 #[.agg #[.int .i64 s.lo, .int .i64 s.hi], .agg #[.int .i64 t.lo, .int .i64 t.hi]] w fun e w' => e = .returned (.agg #[.int .i64 (s.join t).lo, .int .i64 (s.join t).hi]) ∧ Below w.heap.size w w' := by
  obtain ⟨s0, s1⟩ := s
  obtain ⟨t0, t1⟩ := t
  have E1 : (min s0 t0) = (Sp.join ⟨s0, s1⟩ ⟨t0, t1⟩).lo := rfl
  have E2 : (max s1 t1) = (Sp.join ⟨s0, s1⟩ ⟨t0, t1⟩).hi := rfl
  rw [← E1, ← E2]
  clear E1 E2
  show Calls Try.prog 58 #[.agg #[.int .i64 s0, .int .i64 s1], .agg #[.int .i64 t0, .int .i64 t1]] w fun e w' => e = .returned (.agg #[.int .i64 (min s0 t0), .int .i64 (max s1 t1)]) ∧ Below w.heap.size w w'
  generalize hm : (min s0 t0) = m
  generalize hn : (max s1 t1) = n
  have hm := Lib.hid hm
  have hn := Lib.hid hn
  go_enter Try.func58, Try.ntmps58
  go_wp2
  · have h1 : t0 < s0 := by assumption
    have h2 : s1 < t1 := by assumption
    obtain ⟨W0, hW0⟩ : ∃ W, (((w.alloc (.cells #[.int .i64 s0, .int .i64 s1] 23)).alloc (.cells #[.int .i64 t0, .int .i64 t1] 23)).alloc (.cells #[.int .i64 t0, .int .i64 t1] 23)) = W := ⟨_, rfl⟩
    rw [hW0]
    try simp only [Nat.add_assoc, Nat.reduceAdd]
    have hst_W0 : Steps (fun _ => False) w W0 := by rw [← hW0]; exact ((Steps.alloc _ w _).trans (Steps.alloc (fun _ => False) _ _) (fun _ _ h => h)).trans (Steps.alloc (fun _ => False) _ _) (fun _ _ h => h)
    have hz_W0 : W0.heap.size = w.heap.size + 3 := by rw [← hW0]; simp
    have g0_W0 : W0.heap[w.heap.size]? = some (.cells #[.int .i64 s0, .int .i64 s1] 23) := by rw [← hW0]; simp only [alloc_get, World.size_alloc]; repeat (first | exact if_pos trivial | exact if_pos (by omega) | rw [if_neg (by omega)])
    have g1_W0 : W0.heap[w.heap.size + 1]? = some (.cells #[.int .i64 t0, .int .i64 t1] 23) := by rw [← hW0]; simp only [alloc_get, World.size_alloc]; repeat (first | exact if_pos trivial | exact if_pos (by omega) | rw [if_neg (by omega)])
    have g2_W0 : W0.heap[w.heap.size + 2]? = some (.cells #[.int .i64 t0, .int .i64 t1] 23) := by rw [← hW0]; simp only [alloc_get, World.size_alloc]; repeat (first | exact if_pos trivial | exact if_pos (by omega) | rw [if_neg (by omega)])
    clear hW0
    have hb0 : Below w.heap.size w W0 := hst_W0.below (Nat.le_refl _) (fun _ _ h => h)
    have c0 := cell_block g2_W0 0
    have c1 := cell_block g2_W0 1
    simp only [gA, gB, gC] at c0 c1
    have em : m = t0 := by have := hm.out; omega
    have en : n = t1 := by have := hn.out; omega
    exact bodyPost_ret (v := .agg #[.int .i64 t0, .int .i64 t1]) (by simp [results, Try.results58, go_sem, c0, c1]) rfl ⟨by rw [em, en], hb0⟩
  · have h1 : t0 < s0 := by assumption
    have h2 : t1 ≤ s1 := by assumption
    obtain ⟨W0, hW0⟩ : ∃ W, (((w.alloc (.cells #[.int .i64 s0, .int .i64 s1] 23)).alloc (.cells #[.int .i64 t0, .int .i64 t1] 23)).alloc (.cells #[.int .i64 t0, .int .i64 s1] 23)) = W := ⟨_, rfl⟩
    rw [hW0]
    try simp only [Nat.add_assoc, Nat.reduceAdd]
    have hst_W0 : Steps (fun _ => False) w W0 := by rw [← hW0]; exact ((Steps.alloc _ w _).trans (Steps.alloc (fun _ => False) _ _) (fun _ _ h => h)).trans (Steps.alloc (fun _ => False) _ _) (fun _ _ h => h)
    have hz_W0 : W0.heap.size = w.heap.size + 3 := by rw [← hW0]; simp
    have g0_W0 : W0.heap[w.heap.size]? = some (.cells #[.int .i64 s0, .int .i64 s1] 23) := by rw [← hW0]; simp only [alloc_get, World.size_alloc]; repeat (first | exact if_pos trivial | exact if_pos (by omega) | rw [if_neg (by omega)])
    have g1_W0 : W0.heap[w.heap.size + 1]? = some (.cells #[.int .i64 t0, .int .i64 t1] 23) := by rw [← hW0]; simp only [alloc_get, World.size_alloc]; repeat (first | exact if_pos trivial | exact if_pos (by omega) | rw [if_neg (by omega)])
    have g2_W0 : W0.heap[w.heap.size + 2]? = some (.cells #[.int .i64 t0, .int .i64 s1] 23) := by rw [← hW0]; simp only [alloc_get, World.size_alloc]; repeat (first | exact if_pos trivial | exact if_pos (by omega) | rw [if_neg (by omega)])
    clear hW0
    have hb0 : Below w.heap.size w W0 := hst_W0.below (Nat.le_refl _) (fun _ _ h => h)
    have c0 := cell_block g2_W0 0
    have c1 := cell_block g2_W0 1
    simp only [gA, gB, gC] at c0 c1
    have em : m = t0 := by have := hm.out; omega
    have en : n = s1 := by have := hn.out; omega
    exact bodyPost_ret (v := .agg #[.int .i64 t0, .int .i64 s1]) (by simp [results, Try.results58, go_sem, c0, c1]) rfl ⟨by rw [em, en], hb0⟩
  · have h1 : s0 ≤ t0 := by assumption
    have h2 : s1 < t1 := by assumption
    obtain ⟨W0, hW0⟩ : ∃ W, (((w.alloc (.cells #[.int .i64 s0, .int .i64 s1] 23)).alloc (.cells #[.int .i64 t0, .int .i64 t1] 23)).alloc (.cells #[.int .i64 s0, .int .i64 t1] 23)) = W := ⟨_, rfl⟩
    rw [hW0]
    try simp only [Nat.add_assoc, Nat.reduceAdd]
    have hst_W0 : Steps (fun _ => False) w W0 := by rw [← hW0]; exact ((Steps.alloc _ w _).trans (Steps.alloc (fun _ => False) _ _) (fun _ _ h => h)).trans (Steps.alloc (fun _ => False) _ _) (fun _ _ h => h)
    have hz_W0 : W0.heap.size = w.heap.size + 3 := by rw [← hW0]; simp
    have g0_W0 : W0.heap[w.heap.size]? = some (.cells #[.int .i64 s0, .int .i64 s1] 23) := by rw [← hW0]; simp only [alloc_get, World.size_alloc]; repeat (first | exact if_pos trivial | exact if_pos (by omega) | rw [if_neg (by omega)])
    have g1_W0 : W0.heap[w.heap.size + 1]? = some (.cells #[.int .i64 t0, .int .i64 t1] 23) := by rw [← hW0]; simp only [alloc_get, World.size_alloc]; repeat (first | exact if_pos trivial | exact if_pos (by omega) | rw [if_neg (by omega)])
    have g2_W0 : W0.heap[w.heap.size + 2]? = some (.cells #[.int .i64 s0, .int .i64 t1] 23) := by rw [← hW0]; simp only [alloc_get, World.size_alloc]; repeat (first | exact if_pos trivial | exact if_pos (by omega) | rw [if_neg (by omega)])
    clear hW0
    have hb0 : Below w.heap.size w W0 := hst_W0.below (Nat.le_refl _) (fun _ _ h => h)
    have c0 := cell_block g2_W0 0
    have c1 := cell_block g2_W0 1
    simp only [gA, gB, gC] at c0 c1
    have em : m = s0 := by have := hm.out; omega
    have en : n = t1 := by have := hn.out; omega
    exact bodyPost_ret (v := .agg #[.int .i64 s0, .int .i64 t1]) (by simp [results, Try.results58, go_sem, c0, c1]) rfl ⟨by rw [em, en], hb0⟩
  · have h1 : s0 ≤ t0 := by assumption
    have h2 : t1 ≤ s1 := by assumption
    obtain ⟨W0, hW0⟩ : ∃ W, (((w.alloc (.cells #[.int .i64 s0, .int .i64 s1] 23)).alloc (.cells #[.int .i64 t0, .int .i64 t1] 23)).alloc (.cells #[.int .i64 s0, .int .i64 s1] 23)) = W := ⟨_, rfl⟩
    rw [hW0]
    try simp only [Nat.add_assoc, Nat.reduceAdd]
    have hst_W0 : Steps (fun _ => False) w W0 := by rw [← hW0]; exact ((Steps.alloc _ w _).trans (Steps.alloc (fun _ => False) _ _) (fun _ _ h => h)).trans (Steps.alloc (fun _ => False) _ _) (fun _ _ h => h)
    have hz_W0 : W0.heap.size = w.heap.size + 3 := by rw [← hW0]; simp
    have g0_W0 : W0.heap[w.heap.size]? = some (.cells #[.int .i64 s0, .int .i64 s1] 23) := by rw [← hW0]; simp only [alloc_get, World.size_alloc]; repeat (first | exact if_pos trivial | exact if_pos (by omega) | rw [if_neg (by omega)])
    have g1_W0 : W0.heap[w.heap.size + 1]? = some (.cells #[.int .i64 t0, .int .i64 t1] 23) := by rw [← hW0]; simp only [alloc_get, World.size_alloc]; repeat (first | exact if_pos trivial | exact if_pos (by omega) | rw [if_neg (by omega)])
    have g2_W0 : W0.heap[w.heap.size + 2]? = some (.cells #[.int .i64 s0, .int .i64 s1] 23) := by rw [← hW0]; simp only [alloc_get, World.size_alloc]; repeat (first | exact if_pos trivial | exact if_pos (by omega) | rw [if_neg (by omega)])
    clear hW0
    have hb0 : Below w.heap.size w W0 := hst_W0.below (Nat.le_refl _) (fun _ _ h => h)
    have c0 := cell_block g2_W0 0
    have c1 := cell_block g2_W0 1
    simp only [gA, gB, gC] at c0 c1
    have em : m = s0 := by have := hm.out; omega
    have en : n = s1 := by have := hn.out; omega
    exact bodyPost_ret (v := .agg #[.int .i64 s0, .int .i64 s1]) (by simp [results, Try.results58, go_sem, c0, c1]) rfl ⟨by rw [em, en], hb0⟩

theorem irempty_any (s : Sp) (w : World) :
    Calls Try.prog 65 #[.agg #[.int .i64 s.lo, .int .i64 s.hi]] w fun e w' => e = .returned (.bool s.none) ∧ Below w.heap.size w w' := by
  go_enter Try.func65, Try.ntmps65
  go_wp2
  go_ret
  exact ⟨rfl, (Below.refl _ _).alloc (Nat.le_refl _) _⟩

theorem irless_any (s t : Sp) (w : World) (hs : s.small) (ht : t.small) :
    Calls Try.prog 66 #[.agg #[.int .i64 s.lo, .int .i64 s.hi], .agg #[.int .i64 t.lo, .int .i64 t.hi]] w fun e w' => e = .returned (.agg #[.int .i64 (s.less t).lo, .int .i64 (s.less t).hi]) ∧ Below w.heap.size w w' := by
  obtain ⟨s0, s1⟩ := s
  obtain ⟨t0, t1⟩ := t
  obtain ⟨⟨a1, a2⟩, ⟨a3, a4⟩⟩ := hs
  obtain ⟨⟨b1, b2⟩, ⟨b3, b4⟩⟩ := ht
  simp only at a1 a2 a3 a4 b1 b2 b3 b4
  have e1 : IntKind.i64.wrap (s0 - t1) = s0 - t1 := by rw [IntKind.wrap_i64]; omega
  have e2 : IntKind.i64.wrap (s1 - t0) = s1 - t0 := by rw [IntKind.wrap_i64]; omega
  show Calls Try.prog 66 #[.agg #[.int .i64 s0, .int .i64 s1], .agg #[.int .i64 t0, .int .i64 t1]] w fun e w' => e = .returned (.agg #[.int .i64 (s0 - t1), .int .i64 (s1 - t0)]) ∧ Below w.heap.size w w'
  go_enter Try.func66, Try.ntmps66
  go_wp2
  obtain ⟨W0, hW0⟩ : ∃ W, (((w.alloc (.cells #[.int .i64 s0, .int .i64 s1] 23)).alloc (.cells #[.int .i64 t0, .int .i64 t1] 23)).alloc (.cells #[.int .i64 (s0 - t1), .int .i64 (s1 - t0)] 23)) = W := ⟨_, rfl⟩
  rw [hW0]
  try simp only [Nat.add_assoc, Nat.reduceAdd]
  have hst_W0 : Steps (fun _ => False) w W0 := by rw [← hW0]; exact ((Steps.alloc _ w _).trans (Steps.alloc (fun _ => False) _ _) (fun _ _ h => h)).trans (Steps.alloc (fun _ => False) _ _) (fun _ _ h => h)
  have hz_W0 : W0.heap.size = w.heap.size + 3 := by rw [← hW0]; simp
  have g0_W0 : W0.heap[w.heap.size]? = some (.cells #[.int .i64 s0, .int .i64 s1] 23) := by rw [← hW0]; simp only [alloc_get, World.size_alloc]; repeat (first | exact if_pos trivial | exact if_pos (by omega) | rw [if_neg (by omega)])
  have g1_W0 : W0.heap[w.heap.size + 1]? = some (.cells #[.int .i64 t0, .int .i64 t1] 23) := by rw [← hW0]; simp only [alloc_get, World.size_alloc]; repeat (first | exact if_pos trivial | exact if_pos (by omega) | rw [if_neg (by omega)])
  have g2_W0 : W0.heap[w.heap.size + 2]? = some (.cells #[.int .i64 (s0 - t1), .int .i64 (s1 - t0)] 23) := by rw [← hW0]; simp only [alloc_get, World.size_alloc]; repeat (first | exact if_pos trivial | exact if_pos (by omega) | rw [if_neg (by omega)])
  clear hW0
  have hb0 : Below w.heap.size w W0 := hst_W0.below (Nat.le_refl _) (fun _ _ h => h)
  have c0 := cell_block g2_W0 0
  have c1 := cell_block g2_W0 1
  simp only [gA, gB, gC] at c0 c1
  exact bodyPost_ret (v := .agg #[.int .i64 (s0 - t1), .int .i64 (s1 - t0)]) (by simp [results, Try.results66, go_sem, c0, c1]) rfl ⟨rfl, hb0⟩

def ITr.hasN (t : ITr) (n : Int) : Bool := decide (t.a = n) || decide (t.b = n) || decide (t.c = n)
theorem irhas_any (t : ITr) (n : Int) (w : World) :
    Calls Try.prog 62 #[.agg #[.int .i64 t.a, .int .i64 t.b, .int .i64 t.c], .int .i64 n] w fun e w' => e = .returned (.bool (t.hasN n)) ∧ Below w.heap.size w w' := by
  obtain ⟨a, b, c⟩ := t
  have hh : ITr.hasN ⟨a, b, c⟩ n = (decide (a = n) || decide (b = n) || decide (c = n)) := rfl
  have HH := Lib.hid hh
  clear hh
  by_cases ha : a = n
  · have ea : (a == n) = true := by simp [ha]
    have hr : ITr.hasN ⟨a, b, c⟩ n = true := by rw [HH.out]; simp [ha]
    have HR := Lib.hid hr
    clear hr ha
    go_enter Try.func62, Try.ntmps62
    go_wp2
    go_ret
    exact ⟨by rw [HR.out]; rfl, (Below.refl _ _).alloc (Nat.le_refl _) _⟩
  · have ea : (a == n) = false := by simpa using ha
    by_cases hb : b = n
    · have eb : (b == n) = true := by simp [hb]
      have hr : ITr.hasN ⟨a, b, c⟩ n = true := by rw [HH.out]; simp [hb]
      have HR := Lib.hid hr
      clear hr ha hb
      go_enter Try.func62, Try.ntmps62
      go_wp2
      go_ret
      exact ⟨by rw [HR.out]; rfl, (Below.refl _ _).alloc (Nat.le_refl _) _⟩
    · have eb : (b == n) = false := by simpa using hb
      have hr : ITr.hasN ⟨a, b, c⟩ n = (c == n) := by rw [HH.out, Bool.eq_iff_iff]; simp [ha, hb]
      have HR := Lib.hid hr
      clear hr ha hb
      go_enter Try.func62, Try.ntmps62
      go_wp2
      go_ret
      exact ⟨by rw [HR.out]; rfl, (Below.refl _ _).alloc (Nat.le_refl _) _⟩
end Go.Proofs.Ytacioedolmaofaa
