/- The truth of layer 2, drawn: numbers by remainders, one after the other. -/
import Derived.Test.YtacioedolmaofaaLBA6
import Derived.Test.YtacioedolmaofaaLBA4
import Derived.BigRegion
import Derived.IntWalk
namespace Go.Proofs.Ytacioedolmaofaa
open Go.RowKit Go.Shelf
set_option maxHeartbeats 12800000
set_option maxRecDepth 100000
set_option linter.unusedSimpArgs false
set_option linter.unusedVariables false

/-- A slice at a reads as these numbers, in a block before B. -/
def U16B (w : World) (B : Nat) (a : Option Addr) (xs : List Nat) : Prop := ∀ k (h : k < xs.length), ∃ q o, a = some ⟨q, o, none⟩ ∧ q < B ∧ w.cell? ⟨q, o + k, none⟩ = some (.int .u16 xs[k])

/-- What the drawing holds: how many were drawn, k at most, and the numbers. -/
structure DrawSt (w : World) (pc pb : Nat) (a : Option Addr) (c : Nat) (xs : List Nat) (k : Nat) : Prop where
  cnt : ∃ m : Nat, m ≤ k ∧ w.heap[pc]? = some (.cells #[.int .i64 m] 3)
  by' : w.heap[pb]? = some (.cells #[.slice a xs.length c] 51)
  nums : U16B w pc a xs
  lt : pb < pc
theorem DrawSt.size {w : World} {pc pb : Nat} {a : Option Addr} {c : Nat} {xs : List Nat} {k : Nat} (h : DrawSt w pc pb a c xs k) : pc < w.heap.size := by
  obtain ⟨m, _, h1⟩ := h.cnt
  exact (Array.getElem?_eq_some_iff.1 h1).1
theorem DrawSt.other {w w' : World} {pc pb : Nat} {a : Option Addr} {c : Nat} {xs : List Nat} {k : Nat} (h : DrawSt w pc pb a c xs k) (hb : ∀ i, i ≤ pc → w'.heap[i]? = w.heap[i]?) : DrawSt w' pc pb a c xs k := by
  obtain ⟨⟨m, hm, h1⟩, h2, h3, h4⟩ := h
  refine ⟨⟨m, hm, (hb pc (Nat.le_refl _)).trans h1⟩, (hb pb (Nat.le_of_lt h4)).trans h2, fun i hi => ?_, h4⟩
  obtain ⟨q, o, h5, h6, h7⟩ := h3 i hi
  exact ⟨q, o, h5, h6, (World.cell?_of_block (hb q (Nat.le_of_lt h6))).trans h7⟩
theorem DrawSt.below {w w' : World} {pc pb : Nat} {a : Option Addr} {c : Nat} {xs : List Nat} {k : Nat} (h : DrawSt w pc pb a c xs k) (hb : Below w.heap.size w w') : DrawSt w' pc pb a c xs k :=
  h.other (fun i hi => hb.block i (Nat.lt_of_le_of_lt hi h.size))
theorem DrawSt.more {w : World} {pc pb : Nat} {a : Option Addr} {c : Nat} {xs : List Nat} {k k' : Nat} (h : DrawSt w pc pb a c xs k) (hk : k ≤ k') : DrawSt w pc pb a c xs k' := by
  obtain ⟨⟨m, hm, h1⟩, h2, h3, h4⟩ := h
  exact ⟨⟨m, Nat.le_trans hm hk, h1⟩, h2, h3, h4⟩

/-- What is known of the numbers. -/
structure NumsOk (xs : List Nat) : Prop where
  pos : 0 < xs.length
  len : xs.length ≤ 9223372036854775807
  lt : ∀ x ∈ xs, x < 65536

def DrawPost (n : Int) (pc pb : Nat) (a : Option Addr) (c : Nat) (xs : List Nat) (k : Nat) (w : World) (e : Ending) (w' : World) : Prop :=
  ∃ r : Nat, (r : Int) < n ∧ e = .returned (.int .i64 r) ∧ DrawSt w' pc pb a c xs (k + 1) ∧ w.grownBy w' (some pc)

theorem idraw_any (n : Int) (pc pb : Nat) (a : Option Addr) (c : Nat) (xs : List Nat) (k : Nat) (hx : NumsOk xs) (hn : 1 ≤ n ∧ n ≤ 1000) (hk : k ≤ 1000) (w : World) (h : DrawSt w pc pb a c xs k) :
    Calls Try.prog 61 #[.int .i64 n, .pointer (some ⟨pc, 0, none⟩), .pointer (some ⟨pb, 0, none⟩)] w (DrawPost n pc pb a c xs k w) := by
  obtain ⟨⟨m, hm, g1⟩, g2, g3, g4⟩ := h
  obtain ⟨hn1, hn2⟩ := hn
  obtain ⟨x1, x2, x3⟩ := hx
  have hmi : (m : Int) ≤ 1000 := by omega
  have c1 := cell_block g1 0
  have f1 := frozen_block g1 0
  simp only [gA, gB, gC] at c1
  obtain ⟨W1, hW1⟩ : ∃ W1, w.setCell ⟨pc, 0, none⟩ (.int .i64 ((m + 1 : Nat) : Int)) = W1 := ⟨_, rfl⟩
  have hlt : (m + 1) % xs.length < xs.length := Nat.mod_lt _ x1
  obtain ⟨q, o, rfl, hq, hc⟩ := g3 _ hlt
  have hxm := x3 _ (List.getElem_mem hlt)
  have e1 : W1.heap[pc]? = some (.cells #[.int .i64 ((m + 1 : Nat) : Int)] 3) := by
    rw [← hW1]; exact heap_setCell_same _ _ 0 _ _ _ g1
  have ho : ∀ i, i ≠ pc → W1.heap[i]? = w.heap[i]? := fun i hi => by rw [← hW1]; exact Below.heap_setCell _ _ _ _ (by exact hi)
  have hgr : w.grownBy W1 (some pc) := by
    rw [← hW1]
    exact ⟨rfl, rfl, rfl, by simp, fun i _ hne => Below.heap_setCell _ _ _ _ (fun e => hne (by rw [e]))⟩
  have HG := Lib.hid hgr
  have hst : DrawSt W1 pc pb (some ⟨q, o, none⟩) c xs (k + 1) := by
    refine ⟨⟨m + 1, by omega, e1⟩, (ho pb (by omega)).trans g2, fun i hi => ?_, g4⟩
    obtain ⟨q', o', h5, h6, h7⟩ := g3 i hi
    exact ⟨q', o', h5, h6, (World.cell?_of_block (ho q' (by omega))).trans h7⟩
  have HST := Lib.hid hst
  have S1 : ∀ W', Below W1.heap.size W1 W' → W'.cell? ⟨pc, 0, none⟩ = some (.int .i64 ((m + 1 : Nat) : Int)) := fun W' h => cell_later h (cell_block e1 0)
  have S2 : ∀ W', Below W1.heap.size W1 W' → W'.cell? ⟨pb, 0, none⟩ = some (.slice (some ⟨q, o, none⟩) xs.length c) := fun W' h => cell_later h (cell_block ((ho pb (by omega)).trans g2) 0)
  have hcW : W1.cell? ⟨q, o + (m + 1) % xs.length, none⟩ = some (.int .u16 xs[(m + 1) % xs.length]) := (World.cell?_of_block (ho q (by omega))).trans hc
  generalize xs[(m + 1) % xs.length] = x at hc hxm hcW
  have S3 : ∀ W', Below W1.heap.size W1 W' → W'.cell? ⟨q, o + (m + 1) % xs.length, none⟩ = some (.int .u16 x) := fun W' h => cell_later h hcW
  have hxi : (x : Int) < 65536 := by omega
  clear hgr hst ho e1 g1 g2 g3 g4 hc hcW x3 hq
  generalize xs.length = L at x1 x2 hlt S2 S3
  have hL : (0 : Int) < (L : Int) := by omega
  have T1 : ((m + 1 : Nat) : Int).tmod (L : Int) = (((m + 1) % L : Nat) : Int) := by
    rw [Int.tmod_eq_emod_of_nonneg (by omega)]; rfl
  have T2 : 0 ≤ ((m + 1 : Nat) : Int) := by omega
  have hlti : (((m + 1) % L : Nat) : Int) < (L : Int) := by omega
  generalize (m + 1) % L = j at T1 hlt S3 hlti
  clear x2
  go_enter Try.func61, Try.ntmps61
  go_upto_region 2 with fail
  have hW2 : w.setCell ⟨pc, 0, none⟩ (.int .i64 ((m : Int) + 1)) = W1 := by rw [← hW1]; rfl
  rw [hW2]
  have hmm : ((m + 1 : Nat) : Int) ≤ 1001 := by omega
  have HT1 := T1
  generalize ((m + 1 : Nat) : Int) = M at S1 T1 T2 hmm
  have T0 : IntKind.i64.wrap (x : Int) = (x : Int) := by rw [IntKind.wrap_i64]; omega
  have T3 : IntKind.i64.wrap (23 * M) = 23 * M := by rw [IntKind.wrap_i64]; omega
  have T4 : IntKind.i64.wrap ((x : Int) + 23 * M) = (x : Int) + 23 * M := by rw [IntKind.wrap_i64]; omega
  obtain ⟨r, T5, T6, hrn⟩ : ∃ r : Nat, ((x : Int) + 23 * M).tmod n = (r : Int) ∧ ((x : Int) + 23 * M) % n = (r : Int) ∧ (r : Int) < n := by
    refine ⟨(((x : Int) + 23 * M) % n).toNat, ?_, ?_, ?_⟩
    · rw [Int.tmod_eq_emod_of_nonneg (by omega), Int.toNat_of_nonneg (Int.emod_nonneg _ (by omega))]
    · rw [Int.toNat_of_nonneg (Int.emod_nonneg _ (by omega))]
    · rw [Int.toNat_of_nonneg (Int.emod_nonneg _ (by omega))]; exact Int.emod_lt_of_pos _ (by omega)
  have HRN := Lib.hid hrn
  have hn0 : ¬ n = 0 := by omega
  have hL0 : ¬ L = 0 := by omega
  have hMx : 0 ≤ (x : Int) + 23 * M := by omega
  clear hW1 hW2 HT1 c1 f1 hrn
  refine (wpIn_wide (n := 1)).1 ?_
  refine wpIn_region_Wn (S := Below W1.heap.size W1) 14 (by kernel_rfl) (by kernel_rfl) (below_drew W1) (fun hHeld => ?_)
  refine wTk 0 7 ?_ ?_ ?_
  rotate_left
  · intro o h w k; (try dsimp only at k); simp only [gA, gB, gC, gG] at h; subst h; go_simp; try with_reducible rfl
  simp only [Act.put, gD, gE, gF]
  refine wTk 1 8 ?_ ?_ ?_
  rotate_left
  · intro o h w k; (try dsimp only at k); simp only [gA, gB, gC, gG] at h; subst h; go_simp; try with_reducible rfl
  simp only [Act.put, gD, gE, gF]
  refine wTk 2 9 ?_ ?_ ?_
  rotate_left
  · intro o h w k; (try dsimp only at k); simp only [gA, gB, gC, gG] at h; subst h; go_simp; try with_reducible rfl
  simp only [Act.put, gD, gE, gF]
  refine wTk 3 10 ?_ ?_ ?_
  rotate_left
  · intro o h w k; (try dsimp only at k); simp only [gA, gB, gC, gG] at h; subst h; go_simp; try with_reducible rfl
  simp only [Act.put, gD, gE, gF]
  refine wTk 4 11 ?_ ?_ ?_
  rotate_left
  · intro o h w k; (try dsimp only at k); simp only [gA, gB, gC, gG] at h; subst h; go_simp; try with_reducible rfl
  simp only [Act.put, gD, gE, gF]
  refine wTk 5 12 ?_ ?_ ?_
  rotate_left
  · intro o h w k; (try dsimp only at k); simp only [gA, gB, gC, gG] at h; subst h; go_simp; try with_reducible rfl
  simp only [Act.put, gD, gE, gF]
  refine wTk 6 13 ?_ ?_ ?_
  rotate_left
  · intro o h w k; (try dsimp only at k); simp only [gA, gB, gC, gG] at h; subst h; go_simp; try with_reducible rfl
  simp only [Act.put, gD, gE, gF]
  refine wTk 7 14 ?_ ?_ ?_
  rotate_left
  · intro o h w k; (try dsimp only at k); simp only [gA, gB, gC, gG] at h; subst h; go_simp; try with_reducible rfl
  simp only [Act.put, gD, gE, gF]
  refine wTk 8 15 ?_ ?_ ?_
  rotate_left
  · intro o h w k; (try dsimp only at k); simp only [gA, gB, gC, gG] at h; subst h; go_simp; try with_reducible rfl
  simp only [Act.put, gD, gE, gF]
  refine wTk 9 16 ?_ ?_ ?_
  rotate_left
  · intro o h w k; (try dsimp only at k); simp only [gA, gB, gC, gG] at h; subst h; go_simp; try with_reducible rfl
  simp only [Act.put, gD, gE, gF]
  refine wTk 10 17 ?_ ?_ ?_
  rotate_left
  · intro o h w k; (try dsimp only at k); simp only [gA, gB, gC, gG] at h; subst h; go_simp; try with_reducible rfl
  simp only [Act.put, gD, gE, gF]
  refine wTk 11 18 ?_ ?_ ?_
  rotate_left
  · intro o h w k; (try dsimp only at k); simp only [gA, gB, gC, gG] at h; subst h; go_simp; try with_reducible rfl
  simp only [Act.put, gD, gE, gF]
  refine wTk 12 19 ?_ ?_ ?_
  rotate_left
  · intro o h w k; (try dsimp only at k); simp only [gA, gB, gC, gG] at h; subst h; go_simp; try with_reducible rfl
  simp only [Act.put, gD, gE, gF]
  refine wTk 13 4 ?_ ?_ ?_
  rotate_left
  · intro o h w k; (try dsimp only at k); simp only [gA, gB, gC, gG] at h; subst h; go_simp; try with_reducible rfl
  simp only [Act.put, gD, gE, gF]
  refine wpAnyW_done (by kernel_rfl) ?_ _
  dsimp only [onNormal]
  clear S1 S2 S3
  go_wp2
  go_ret
  exact ⟨r, HRN.out, rfl, HST.out.below (below_drew W1), HG.out.below3 (below_drew W1)⟩
/-- The drawing, as a value. -/
def drawV (pc pb : Nat) : Value := .func (.func 61) #[] #[.pointer (some ⟨pc, 0, none⟩), .pointer (some ⟨pb, 0, none⟩)]

def DrawsPost (a : Option Addr) (c : Nat) (xs : List Nat) (w : World) (e : Ending) (w' : World) : Prop :=
  ∃ pc pb, e = .returned (drawV pc pb) ∧ DrawSt w' pc pb a c xs 0 ∧ w.heap.size ≤ pb ∧ Below w.heap.size w w'

theorem idraws_any (a : Option Addr) (c : Nat) (xs : List Nat) (w : World) (h : U16B w w.heap.size a xs) :
    Calls Try.prog 29 #[.slice a xs.length c] w (DrawsPost a c xs w) := by
  have H := Lib.hid h
  clear h
  go_enter Try.func29, Try.ntmps29
  go_wp2
  go_ret
  obtain ⟨W0, hW0⟩ : ∃ W, ((w.alloc (.cells #[.slice a xs.length c] 51)).alloc (.cells #[.int .i64 0] 3)) = W := ⟨_, rfl⟩
  rw [hW0]
  try simp only [Nat.add_assoc, Nat.reduceAdd]
  have hst_W0 : Steps (fun _ => False) w W0 := by rw [← hW0]; exact (Steps.alloc _ w _).trans (Steps.alloc (fun _ => False) _ _) (fun _ _ h => h)
  have hz_W0 : W0.heap.size = w.heap.size + 2 := by rw [← hW0]; simp
  have g0_W0 : W0.heap[w.heap.size]? = some (.cells #[.slice a xs.length c] 51) := by rw [← hW0]; simp only [alloc_get, World.size_alloc]; repeat (first | exact if_pos trivial | exact if_pos (by omega) | rw [if_neg (by omega)])
  have g1_W0 : W0.heap[w.heap.size + 1]? = some (.cells #[.int .i64 0] 3) := by rw [← hW0]; simp only [alloc_get, World.size_alloc]; repeat (first | exact if_pos trivial | exact if_pos (by omega) | rw [if_neg (by omega)])
  clear hW0
  have hb0 : Below w.heap.size w W0 := hst_W0.below (Nat.le_refl _) (fun _ _ h => h)
  refine ⟨w.heap.size + 1, w.heap.size, rfl, ⟨⟨0, Nat.le_refl _, g1_W0⟩, g0_W0, fun i hi => ?_, by omega⟩, Nat.le_refl _, hb0⟩
  obtain ⟨q, o, h1, h2, h3⟩ := H.out i hi
  exact ⟨q, o, h1, by omega, cell_later hb0 h3⟩

end Go.Proofs.Ytacioedolmaofaa
