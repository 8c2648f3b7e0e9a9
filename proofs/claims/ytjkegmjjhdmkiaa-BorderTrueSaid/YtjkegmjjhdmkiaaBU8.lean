/- Package border: what is known of a shift; the map's keys. -/
import Derived.Test.YtjkegmjjhdmkiaaBU5
import Derived.Test.YtjkegmjjhdmkiaaBU6
import Derived.Test.YtjkegmjjhdmkiaaBU7
import Derived.Laws.StructEq
import Derived.WalkMore
namespace Go.Proofs.Ytjkegmjjhdmkiaa
open Go.RowKit
set_option maxHeartbeats 1600000
set_option maxRecDepth 100000
set_option linter.unusedSimpArgs false

def shV (s : Int × Int) : Value := .agg #[.int .i64 s.1, .int .i64 s.2]
def mtV (b : Bo) (s : Int × Int) : Value := .agg #[.int .u64 (b.row s 0), .int .u64 (b.row s 1), .int .u64 (b.row s 2), .int .u64 (b.row s 3), .int .u64 (b.row s 4), .int .u64 (b.row s 5)]

theorem shKey : KeyFacts Try.prog 72 shV where
  eq s s' w := by
    refine ⟨s.1 == s'.1 && s.2 == s'.2, ?_, ?_⟩
    · unfold Op.equal shV
      rw [show Op.maxDepth = 9999 + 1 from rfl, run_equalIn_agg _ _ _ _ _ (by kernel_rfl) (by kernel_rfl)]
      go_simp
      by_cases h1 : s.1 = s'.1 <;> by_cases h2 : s.2 = s'.2 <;> simp [h1, h2]
    · rcases s with ⟨a, c⟩; rcases s' with ⟨d, e⟩; simp
  inj s s' h := by
    rcases s with ⟨a, c⟩; rcases s' with ⟨d, e⟩
    simp only [shV, Value.agg.injEq, Array.mk.injEq, List.cons.injEq, Value.int.injEq] at h
    simp [h.1.2, h.2.1.2]
  check em s w := by
    unfold shV
    unfold Instr.checkKey
    go_simp
    unfold Instr.checkKey
    go_simp
  now := ⟨_, rfl, fun s s' => by simp [Instr.sameNow, shV]⟩

/-- The map of what is known holds what is so. -/
def KnownOk (w : World) (r : Nat) (b : Bo) : Prop := ∃ es clk, w.heap[r]? = some (.map es clk) ∧ ∀ en ∈ es, ∃ s, b.shift s = true ∧ en.key = shV s ∧ en.val = mtV b s

/-- A step that turns block r alone, which is a map: all cells read as before. -/
theorem cell_steps {w w' : World} {r : Nat} {es : Array MapEntry} {clk : Nat} (hs : Steps (fun k => k = r) w w') (hr : w.heap[r]? = some (.map es clk)) {a : Addr} {v : Value} (h : w.cell? a = some v) : w'.cell? a = some v := by
  have hne : a.block ≠ r := by
    intro e
    unfold World.cell? at h
    rw [e, hr] at h
    simp at h
  rw [World.cell?_of_block (w := w) (hs.block a.block (World.block_lt_of_cell? w a h) hne)]
  exact h

theorem EdAt.steps {w w' : World} {r : Nat} {es : Array MapEntry} {clk : Nat} (hs : Steps (fun k => k = r) w w') (hr : w.heap[r]? = some (.map es clk)) {bl o : Nat} {x : Ed} (h : EdAt w bl o x) : EdAt w' bl o x := by
  obtain ⟨a0, a1, a2, a3, a4, a5, a6⟩ := h
  exact ⟨cell_steps hs hr a0, cell_steps hs hr a1, cell_steps hs hr a2, cell_steps hs hr a3, cell_steps hs hr a4, cell_steps hs hr a5, cell_steps hs hr a6⟩

theorem EdSl.steps {w w' : World} {r : Nat} {es : Array MapEntry} {clk : Nat} (hs : Steps (fun k => k = r) w w') (hr : w.heap[r]? = some (.map es clk)) {a : Option Addr} {l : List Ed} (h : EdSl w a l) : EdSl w' a l := fun k hk => by
  obtain ⟨bl, o, e, hb, hx⟩ := h k hk
  exact ⟨bl, o, e, Nat.lt_of_lt_of_le hb hs.size, hx.steps hs hr⟩

theorem BoAt.steps {w w' : World} {r : Nat} {es : Array MapEntry} {clk : Nat} (hs : Steps (fun k => k = r) w w') (hr : w.heap[r]? = some (.map es clk)) {p : Nat} {b : Bo} {fa sa : Option Addr} {fc sc : Nat} (h : BoAt w p b fa sa fc sc) : BoAt w' p b fa sa fc sc :=
  ⟨cell_steps hs hr h.c0, cell_steps hs hr h.c1, cell_steps hs hr h.c2, cell_steps hs hr h.c3, cell_steps hs hr h.c4, cell_steps hs hr h.c5⟩

theorem BrdAt.steps {w w' : World} {r : Nat} {b : Bo} (hs : Steps (fun k => k = r) w w') (hk : KnownOk w r b) {p : Nat} {fa sa : Option Addr} {fc sc fset sset : Nat} (h : BrdAt w p b fa sa fc sc fset sset r) : BrdAt w' p b fa sa fc sc fset sset r := by
  obtain ⟨es, clk, hr, _⟩ := hk
  exact ⟨h.bo.steps hs hr, cell_steps hs hr h.c6, cell_steps hs hr h.c7, cell_steps hs hr h.c8, h.f.steps hs hr, h.s.steps hs hr⟩

theorem BrdAt.later {w w' : World} {r : Nat} {b : Bo} {p : Nat} {fa sa : Option Addr} {fc sc fset sset : Nat} (h : BrdAt w p b fa sa fc sc fset sset r) (hb : Below w.heap.size w w') : BrdAt w' p b fa sa fc sc fset sset r :=
  ⟨h.bo.later hb, cell_later hb h.c6, cell_later hb h.c7, cell_later hb h.c8, h.f.below hb (Nat.le_refl _), h.s.below hb (Nat.le_refl _)⟩

def rowCells (f : Nat → Nat) : Array Value := #[.int .u64 (f 0), .int .u64 (f 1), .int .u64 (f 2), .int .u64 (f 3), .int .u64 (f 4), .int .u64 (f 5)]
theorem rowCells_set (f : Nat → Nat) (k v : Nat) : (rowCells f).setIfInBounds k (.int .u64 v) = rowCells (fun i => if i = k then v else f i) := by
  match k with
  | 0 => rfl
  | 1 => rfl
  | 2 => rfl
  | 3 => rfl
  | 4 => rfl
  | 5 => rfl
  | k + 6 =>
    unfold rowCells
    simp
theorem rowCells_get (f : Nat → Nat) (k : Nat) (hk : k < 6) : (rowCells f)[k]? = some (.int .u64 (f k)) := by
  match k, hk with
  | 0, _ => rfl
  | 1, _ => rfl
  | 2, _ => rfl
  | 3, _ => rfl
  | 4, _ => rfl
  | 5, _ => rfl
  | k + 6, h => omega
theorem rowCells_congr {f g : Nat → Nat} (h : ∀ i, i < 6 → f i = g i) : rowCells f = rowCells g := by
  unfold rowCells; rw [h 0 (by omega), h 1 (by omega), h 2 (by omega), h 3 (by omega), h 4 (by omega), h 5 (by omega)]

/-- What the rows hold while star k is looked at, n stars of the second zone having been. -/
def rowTo (b : Bo) (s : Int × Int) (k n : Nat) (i : Nat) : Nat := if i < k then b.row s i else if i = k then maskOf (b.same s k) n else 0
theorem rowTo_next (b : Bo) (s : Int × Int) (k : Nat) (i : Nat) : rowTo b s k b.ss.length i = rowTo b s (k + 1) 0 i := by
  unfold rowTo Bo.row
  by_cases h : i < k
  · simp [h, Nat.lt_succ_of_lt h]
  · by_cases h2 : i = k
    · subst h2; simp
    · simp [h, h2, show ¬ i < k + 1 by omega, maskOf]
theorem Bo.row_out (b : Bo) (s : Int × Int) (i : Nat) (h : b.fs.length ≤ i) : b.row s i = 0 := by
  unfold Bo.row
  rw [maskOf_congr (q := fun _ => false) (fun k _ => by unfold Bo.same; rw [List.getElem?_eq_none h])]
  exact maskOf_false _
theorem rowTo_end (b : Bo) (s : Int × Int) (i : Nat) : rowTo b s b.fs.length 0 i = b.row s i := by
  unfold rowTo
  by_cases h : i < b.fs.length
  · simp [h]
  · rw [Bo.row_out b s i (by omega)]
    simp [h, maskOf]
theorem rowTo_lt (b : Bo) (s : Int × Int) (k n i : Nat) (hl : b.ss.length ≤ 6) (hn : n ≤ 6) : rowTo b s k n i < 2 ^ 6 := by
  unfold rowTo
  split
  · exact Nat.lt_of_lt_of_le (maskOf_lt _ _) (Nat.pow_le_pow_right (by omega) hl)
  · split
    · exact Nat.lt_of_lt_of_le (maskOf_lt _ _) (Nat.pow_le_pow_right (by omega) hn)
    · exact Nat.two_pow_pos _

theorem Bo.same_get (b : Bo) (s : Int × Int) (i k : Nat) (hi : i < b.fs.length) (hk : k < b.ss.length) : b.same s i k = b.fs[i].same b.ss[k] s := by
  unfold Bo.same
  rw [List.getElem?_eq_getElem hi, List.getElem?_eq_getElem hk]
theorem rowTo_no (b : Bo) (s : Int × Int) (k n : Nat) (h : b.same s k n = false) : rowTo b s k (n + 1) = rowTo b s k n := by
  funext i
  have hm : maskOf (b.same s k) (n + 1) = maskOf (b.same s k) n := by simp [maskOf, h]
  unfold rowTo
  rw [hm]
theorem rowTo_yes (b : Bo) (s : Int × Int) (k n : Nat) (h : b.same s k n = true) : rowTo b s k (n + 1) = fun i => if i = k then rowTo b s k n k ||| 2 ^ n else rowTo b s k n i := by
  funext i
  by_cases hi : i = k
  · subst hi
    simp [rowTo, maskOf, h]
  · simp [rowTo, hi]

def MatchesPost (b : Bo) (s : Int × Int) (r : Nat) (w : World) (e : Ending) (w' : World) : Prop := e = .returned (mtV b s) ∧ Steps (fun k => k = r) w w' ∧ KnownOk w' r b

theorem matches_any (p : Nat) (b : Bo) (fa sa : Option Addr) (fc sc fset sset r : Nat) (s : Int × Int) (w : World) (h : BrdAt w p b fa sa fc sc fset sset r)
    (hk : KnownOk w r b) (hok : b.ok = true) (hsh : b.shift s = true) :
    Calls Try.prog 45 #[.pointer (some ⟨p, 0, none⟩), .agg #[.int .i64 s.1, .int .i64 s.2]] w (MatchesPost b s r w) := by
  obtain ⟨es, clk, hr, hes⟩ := hk
  have HES := Lib.hid hes
  clear hes
  have hrl : r < w.heap.size := (Array.getElem?_eq_some_iff.1 hr).1
  go_enter Try.func45, Try.ntmps45
  go_upto_region 1 with fail
  obtain ⟨w1, hw1⟩ : ∃ w1, ((w.alloc (.cells #[.int .i64 s.1, .int .i64 s.2] 72)).alloc (.cells (rowCells fun _ => 0) 79)) = w1 := ⟨_, rfl⟩
  have hw1' := hw1
  unfold rowCells at hw1'
  rw [show ((0 : Nat) : Int) = 0 from rfl] at hw1'
  rw [hw1']
  clear hw1'
  have hb1 : Below w.heap.size w w1 := hw1 ▸ (below_alloc _ _).trans ((below_alloc _ _).mono (by simp))
  have hz1 : w1.heap.size = w.heap.size + 2 := by rw [← hw1]; simp
  have hs0 : w1.cell? ⟨w.heap.size, 0, none⟩ = some (.int .i64 s.1) := by rw [← hw1]; exact cell_later (below_alloc _ _) (cell_new _ _ _ _ _ rfl)
  have hs1 : w1.cell? ⟨w.heap.size, 1, none⟩ = some (.int .i64 s.2) := by rw [← hw1]; exact cell_later (below_alloc _ _) (cell_new _ _ _ _ _ rfl)
  have hq1 : w1.heap[w.heap.size + 1]? = some (.cells (rowCells fun _ => 0) 79) := by rw [← hw1, ← World.size_alloc w (.cells #[.int .i64 s.1, .int .i64 s.2] 72)]; exact obj_new _ _
  have hB1 := h.later hb1
  have hr1 := obj_later hb1 hr
  clear hw1
  have HZ1 := Lib.hid hz1
  clear hz1
  have e8 := held hB1.c8 (Nat.le_refl _)
  have e0 := held hs0 (Nat.le_refl _)
  have e1 := held hs1 (Nat.le_refl _)
  have hkeys : ∀ en ∈ es, ∃ s', en.key = shV s' := fun en hen => by obtain ⟨s', _, h2, _⟩ := HES.out en hen; exact ⟨s', h2⟩
  have hlook := fun (W : World) (hW : Below w1.heap.size w1 W) => lookup_run shKey (t := 111) (et := 79) rfl (z := .agg #[.int .u64 0, .int .u64 0, .int .u64 0, .int .u64 0, .int .u64 0, .int .u64 0]) (fun w => by go_simp) s (obj_later hW hr1) hkeys
  unfold shV at hlook
  obtain ⟨g, q, HL, hq⟩ : ∃ (g : Nat → Nat) (q : Bool), (∀ W, Below w1.heap.size w1 W → (Instr.lookup 111 (.map (some r)) (.agg #[.int .i64 s.1, .int .i64 s.2]) true).run Try.prog W =
      .ok (.tuple #[.agg #[.int .u64 (g 0), .int .u64 (g 1), .int .u64 (g 2), .int .u64 (g 3), .int .u64 (g 4), .int .u64 (g 5)], .bool q]) W) ∧ (q = true → g = b.row s) ∧ (q = false → ∀ en ∈ es, en.key ≠ shV s) := by
    by_cases hin : ∃ en ∈ es, en.key = shV s
    · refine ⟨b.row s, true, fun W hW => ?_, fun _ => rfl, fun e => by cases e⟩
      rcases hlook W hW with ⟨_, h2⟩ | ⟨en, hen, h1, h2⟩
      · obtain ⟨en, hen, h3⟩ := hin
        exact absurd h3 (h2 en hen)
      · obtain ⟨s', _, h4, h5⟩ := HES.out en hen
        have : s' = s := shKey.inj _ _ (h4.symm.trans h2)
        subst this
        rw [h1, h5]
        rfl
    · refine ⟨fun _ => 0, false, fun W hW => ?_, fun e => (by cases e), fun _ en hen h => hin ⟨en, hen, h⟩⟩
      rcases hlook W hW with ⟨h1, h2⟩ | ⟨en, hen, h1, h2⟩
      · exact h1
      · exact absurd ⟨en, hen, h2⟩ hin
  clear hlook
  have HQ := Lib.hid hq
  clear hq
  go_cut [5, 6] (fun s5 s6 wx => ∃ q1, s5 = .pointer (some ⟨q1, 0, none⟩) ∧ s6 = .bool q ∧ w1.heap.size ≤ q1 ∧ wx.heap[q1]? = some (.cells (rowCells g) 79) ∧ Below w1.heap.size w1 wx)
  case first =>
    refine wp_region_mix (S := fun W => Below w1.heap.size w1 W) 12 (by kernel_rfl) (by kernel_rfl) (Below.refl _ _).drew (fun hHeld => ?_)
    refine wpAnyH_takeD 0 10 (v := ?_) (by kernel_rfl) (by kernel_rfl) (by kernel_rfl) (by kernel_rfl) (fun _ _ _ h => h) ?_ (by assumption) ?_
    rotate_left
    · intro oi hoi w hSw; (try dsimp only at hSw); simp only [List.getElem?_toArray, List.getElem?_cons_zero, List.getElem?_cons_succ, Option.some.injEq] at hoi; subst hoi; go_simp; try with_reducible rfl
    simp only [Act.put, List.setIfInBounds_toArray, List.set_cons_zero, List.set_cons_succ]
    refine wpAnyH_takeD 1 11 (v := ?_) (by kernel_rfl) (by kernel_rfl) (by kernel_rfl) (by kernel_rfl) (fun _ _ _ h => h) ?_ (by assumption) ?_
    rotate_left
    · intro oi hoi w hSw; (try dsimp only at hSw); simp only [List.getElem?_toArray, List.getElem?_cons_zero, List.getElem?_cons_succ, Option.some.injEq] at hoi; subst hoi; go_simp; try with_reducible rfl
    simp only [Act.put, List.setIfInBounds_toArray, List.set_cons_zero, List.set_cons_succ]
    refine wpAnyH_takeD 2 12 (v := ?_) (by kernel_rfl) (by kernel_rfl) (by kernel_rfl) (by kernel_rfl) (fun _ _ _ h => h) ?_ (by assumption) ?_
    rotate_left
    · intro oi hoi w hSw; (try dsimp only at hSw); simp only [List.getElem?_toArray, List.getElem?_cons_zero, List.getElem?_cons_succ, Option.some.injEq] at hoi; subst hoi; go_simp; try with_reducible rfl
    simp only [Act.put, List.setIfInBounds_toArray, List.set_cons_zero, List.set_cons_succ]
    refine wpAnyH_takeD 3 13 (v := ?_) (by kernel_rfl) (by kernel_rfl) (by kernel_rfl) (by kernel_rfl) (fun _ _ _ h => h) ?_ (by assumption) ?_
    rotate_left
    · intro oi hoi w hSw; (try dsimp only at hSw); simp only [List.getElem?_toArray, List.getElem?_cons_zero, List.getElem?_cons_succ, Option.some.injEq] at hoi; subst hoi; go_simp; try with_reducible rfl
    simp only [Act.put, List.setIfInBounds_toArray, List.set_cons_zero, List.set_cons_succ]
    refine wpAnyH_takeD 4 14 (v := ?_) (by kernel_rfl) (by kernel_rfl) (by kernel_rfl) (by kernel_rfl) (fun _ _ _ h => h) ?_ (by assumption) ?_
    rotate_left
    · intro oi hoi w hSw; (try dsimp only at hSw); simp only [List.getElem?_toArray, List.getElem?_cons_zero, List.getElem?_cons_succ, Option.some.injEq] at hoi; subst hoi; go_simp; try with_reducible rfl
    simp only [Act.put, List.setIfInBounds_toArray, List.set_cons_zero, List.set_cons_succ]
    refine wpAnyH_takeD 5 15 (v := ?_) (by kernel_rfl) (by kernel_rfl) (by kernel_rfl) (by kernel_rfl) (fun _ _ _ h => h) ?_ (by assumption) ?_
    rotate_left
    · intro oi hoi w hSw; (try dsimp only at hSw); simp only [List.getElem?_toArray, List.getElem?_cons_zero, List.getElem?_cons_succ, Option.some.injEq] at hoi; subst hoi; go_simp; try with_reducible rfl
    simp only [Act.put, List.setIfInBounds_toArray, List.set_cons_zero, List.set_cons_succ]
    refine wpAnyH_takeD 6 9 (v := ?_) (by kernel_rfl) (by kernel_rfl) (by kernel_rfl) (by kernel_rfl) (fun _ _ _ h => h) ?_ (by assumption) ?_
    rotate_left
    · intro oi hoi w hSw; (try dsimp only at hSw); simp only [List.getElem?_toArray, List.getElem?_cons_zero, List.getElem?_cons_succ, Option.some.injEq] at hoi; subst hoi; go_simp; try with_reducible rfl
    simp only [Act.put, List.setIfInBounds_toArray, List.set_cons_zero, List.set_cons_succ]
    refine wpAnyH_takeD 7 16 (v := ?_) (by kernel_rfl) (by kernel_rfl) (by kernel_rfl) (by kernel_rfl) (fun _ _ _ h => h) ?_ (by assumption) ?_
    rotate_left
    · intro oi hoi w hSw; (try dsimp only at hSw); simp only [List.getElem?_toArray, List.getElem?_cons_zero, List.getElem?_cons_succ, Option.some.injEq] at hoi; subst hoi; go_simp; try with_reducible rfl
    simp only [Act.put, List.setIfInBounds_toArray, List.set_cons_zero, List.set_cons_succ]
    refine wpAnyH_takeD 8 17 (v := ?_) (by kernel_rfl) (by kernel_rfl) (by kernel_rfl) (by kernel_rfl) (fun _ _ _ h => h) ?_ (by assumption) ?_
    rotate_left
    · intro oi hoi w hSw; (try dsimp only at hSw); simp only [List.getElem?_toArray, List.getElem?_cons_zero, List.getElem?_cons_succ, Option.some.injEq] at hoi; subst hoi; go_simp; try with_reducible rfl
    simp only [Act.put, List.setIfInBounds_toArray, List.set_cons_zero, List.set_cons_succ]
    refine wpAnyH_mix [] [⟨9, 5, .cells (rowCells fun _ => 0) 79⟩] _ _ _ w1.heap.size 2 (by kernel_rfl) (by decide) (by kernel_rfl) (by kernel_rfl) (fun k c hk => by simp at hk) ?mnew hHeld (fun W h => h.size) ?mrest
    case mnew =>
      intro z hz
      simp only [List.mem_cons, List.not_mem_nil, or_false] at hz
      subst hz
      exact ⟨fun o ho a W => (by simp only [List.getElem?_toArray, List.getElem?_cons_zero, List.getElem?_cons_succ, Option.some.injEq] at ho; subst ho; go_simp; rfl), fun W hW => hW.alloc hW.size _⟩
    case mrest =>
      intro qs W hl hS hF
      match qs, hl with
      | [q1], _ =>
        obtain ⟨b1, z1⟩ := hF.at' 0 _ q1 rfl rfl
        have j0 := frozen_block z1 0
        have j1 := frozen_block z1 1
        have j2 := frozen_block z1 2
        have j3 := frozen_block z1 3
        have j4 := frozen_block z1 4
        have j5 := frozen_block z1 5
        have k0 := cell_block z1 0
        have k1 := cell_block z1 1
        have k2 := cell_block z1 2
        have k3 := cell_block z1 3
        have k4 := cell_block z1 4
        have k5 := cell_block z1 5
        simp only [rowCells, Int.natCast_zero, List.getElem?_toArray, List.getElem?_cons_zero, List.getElem?_cons_succ] at k0 k1 k2 k3 k4 k5
        simp only [newPuts, callPuts, List.map_cons, List.map_nil, List.foldl_cons, List.foldl_nil, Act.put, List.setIfInBounds_toArray, List.set_cons_zero, List.set_cons_succ]
        refine wpAnyH_one 10 (by kernel_rfl) (by kernel_rfl) ?_
        intro o ho K hK
        simp only [List.getElem?_toArray, List.getElem?_cons_zero, List.getElem?_cons_succ, Option.some.injEq] at ho
        subst ho
        go_simp
        refine hK _ _ ((((((hS.setCell b1 _).setCell b1 _).setCell b1 _).setCell b1 _).setCell b1 _).setCell b1 _) (fun hS => ?_)
        clear hK K
        try simp only [Act.put, List.setIfInBounds_toArray, List.set_cons_zero, List.set_cons_succ]
        refine wpAnyH_one 11 (by kernel_rfl) (by kernel_rfl) ?_
        intro o ho K hK
        simp only [List.getElem?_toArray, List.getElem?_cons_zero, List.getElem?_cons_succ, Option.some.injEq] at ho
        subst ho
        go_simp
        refine hK _ _ (hS) (fun hS => ?_)
        clear hK K
        try simp only [Act.put, List.setIfInBounds_toArray, List.set_cons_zero, List.set_cons_succ]
        refine wpAnyH_done (by kernel_rfl) ?_ _
        go_wp2_with fail
        go_meet
        refine ⟨q1, rfl, rfl, b1, ?_, hS⟩
        exact block_set (block_set (block_set (block_set (block_set (block_set z1 0 _) 1 _) 2 _) 3 _) 4 _) 5 _
  case rest =>
    obtain ⟨q1, rfl, rfl, b1, z1, hbc⟩ := hcut
    have hqc := obj_later hbc hq1
    have hrc := obj_later hbc hr1
    have hBc := hB1.later hbc
    have hsc0 := cell_later hbc hs0
    have hsc1 := cell_later hbc hs1
    have hb2 : Below w.heap.size w wc := hb1.trans (hbc.mono hb1.size)
    clear HL e8 e0 e1 hkeys
    have hbc' := hbc
    cases q with
    | true =>
      have hg := HQ.out.1 rfl
      subst hg
      have k0 := cell_block z1 0
      have k1 := cell_block z1 1
      have k2 := cell_block z1 2
      have k3 := cell_block z1 3
      have k4 := cell_block z1 4
      have k5 := cell_block z1 5
      have j0 := frozen_block hqc 0
      have j1 := frozen_block hqc 1
      have j2 := frozen_block hqc 2
      have j3 := frozen_block hqc 3
      have j4 := frozen_block hqc 4
      have j5 := frozen_block hqc 5
      have i0 := cell_block hqc 0
      have i1 := cell_block hqc 1
      have i2 := cell_block hqc 2
      have i3 := cell_block hqc 3
      have i4 := cell_block hqc 4
      have i5 := cell_block hqc 5
      simp only [rowCells, List.getElem?_toArray, List.getElem?_cons_zero, List.getElem?_cons_succ] at k0 k1 k2 k3 k4 k5 i0 i1 i2 i3 i4 i5
      go_wp2_with fail
      have hX := block_set (block_set (block_set (block_set (block_set (block_set hqc 0 (.int .u64 (b.row s 0))) 1 (.int .u64 (b.row s 1))) 2 (.int .u64 (b.row s 2))) 3 (.int .u64 (b.row s 3))) 4 (.int .u64 (b.row s 4))) 5 (.int .u64 (b.row s 5))
      have hw3 : w.heap.size ≤ w.heap.size + 1 := by omega
      have hbX := (((((hb2.setCell (p := ⟨w.heap.size + 1, 0, none⟩) hw3 (.int .u64 (b.row s 0))).setCell (p := ⟨w.heap.size + 1, 1, none⟩) hw3 (.int .u64 (b.row s 1))).setCell (p := ⟨w.heap.size + 1, 2, none⟩) hw3 (.int .u64 (b.row s 2))).setCell
        (p := ⟨w.heap.size + 1, 3, none⟩) hw3 (.int .u64 (b.row s 3))).setCell (p := ⟨w.heap.size + 1, 4, none⟩) hw3 (.int .u64 (b.row s 4))).setCell (p := ⟨w.heap.size + 1, 5, none⟩) hw3 (.int .u64 (b.row s 5))
      generalize hXX : (((((wc.setCell ⟨w.heap.size + 1, 0, none⟩ (.int .u64 (b.row s 0))).setCell ⟨w.heap.size + 1, 1, none⟩ (.int .u64 (b.row s 1))).setCell ⟨w.heap.size + 1, 2, none⟩ (.int .u64 (b.row s 2))).setCell
        ⟨w.heap.size + 1, 3, none⟩ (.int .u64 (b.row s 3))).setCell ⟨w.heap.size + 1, 4, none⟩ (.int .u64 (b.row s 4))).setCell ⟨w.heap.size + 1, 5, none⟩ (.int .u64 (b.row s 5)) = X at hX hbX ⊢
      clear hXX
      have x0 := cell_block hX 0
      have x1 := cell_block hX 1
      have x2 := cell_block hX 2
      have x3 := cell_block hX 3
      have x4 := cell_block hX 4
      have x5 := cell_block hX 5
      exact bodyPost_ret (v := mtV b s) (by simp [results, Try.results45, go_sem, mtV, x0, x1, x2, x3, x4, x5, rowCells]) rfl
        ⟨rfl, (Steps.of_below hbX).mono (fun i hi h => absurd hi (by omega)), es, clk, (hbX.block r hrl).trans hr, HES.out⟩
    | false =>
      have HN := Lib.hid (HQ.out.2 rfl)
      clear HQ z1 b1 hb1 hbc hq1 hr1 hs0 hs1 hB1
      obtain ⟨hl, hl'⟩ : b.fs.length ≤ 6 ∧ b.ss.length ≤ 6 := by
        simp only [Bo.ok, Bool.and_eq_true, decide_eq_true_eq] at hok
        omega
      have HOK := Lib.hid hok
      have HSH := Lib.hid hsh
      have hzc : w.heap.size + 2 ≤ wc.heap.size := by have := HZ1.out; have := hbc'.size; omega
      clear hok hsh
      have hc4 := hBc.bo.c4
      have hc5 := hBc.bo.c5
      go_wp2_with fail
      go_loopw [7, 8, 26] (fun _ _ i wr => ∃ k : Nat, k ≤ b.fs.length ∧ i = .int .i64 k ∧ wr.heap[w.heap.size + 1]? = some (.cells (rowCells (rowTo b s k 0)) 79) ∧ Below (w.heap.size + 1) wc wr) (fun _ _ i _ => b.fs.length - (intOf i).toNat)
      case atStart => exact ⟨0, Nat.zero_le _, rfl, by rw [hqc]; rfl, Below.refl _ _⟩
      case round =>
        obtain ⟨wo, rfl⟩ : ∃ x, x = wr := ⟨_, rfl⟩
        obtain ⟨k, hk, rfl, hqr, hbr⟩ := hrel
        by_cases hlt : k < b.fs.length
        · have hBr := h.later (hb2.trans (hbr.mono (Nat.le_add_right _ 1)))
          have hc5r := hBr.bo.c5
          go_wp2_with fail
          go_step3
          go_wp2_with fail
          go_step3
          go_wp2_with fail
          go_loopw [8, 35] (fun _ j wq => ∃ n : Nat, n ≤ b.ss.length ∧ j = .int .i64 n ∧ wq.heap[w.heap.size + 1]? = some (.cells (rowCells (rowTo b s k n)) 79) ∧ Below (w.heap.size + 1) wo wq) (fun _ j _ => b.ss.length - (intOf j).toNat)
          case atStart => exact ⟨0, Nat.zero_le _, rfl, hqr, Below.refl _ _⟩
          case round =>
            rename_i hK13
            obtain ⟨wq, rfl⟩ : ∃ x, x = wr := ⟨_, rfl⟩
            obtain ⟨n, hn, rfl, hqq, hbq⟩ := hrel
            by_cases hnt : n < b.ss.length
            · have hb3 : Below w.heap.size w wq := hb2.trans ((hbr.trans hbq).mono (Nat.le_add_right _ 1))
              have hBq := h.later hb3
              have u0 := ((hbr.trans hbq).cell (p := ⟨w.heap.size, 0, none⟩) (Nat.lt_succ_self _)).trans hsc0
              have u1 := ((hbr.trans hbq).cell (p := ⟨w.heap.size, 1, none⟩) (Nat.lt_succ_self _)).trans hsc1
              go_wp2_with (go_at_call 71; refine (same_any p k n b fa sa fc sc fset sset r s _ hBq HOK.out HSH.out hlt hnt).mono ?_; rintro e w5 ⟨rfl, hb5⟩)
              · rename_i hsm
                have hsm' : b.same s k n = false := by rw [Bo.same_get b s k n hlt hnt]; simpa using hsm
                go_roundw
                case rel => exact ⟨n + 1, by omega, by go_num, by rw [rowTo_no b s k n hsm']; exact (hb5.block _ (Array.getElem?_eq_some_iff.1 hqq).1).trans hqq, hbq.trans (hb5.mono (Nat.le_trans (by omega) (Nat.le_trans hbr.size hbq.size)))⟩
                case measure => simp [intOf]; omega
              · rename_i hsm
                have hsm' : b.same s k n = true := by rw [Bo.same_get b s k n hlt hnt]; simpa using hsm
                have HSM := Lib.hid hsm'
                clear hsm hsm'
                have hq5 := (hb5.block _ (Array.getElem?_eq_some_iff.1 hqq).1).trans hqq
                have hk6 : k < 6 := by omega
                have hc : w5.cell? ⟨w.heap.size + 1, k, none⟩ = some (.int .u64 (rowTo b s k n k)) := (cell_block hq5 k).trans (rowCells_get _ k hk6)
                have hcc := held hc (Nat.le_refl _)
                have hfz : ∀ W, Below w5.heap.size w5 W → W.frozen? ⟨w.heap.size + 1, k, none⟩ = false := fun W hW => frozen_block (obj_later hW hq5) k
                have hlt2 := rowTo_lt b s k n k hl' (by omega)
                have hn6 : n < 6 := by omega
                have hki : (k : Int) < 6 := by omega
                have hni : (n : Int) < 64 := by omega
                have hfz5 := hfz w5 (Below.refl _ _)
                clear hcc hfz
                go_region
                go_wp2_with fail
                go_roundw
                case rel =>
                  refine ⟨n + 1, by omega, by go_num, ?_, ?_⟩
                  · rw [rowTo_yes b s k n HSM.out, ← rowCells_set, pow_u64 n (by omega), or_u64 _ _ (by omega) (Nat.pow_lt_pow_right (by omega) (by omega))]
                    exact block_set hq5 k _
                  · exact ((hbq.trans (hb5.mono (Nat.le_trans (by omega) (Nat.le_trans hbr.size hbq.size)))).setCell (p := ⟨w.heap.size + 1, k, none⟩) (Nat.le_refl _) _).drew
                case measure => simp [intOf]; omega
            · obtain rfl : n = b.ss.length := by omega
              go_wp2_with fail
              apply hK13
              go_wp2_with fail
              go_roundw
              case rel => exact ⟨k + 1, by omega, by go_num, by rw [hqq]; exact congrArg (fun c => some (Obj.cells c 79)) (rowCells_congr fun i _ => rowTo_next b s k i), hbr.trans hbq⟩
              case measure => simp [intOf]; omega
        · obtain rfl : k = b.fs.length := by omega
          have hb3 : Below w.heap.size w wo := hb2.trans (hbr.mono (Nat.le_add_right _ 1))
          have hBo := h.later hb3
          have hro := obj_later hb3 hr
          have u0 := (hbr.cell (p := ⟨w.heap.size, 0, none⟩) (Nat.lt_succ_self _)).trans hsc0
          have u1 := (hbr.cell (p := ⟨w.heap.size, 1, none⟩) (Nat.lt_succ_self _)).trans hsc1
          have hqe : wo.heap[w.heap.size + 1]? = some (.cells (rowCells (b.row s)) 79) := by
            rw [hqr]; exact congrArg (fun c => some (Obj.cells c 79)) (rowCells_congr fun i _ => rowTo_end b s i)
          have i0 := cell_block hqe 0
          have i1 := cell_block hqe 1
          have i2 := cell_block hqe 2
          have i3 := cell_block hqe 3
          have i4 := cell_block hqe 4
          have i5 := cell_block hqe 5
          simp only [rowCells, List.getElem?_toArray, List.getElem?_cons_zero, List.getElem?_cons_succ] at i0 i1 i2 i3 i4 i5
          have c8 := hBo.c8
          have hup := fun (W : World) (hr : W.heap[r]? = some (.map es clk)) => update_run shKey (t := 111) (et := 79) rfl s (mtV b s) hr
            (fun en hen => by obtain ⟨s', _, h2, _⟩ := HES.out en hen; exact ⟨s', h2⟩) HN.out
          unfold shV mtV at hup
          have hupd := hup wo.drew hro
          clear hup
          go_upto_region 14 with fail
          go_region
          have hne : w.heap.size + 1 ≠ r := by omega
          have hrx : r < wo.drew.heap.size := (Array.getElem?_eq_some_iff.1 hro).1
          obtain ⟨wy, hwy⟩ : ∃ wy, (wo.drew.putObj r (.map (es.push { key := shV s, val := mtV b s, born := clk }) (clk + 1))) = wy := ⟨_, rfl⟩
          have hwy' := hwy
          unfold shV mtV at hwy'
          rw [hwy']
          clear hwy' hupd
          have hqy : wy.heap[w.heap.size + 1]? = some (.cells (rowCells (b.row s)) 79) := by rw [← hwy, World.putObj_heap_other hne]; exact hqe
          have hry : wy.heap[r]? = some (.map (es.push { key := shV s, val := mtV b s, born := clk }) (clk + 1)) := by rw [← hwy]; exact World.putObj_heap_same hrx
          have hsy : Steps (fun k => k = r) w wy := by
            rw [← hwy]
            exact ((Steps.of_below hb3).mono (fun i hi h => absurd hi (by omega))).drew.trans (Steps.putObj (own := fun k => k = r) _ rfl _) (fun _ _ h => h)
          clear hwy i0 i1 i2 i3 i4 i5 u0 u1 c8
          have j0 := frozen_block hqy 0
          have j1 := frozen_block hqy 1
          have j2 := frozen_block hqy 2
          have j3 := frozen_block hqy 3
          have j4 := frozen_block hqy 4
          have j5 := frozen_block hqy 5
          have i0 := cell_block hqy 0
          have i1 := cell_block hqy 1
          have i2 := cell_block hqy 2
          have i3 := cell_block hqy 3
          have i4 := cell_block hqy 4
          have i5 := cell_block hqy 5
          simp only [rowCells, List.getElem?_toArray, List.getElem?_cons_zero, List.getElem?_cons_succ] at i0 i1 i2 i3 i4 i5
          go_wp2_with fail
          have hX := block_set (block_set (block_set (block_set (block_set (block_set hqy 0 (.int .u64 (b.row s 0))) 1 (.int .u64 (b.row s 1))) 2 (.int .u64 (b.row s 2))) 3 (.int .u64 (b.row s 3))) 4 (.int .u64 (b.row s 4))) 5 (.int .u64 (b.row s 5))
          have hbX := (Below.refl (w.heap.size + 1) wy).setCell (p := ⟨w.heap.size + 1, 0, none⟩) (Nat.le_refl _) (.int .u64 (b.row s 0)) |>.setCell (p := ⟨w.heap.size + 1, 1, none⟩) (Nat.le_refl _) (.int .u64 (b.row s 1)) |>.setCell (p := ⟨w.heap.size + 1, 2, none⟩) (Nat.le_refl _) (.int .u64 (b.row s 2))
            |>.setCell (p := ⟨w.heap.size + 1, 3, none⟩) (Nat.le_refl _) (.int .u64 (b.row s 3)) |>.setCell (p := ⟨w.heap.size + 1, 4, none⟩) (Nat.le_refl _) (.int .u64 (b.row s 4)) |>.setCell (p := ⟨w.heap.size + 1, 5, none⟩) (Nat.le_refl _) (.int .u64 (b.row s 5))
          generalize hXX : (((((wy.setCell ⟨w.heap.size + 1, 0, none⟩ (.int .u64 (b.row s 0))).setCell ⟨w.heap.size + 1, 1, none⟩ (.int .u64 (b.row s 1))).setCell ⟨w.heap.size + 1, 2, none⟩ (.int .u64 (b.row s 2))).setCell
            ⟨w.heap.size + 1, 3, none⟩ (.int .u64 (b.row s 3))).setCell ⟨w.heap.size + 1, 4, none⟩ (.int .u64 (b.row s 4))).setCell ⟨w.heap.size + 1, 5, none⟩ (.int .u64 (b.row s 5)) = X at hX hbX ⊢
          clear hXX
          have x0 := cell_block hX 0
          have x1 := cell_block hX 1
          have x2 := cell_block hX 2
          have x3 := cell_block hX 3
          have x4 := cell_block hX 4
          have x5 := cell_block hX 5
          refine bodyPost_ret (v := mtV b s) (by simp [results, Try.results45, go_sem, mtV, x0, x1, x2, x3, x4, x5, rowCells]) rfl
            ⟨rfl, hsy.trans (Steps.of_below hbX) (fun i hi h => absurd hi (by omega)), _, _, (hbX.block r (by omega)).trans hry, ?_⟩
          intro en hen
          rcases Array.mem_push.1 hen with h | h
          · exact HES.out en h
          · subst h
            exact ⟨s, HSH.out, rfl, rfl⟩
end Go.Proofs.Ytjkegmjjhdmkiaa
