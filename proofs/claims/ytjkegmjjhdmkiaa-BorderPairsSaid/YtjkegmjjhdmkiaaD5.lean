/- Package border: what gathers the best joining. -/
import Derived.Test.YtjkegmjjhdmkiaaD4
namespace Go.Proofs.Ytjkegmjjhdmkiaa
open Go.RowKit Go.Shelf
set_option maxHeartbeats 1600000
set_option maxRecDepth 100000
set_option linter.unusedSimpArgs false

structure BsAt (w : World) (g : Nat) (z : Int × Int) (sl : Value) (m : Nat) : Prop where
  c0 : w.cell? ⟨g, 0, none⟩ = some (.int .i64 z.1)
  c1 : w.cell? ⟨g, 1, none⟩ = some (.int .i64 z.2)
  c2 : w.cell? ⟨g, 2, none⟩ = some sl
  c3 : w.cell? ⟨g, 3, none⟩ = some (.int .i64 m)
  fz : ∀ i, w.frozen? ⟨g, i, none⟩ = false
theorem BsAt.lt {w : World} {g : Nat} {z : Int × Int} {sl : Value} {m : Nat} (h : BsAt w g z sl m) : g < w.heap.size := World.block_lt_of_cell? w _ h.c0
theorem BsAt.steps {w w' : World} {own : Nat → Prop} {g : Nat} {z : Int × Int} {sl : Value} {m : Nat} (h : BsAt w g z sl m) (hs : Steps own w w') (hn : ¬ own g) : BsAt w' g z sl m := by
  have e := hs.block g h.lt hn
  exact ⟨(World.cell?_of_block e).trans h.c0, (World.cell?_of_block e).trans h.c1, (World.cell?_of_block e).trans h.c2, (World.cell?_of_block e).trans h.c3, fun i => (World.frozen?_of_block e).trans (h.fz i)⟩

/-- What 'best' holds. -/
def BestIs (N g r : Nat) (own : Nat → Prop) (W : World) : Option Joined → Prop
  | none => BsAt W g (0, 0) (.slice none 0 0) 0
  | some y => ∃ q cap, BsAt W g y.1 (.slice (some ⟨q, 0, none⟩) y.2.length cap) (pairsIn y.2) ∧ IntsAt W q y.2 ∧ ¬ own q ∧ q ≠ g ∧ q ≠ r ∧ N ≤ q
theorem BestIs.lt {N g r : Nat} {own : Nat → Prop} {W : World} : ∀ {o : Option Joined}, BestIs N g r own W o → g < W.heap.size
  | none, h => BsAt.lt h
  | some _, ⟨_, _, h, _⟩ => h.lt
theorem BestIs.steps {N g r : Nat} {own own' own2 : Nat → Prop} {A C : World} (hg : ¬ own2 g) (hq : ∀ k, k < A.heap.size → own2 k → own k ∨ k = r) (ho : ∀ k, k < A.heap.size → own' k → own k) (hs : Steps own2 A C) : ∀ {o : Option Joined}, BestIs N g r own A o → BestIs N g r own' C o
  | none, h => BsAt.steps h hs hg
  | some _, ⟨q, cap, h1, h2, h3, h4, h5, h6⟩ => ⟨q, cap, h1.steps hs hg, h2.later (hs.block q h2.lt (fun h => by rcases hq q h2.lt h with h | h; exact h3 h; exact h5 h)), fun h => h3 (ho q h2.lt h), h4, h5, h6⟩

structure BestA (N g r : Nat) (b : Bo) (f s : Nat) (own : Nat → Prop) (pre : List Joined) (W : World) : Prop where
  o : ¬ own g
  j : BestIs N g r own W (bestOf pre)
  s : ∀ z ∈ pre, z.2 ∈ bJoins b f s z.1
theorem bestOf_mem : ∀ (L : List Joined) (y : Joined), bestOf L = some y → y ∈ L := by
  intro L
  unfold bestOf
  suffices h : ∀ (L : List Joined) (o : Option Joined) (y : Joined), L.foldl (fun o z => match o with | none => some z | some y => if pairsIn y.2 < pairsIn z.2 then some z else some y) o = some y → o = some y ∨ y ∈ L by
    intro y hy
    rcases h L none y hy with h | h
    · cases h
    · exact h
  intro L
  induction L with
  | nil => intro o y h; exact .inl h
  | cons z L ih =>
    intro o y h
    rw [List.foldl_cons] at h
    rcases ih _ _ h with h | h
    · cases o with
      | none => simp at h; exact .inr (by simp [h])
      | some v =>
        simp only at h
        split at h
        · simp at h; exact .inr (by simp [h])
        · exact .inl h
    · exact .inr (by simp [h])

theorem best_adder (N g r : Nat) (b : Bo) (f s : Nat) (hok : b.ok = true) (hgr : g ≠ r) : Adder 115 g r b f s N (BestA N g r b f s) where
  bides := by
    rintro own own' pre A C ⟨h1, h2, h3⟩ hs ho
    have hl := h2.lt
    exact ⟨fun h => by rcases ho g h with h | h; exact h1 h; omega, h2.steps h1 (fun k _ h => .inl h) (fun k hk h => by rcases ho k h with h | h; exact h; omega) hs, h3⟩
  known := by
    rintro own pre A C ⟨h1, h2, h3⟩ hs
    exact ⟨h1, h2.steps (own2 := fun k => k = r) hgr (fun k _ h => .inr h) (fun k _ h => h) hs, h3⟩
  add := by
    rintro own pre z x q cap W ⟨h1, h2, h3⟩ hz hx hqN hq hqg hqr hql hqi hown
    obtain ⟨hxl, hxe⟩ := bJoins_mem hx
    obtain ⟨l1, l2⟩ := bo_lens hok
    have hs3 : ∀ z' ∈ pre ++ [(z, x)], z'.2 ∈ bJoins b f s z'.1 := fun z' hz' => by
      rcases List.mem_append.1 hz' with h | h
      · exact h3 z' h
      · rw [List.mem_singleton] at h; subst h; exact hx
    have hbn := bestOf_snoc pre (z, x)
    have hyl : ∀ y, bestOf pre = some y → y.2.length ≤ 6 := fun y hy => by have := (bJoins_mem (h3 y (bestOf_mem _ _ hy))).1; omega
    have HS3 := Lib.hid hs3
    have HXL := Lib.hid hxl
    have hx6 : x.length ≤ 6 := by omega
    clear hs3 h3 hx hz hxl
    generalize bestOf pre = o at h2 hbn hyl
    obtain ⟨ez, er⟩ := z
    have HBN := Lib.hid hbn
    clear hbn
    have hnil : ∀ w, (binOp .eql 40 (.slice none 0 0) (.slice none 0 0)).run Try.prog w = .ok (.bool true) w := fun w => by kernel_rfl
    have hnn : ∀ w (q n cap : Nat), (binOp .eql 40 (.slice (some ⟨q, 0, none⟩) n cap) (.slice none 0 0)).run Try.prog w = .ok (.bool false) w := fun w q n cap => nil_ne q n cap w
    unfold shV
    go_enter Try.func115, Try.ntmps115
    go_wp2
    obtain ⟨W1, hW1⟩ : ∃ W1, W.alloc (.cells #[.int .i64 ez, .int .i64 er] 72) = W1 := ⟨_, rfl⟩
    rw [hW1]
    have hs1 : Steps (fun _ => False) W W1 := by rw [← hW1]; exact Steps.alloc _ _ _
    have b1 : W1.heap[W.heap.size]? = some (.cells #[.int .i64 ez, .int .i64 er] 72) := by rw [← hW1]; exact obj_new _ _
    clear hW1
    have c0 := cell_block b1 0
    have c1 := cell_block b1 1
    simp only [List.getElem?_toArray, List.getElem?_cons_zero, List.getElem?_cons_succ] at c0 c1
    have hqi1 := hqi.later (hs1.block q hql (fun h => h))
    have h21 : BestIs N g r own W1 o := h2.steps (fun h => h) (fun k _ h => h.elim) (fun k _ h => h) hs1
    go_loopw [6, 8, 11] (fun m _ i wr => ∃ k : Nat, k ≤ x.length ∧ i = .int .i64 k ∧ m = .int .i64 (pairsIn (x.take k)) ∧ wr = W1) (fun _ _ i _ => x.length - (intOf i).toNat)
    case atStart => exact ⟨0, Nat.zero_le _, rfl, rfl, rfl⟩
    case round =>
      obtain ⟨k, hk, rfl, rfl, rfl⟩ := hrel
      by_cases hlt : k < x.length
      · have hqk := hqi1.cell k hlt
        have hS : pairsIn (x.take (k + 1)) = pairsIn (x.take k) + if x[k] = -1 then 0 else 1 := by rw [List.take_succ_eq_append_getElem hlt, pairsIn_snoc]
        have hp6 : pairsIn (x.take k) ≤ 6 := Nat.le_trans (pairsIn_le _) (Nat.le_trans (List.length_take_le _ _) (by omega))
        generalize x[k] = y at hqk hS
        have HS := Lib.hid hS
        clear hS
        by_cases hm : y = -1
        · subst hm
          go_wp2
          go_roundw
          case rel => exact ⟨k + 1, by omega, by go_num, by rw [HS.out]; simp, trivial⟩
          case measure => simp [intOf]; omega
        · go_wp2
          go_roundw
          case rel => exact ⟨k + 1, by omega, by go_num, by rw [HS.out, if_neg hm]; go_num, trivial⟩
          case measure => simp [intOf]; omega
      · obtain rfl : k = x.length := by omega
        have hp6 : pairsIn x ≤ 6 := Nat.le_trans (pairsIn_le _) (by omega)
        rw [List.take_length]
        have hst : Steps (fun k => k = g) W wr := hs1.mono (fun _ _ h => h.elim)
        have hset : ∀ (z0 : Int × Int) (sl : Value) (m : Nat), BsAt wr g z0 sl m → BestIs N g r own (((((wr.setCell ⟨g, 0, none⟩ (.int .i64 ez)).setCell ⟨g, 1, none⟩ (.int .i64 er)).setCell ⟨g, 2, none⟩ (.slice (some ⟨q, 0, none⟩) x.length cap)).setCell ⟨g, 3, none⟩ (.int .i64 (pairsIn x)))) (some ((ez, er), x)) ∧
            Steps (fun k => k = g) W ((((wr.setCell ⟨g, 0, none⟩ (.int .i64 ez)).setCell ⟨g, 1, none⟩ (.int .i64 er)).setCell ⟨g, 2, none⟩ (.slice (some ⟨q, 0, none⟩) x.length cap)).setCell ⟨g, 3, none⟩ (.int .i64 (pairsIn x))) := fun z0 sl m h => by
          have s1 := Steps.setCell (own := fun k => k = g) wr (p := ⟨g, 0, none⟩) rfl (.int .i64 ez)
          have s2 := Steps.setCell (own := fun k => k = g) (wr.setCell ⟨g, 0, none⟩ (.int .i64 ez)) (p := ⟨g, 1, none⟩) rfl (.int .i64 er)
          have s3 := Steps.setCell (own := fun k => k = g) ((wr.setCell ⟨g, 0, none⟩ (.int .i64 ez)).setCell ⟨g, 1, none⟩ (.int .i64 er)) (p := ⟨g, 2, none⟩) rfl (.slice (some ⟨q, 0, none⟩) x.length cap)
          have s4 := Steps.setCell (own := fun k => k = g) (((wr.setCell ⟨g, 0, none⟩ (.int .i64 ez)).setCell ⟨g, 1, none⟩ (.int .i64 er)).setCell ⟨g, 2, none⟩ (.slice (some ⟨q, 0, none⟩) x.length cap)) (p := ⟨g, 3, none⟩) rfl (.int .i64 (pairsIn x))
          have ss := ((s1.trans s2 (fun _ _ h => h)).trans s3 (fun _ _ h => h)).trans s4 (fun _ _ h => h)
          refine ⟨⟨q, cap, ⟨?_, ?_, ?_, ?_, fun i => ?_⟩, hqi1.later (ss.block q hqi1.lt hqg), hq, hqg, hqr, hqN⟩, hst.trans ss (fun _ _ h => h)⟩
          · exact cell_far (cell_far (cell_far (cell_set _ h.c0) (.inr (by omega))) (.inr (by omega))) (.inr (by omega))
          · exact cell_far (cell_far (cell_set _ (cell_far h.c1 (.inr (by omega)))) (.inr (by omega))) (.inr (by omega))
          · exact cell_far (cell_set _ (cell_far (cell_far h.c2 (.inr (by omega))) (.inr (by omega)))) (.inr (by omega))
          · exact cell_set _ (cell_far (cell_far (cell_far h.c3 (.inr (by omega))) (.inr (by omega))) (.inr (by omega)))
          · rw [World.frozen?_setCell, World.frozen?_setCell, World.frozen?_setCell, World.frozen?_setCell]; exact h.fz i
        have HSET := Lib.hid hset
        clear hset
        cases o with
        | none =>
          have hB : BsAt wr g (0, 0) (.slice none 0 0) 0 := h21
          have hB' := hB
          obtain ⟨d0, d1, d2, d3, fz⟩ := hB'
          have f0 := fz 0
          have f1 := fz 1
          have f2 := fz 2
          have f3 := fz 3
          go_wp2
          go_end0
          obtain ⟨q1, q2⟩ := HSET.out _ _ _ hB
          exact ⟨rfl, q2, h1, by rw [HBN.out]; exact q1, HS3.out⟩
        | some y =>
          obtain ⟨q', cap', hB, hI, hno, hng, hnr, hnN⟩ := h21
          have hy6 := hyl y rfl
          have hyp : pairsIn y.2 ≤ 6 := Nat.le_trans (pairsIn_le _) hy6
          have hB' := hB
          obtain ⟨d0, d1, d2, d3, fz⟩ := hB'
          have f0 := fz 0
          have f1 := fz 1
          have f2 := fz 2
          have f3 := fz 3
          have HYL := Lib.hid hyl
          clear hyl
          by_cases hc : pairsIn y.2 < pairsIn x
          · go_wp2
            go_end0
            obtain ⟨q1, q2⟩ := HSET.out _ _ _ hB
            exact ⟨rfl, q2, h1, by rw [HBN.out]; simp only [hc, if_true]; exact q1, HS3.out⟩
          · go_wp2
            go_end0
            exact ⟨rfl, hst, h1, by rw [HBN.out]; simp only [hc, if_false]; exact ⟨q', cap', hB, hI, hno, hng, hnr, hnN⟩, HS3.out⟩
end Go.Proofs.Ytjkegmjjhdmkiaa
