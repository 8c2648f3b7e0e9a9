/- Laws on worlds, regions and rows that no layer's own words occur in. The leaves of package image: spans, ends, sets. Unions of sets, the images of a trail. isTrail: whether images are a trail. Regions that draw their order, inside a round of a range over a function. No program in sight. -/
import Derived.Test.YtacioedolmaofaaLBA3
import Derived.Test.YtacioedolmaofaaLBA4
import Derived.Deep.RegionWith
import Derived.BigQuiet
import Derived.BigRegion
import Derived.IntWalk
import Derived.Laws.StructEq
import Derived.Laws.AppendOwn
import Derived.Test.YtacioedolmaofaaLBA5
import Derived.Shelf.Abstract
import Derived.Shelf.RegionOpen
import Derived.OwnWalkIn
import Derived.TacticsInMore
import Derived.LoopNIn
import Derived.LoopIn
import Derived.PlainAid
namespace Go.Proofs.Ytacioedolmaofaa
open Go.RowKit Go.Shelf
set_option maxHeartbeats 6400000
set_option maxRecDepth 100000
set_option linter.unusedSimpArgs false
set_option linter.unusedVariables false

theorem below_drew (w : World) : Below w.heap.size w w.drew := (Below.refl _ _).drew
theorem alloc_get (w : World) (o : Obj) (k : Nat) : (w.alloc o).heap[k]? = if k = w.heap.size then some o else w.heap[k]? := by
  show (w.heap.push o)[k]? = _
  rw [Array.getElem?_push]
/-- Two operations can come up, and each is carried out. -/
theorem wpAnyW_two {P : Program} {n : Nat} {md : Region.Mode} {ops : Array Oper} {Q : Exit → Act → World → Prop} {S : World → Prop} (i j : Nat) {fuel : Nat} {listed : Array Bool} {a : Act} {w : World} (hr : Region.ready md ops listed = [i, j])
    (hg : (((ops[i]?).map fun o => Region.wanted o (yielded ops a.tmps)) = some true) ∧ (((ops[j]?).map fun o => Region.wanted o (yielded ops a.tmps)) = some true))
    (h1 : ∀ o, ops[i]? = some o → ∀ K : Act → World → Prop, (∀ a' w', S w' → (S w' → wpAnyW P n md ops Q S fuel (listed.setIfInBounds i true) a' w') → K a' w') → Oper.wpIn Fence.wide n P o a w K Q)
    (h2 : ∀ o, ops[j]? = some o → ∀ K : Act → World → Prop, (∀ a' w', S w' → (S w' → wpAnyW P n md ops Q S fuel (listed.setIfInBounds j true) a' w') → K a' w') → Oper.wpIn Fence.wide n P o a w K Q) :
    wpAnyW P n md ops Q S (fuel + 1) listed a w := by
  refine ⟨fun h0 => (by rw [hr] at h0; cases h0), ?_⟩
  intro k hk
  rw [hr, List.mem_cons, List.mem_singleton] at hk
  rcases hk with rfl | rfl
  · unfold wpOpIn
    cases ho : ops[k]? with
    | none => rw [ho] at hg; simp at hg
    | some o =>
      have hg1 := hg.1
      rw [ho] at hg1
      simp at hg1
      simp only [if_pos hg1]
      exact h1 o ho _ fun a' w' hS hk => ⟨hS, hk hS⟩
  · unfold wpOpIn
    cases ho : ops[k]? with
    | none => rw [ho] at hg; simp at hg
    | some o =>
      have hg1 := hg.2
      rw [ho] at hg1
      simp at hg1
      simp only [if_pos hg1]
      exact h2 o ho _ fun a' w' hS hk => ⟨hS, hk hS⟩
/-- Three operations can come up, and each is carried out. -/
theorem wpAnyW_three {P : Program} {n : Nat} {md : Region.Mode} {ops : Array Oper} {Q : Exit → Act → World → Prop} {S : World → Prop} (i j l : Nat) {fuel : Nat} {listed : Array Bool} {a : Act} {w : World} (hr : Region.ready md ops listed = [i, j, l])
    (hg : (((ops[i]?).map fun o => Region.wanted o (yielded ops a.tmps)) = some true) ∧ (((ops[j]?).map fun o => Region.wanted o (yielded ops a.tmps)) = some true) ∧ (((ops[l]?).map fun o => Region.wanted o (yielded ops a.tmps)) = some true))
    (h1 : ∀ o, ops[i]? = some o → ∀ K : Act → World → Prop, (∀ a' w', S w' → (S w' → wpAnyW P n md ops Q S fuel (listed.setIfInBounds i true) a' w') → K a' w') → Oper.wpIn Fence.wide n P o a w K Q)
    (h2 : ∀ o, ops[j]? = some o → ∀ K : Act → World → Prop, (∀ a' w', S w' → (S w' → wpAnyW P n md ops Q S fuel (listed.setIfInBounds j true) a' w') → K a' w') → Oper.wpIn Fence.wide n P o a w K Q)
    (h3 : ∀ o, ops[l]? = some o → ∀ K : Act → World → Prop, (∀ a' w', S w' → (S w' → wpAnyW P n md ops Q S fuel (listed.setIfInBounds l true) a' w') → K a' w') → Oper.wpIn Fence.wide n P o a w K Q) :
    wpAnyW P n md ops Q S (fuel + 1) listed a w := by
  refine ⟨fun h0 => (by rw [hr] at h0; cases h0), ?_⟩
  have key : ∀ k, (((ops[k]?).map fun o => Region.wanted o (yielded ops a.tmps)) = some true) → (∀ o, ops[k]? = some o → ∀ K : Act → World → Prop, (∀ a' w', S w' → (S w' → wpAnyW P n md ops Q S fuel (listed.setIfInBounds k true) a' w') → K a' w') → Oper.wpIn Fence.wide n P o a w K Q) →
      wpOpIn Fence.wide n P ops Q k (fun a' w' => S w' ∧ wpAnyW P n md ops Q S fuel (listed.setIfInBounds k true) a' w') a w := by
    intro k hg h
    unfold wpOpIn
    cases ho : ops[k]? with
    | none => rw [ho] at hg; simp at hg
    | some o =>
      rw [ho] at hg
      simp at hg
      simp only [if_pos hg]
      exact h o ho _ fun a' w' hS hk => ⟨hS, hk hS⟩
  intro k hk
  rw [hr, List.mem_cons, List.mem_cons, List.mem_singleton] at hk
  rcases hk with rfl | rfl | rfl
  · exact key _ hg.1 h1
  · exact key _ hg.2.1 h2
  · exact key _ hg.2.2 h3
/-- A region of a function's text. -/
def findReg (n : Nat) : Code → Option Code
  | .region m ops d => if m == n then some (.region m ops d) else none
  | .seq a b => match findReg n a with
    | some c => some c
    | none => findReg n b
  | .cond _ a b => match findReg n a with
    | some c => some c
    | none => findReg n b
  | .block _ c => findReg n c
  | .loop c => findReg n c
  | .scope c => findReg n c
  | _ => none
theorem wpIn_append' {P : Program} {n : Nat} {o : Oper} {a : Act} {w w' : World} {K : Act → World → Prop} {Q : Exit → Act → World → Prop} (s x : Operand) (t : TypeId) (v1 v2 v : Value)
    (ho : o.op = .call { callee := .builtin .append, args := #[s, x], argTypes := #[t, t] }) (hs : a.eval s = v1) (hx : a.eval x = v2)
    (hr : (Builtin.append_ #[t, t] o.type #[v1, v2]).run P w = .ok v w') (h : K (a.put o.dst v) w') : Oper.wpIn Fence.wide n P o a w K Q := by
  refine ⟨wideAll, ?_⟩
  have e : (o.semAt Fence.wide.round a.eval).run P w = .ok (.value v) w' := by
    show (execOp a.eval o).run P w = _
    unfold execOp
    simp only [ho, resolve, invoke, builtin, Sem.run_bind, Sem.run_pure, Result.andThen_ok, List.map_toArray, List.map_cons, List.map_nil, hs, hx, hr]
  rw [e]
  exact h
theorem Below.grownB {w w' : World} (h : Below w.heap.size w w') (rb : Option Nat) : w.grownBy w' rb := ⟨h.os, h.tape, h.output, h.size, fun k hk _ => h.block k hk⟩
/-- How a row's block becomes another one. -/
def RowNext (w : World) (v v' : Value) : Prop := v'.ownBlock = v.ownBlock ∨ ∃ g, v'.ownBlock = some g ∧ w.heap.size ≤ g
/-- One value is appended to an owned row. -/
theorem appendOne (w : World) (base : Nat) (t e : TypeId) (i : TypeInfo) (z : Value) (bytes : Nat) (ht : Try.prog.underlying t = some (.slice e)) (hi : Try.prog.info? e = some i) (hz : i.zero = some z) (hsize : i.size = 1) (hby : i.bytes = bytes) (hzs : z.cells.size = 1)
    (v : Value) (n : Nat) (xs : List Value) (hown : w.ownsRow base e 1 v n xs) (u : Value) (hu : u.oneCell' = true) (m c : Nat) (hm : w.cell? ⟨m, 0, none⟩ = some u) (hn : (n + 1) * bytes ≤ 140737488355328) (hn2 : n + 1 ≤ maxLen) (hbase : base ≤ w.heap.size) :
    ∃ v' w', (Builtin.append_ #[t, t] t #[v, .slice (some ⟨m, 0, none⟩) 1 c]).run Try.prog w = .ok v' w' ∧ w'.ownsRow base e 1 v' (n + 1) (xs ++ [u]) ∧ w.grownBy w' v.ownBlock ∧ RowNext w v v' ∧ v' ≠ .slice none 0 0 := by
  have hnews : ∀ j x, [u][j]? = some x → w.cell? ((⟨m, 0, none⟩ : Addr).add j) = some x := by
    intro j x hx
    cases j with
    | zero =>
      simp at hx
      subst hx
      have e : ((⟨m, 0, none⟩ : Addr).add 0) = ⟨m, 0, none⟩ := by simp [Addr.add]
      rw [e]; exact hm
    | succ j => simp at hx
  have hone : ∀ x ∈ [u], x.oneCell' = true := fun x hx => by rw [List.mem_singleton] at hx; rw [hx]; exact hu
  have hm' := hn2
  unfold maxLen at hm'
  obtain ⟨v', w', hrun, hown', hgrow, hnil⟩ := run_append_own (P := Try.prog) w base t t e i z 1 bytes ht hi hz hsize hby hzs (by decide) v n xs hown ⟨m, 0, none⟩ 1 c [u] rfl hnews hone hn2 hn hbase
  refine ⟨v', w', hrun, hown', hgrow, ?_, fun e => by have := (hnil.1 e).2; cases this⟩
  rcases hown.2 with ⟨rfl, rfl⟩ | ⟨g, cap, cur, rfl, hbg, hg, hnc, hcm, hcs, htake⟩
  · have hr := run_append_nil (P := Try.prog) w t t e i z ht hi hz ⟨m, 0, none⟩ 1 c [u] (by rw [hsize]; rfl) hnews (by omega) (by omega) (by rw [hby]; omega)
    rw [hrun] at hr
    cases hr
    exact .inr ⟨_, rfl, Nat.le_refl _⟩
  · by_cases hroom : n + 1 ≤ cap
    · have hr := run_append_room (P := Try.prog) w t t e i ht hi g n cap cur hg ⟨m, 0, none⟩ 1 c [u] (by rw [hsize]; rfl) hnews hone hroom (by rw [hsize, hcs]; simp; omega)
      rw [hrun] at hr
      cases hr
      exact .inl rfl
    · have holds : ∀ j x, xs[j]? = some x → w.cell? ((⟨g, 0, none⟩ : Addr).add j) = some x := hown.cells (g := g) rfl
      have hr := run_append_grow (P := Try.prog) w t t e i z ht hi hz ⟨g, 0, none⟩ n cap xs (by rw [hsize]; exact hown.1) holds ⟨m, 0, none⟩ 1 c [u] (by rw [hsize]; rfl) hnews (by omega) (by omega) (by rw [hby]; exact growslice_fits (by omega) hn)
      rw [hrun] at hr
      cases hr
      exact .inr ⟨_, rfl, Nat.le_refl _⟩
theorem grown_trans {w w1 w2 : World} {rb rb1 : Option Nat} (h : w.grownBy w1 rb) (k : w1.grownBy w2 rb1) (hr : rb1 = rb ∨ ∃ g, rb1 = some g ∧ w.heap.size ≤ g) : w.grownBy w2 rb := by
  refine ⟨k.os.trans h.os, k.tape.trans h.tape, k.output.trans h.output, Nat.le_trans h.size k.size, fun i hi hn => ?_⟩
  refine (k.block i (Nat.lt_of_lt_of_le hi h.size) (fun e => ?_)).trans (h.block i hi hn)
  rcases hr with rfl | ⟨g, rfl, hg⟩
  · exact hn e
  · cases e; omega
theorem RowNext.trans {w w1 : World} {v v1 v2 : Value} (h : RowNext w v v1) (k : RowNext w1 v1 v2) (hs : w.heap.size ≤ w1.heap.size) : RowNext w v v2 := by
  rcases k with k | ⟨g, k, hg⟩
  · rcases h with h | ⟨g, h, hg⟩
    · exact .inl (k.trans h)
    · exact .inr ⟨g, k.trans h, hg⟩
  · exact .inr ⟨g, k, Nat.le_trans hs hg⟩
theorem grownRefl (w : World) (rb : Option Nat) : w.grownBy w rb := ⟨rfl, rfl, rfl, Nat.le_refl _, fun _ _ _ => rfl⟩
theorem _root_.Go.World.grownBy.below3 {w w1 w2 : World} {rb : Option Nat} (h : w.grownBy w1 rb) (k : Below w1.heap.size w1 w2) : w.grownBy w2 rb := grown_trans h (Below.grownB k rb) (.inl rfl)
theorem wp_last {P : Program} {c : Code} {Q : Exit → Act → World → Prop} {a : Act} {w : World} (h : Code.wp P c (Exit.then (fun a w => Q .normal a w) Q) a w) : Code.wp P c Q a w := by
  refine Code.wp_mono (fun e a w h => ?_) h
  cases e <;> exact h
theorem addr0 (m j : Nat) : ((⟨m, 0, none⟩ : Addr).add j) = ⟨m, j, none⟩ := by simp [Addr.add]; omega
/-- One element of some cells is appended to an owned row. -/
theorem appendSome (w : World) (base : Nat) (t e : TypeId) (i : TypeInfo) (z : Value) (size bytes : Nat) (ht : Try.prog.underlying t = some (.slice e)) (hi : Try.prog.info? e = some i) (hz : i.zero = some z) (hsize : i.size = size) (hby : i.bytes = bytes) (hzs : z.cells.size = size) (hsz : 0 < size)
    (v : Value) (n : Nat) (xs : List Value) (hown : w.ownsRow base e size v n xs) (us : List Value) (hus : us.length = size) (hu : ∀ u ∈ us, u.oneCell' = true) (m c : Nat) (hm : ∀ j u, us[j]? = some u → w.cell? ⟨m, j, none⟩ = some u) (hn : (n + 1) * bytes ≤ 140737488355328) (hn2 : n + 1 ≤ maxLen) (hbase : base ≤ w.heap.size) :
    ∃ v' w', (Builtin.append_ #[t, t] t #[v, .slice (some ⟨m, 0, none⟩) 1 c]).run Try.prog w = .ok v' w' ∧ w'.ownsRow base e size v' (n + 1) (xs ++ us) ∧ w.grownBy w' v.ownBlock ∧ RowNext w v v' := by
  have hnews : ∀ j x, us[j]? = some x → w.cell? ((⟨m, 0, none⟩ : Addr).add j) = some x := by
    intro j x hx
    have e : ((⟨m, 0, none⟩ : Addr).add j) = ⟨m, j, none⟩ := addr0 m j
    rw [e]; exact hm j x hx
  have hm' := hn2
  unfold maxLen at hm'
  obtain ⟨v', w', hrun, hown', hgrow, hnil⟩ := run_append_own (P := Try.prog) w base t t e i z size bytes ht hi hz hsize hby hzs hsz v n xs hown ⟨m, 0, none⟩ 1 c us (by rw [hus, Nat.one_mul]) hnews hu hn2 hn hbase
  refine ⟨v', w', hrun, hown', hgrow, ?_⟩
  rcases hown.2 with ⟨rfl, rfl⟩ | ⟨g, cap, cur, rfl, hbg, hg, hnc, hcm, hcs, htake⟩
  · have hr := run_append_nil (P := Try.prog) w t t e i z ht hi hz ⟨m, 0, none⟩ 1 c us (by rw [hsize, hus, Nat.one_mul]) hnews (by omega) (by omega) (by rw [hby]; omega)
    rw [hrun] at hr
    cases hr
    exact .inr ⟨_, rfl, Nat.le_refl _⟩
  · by_cases hroom : n + 1 ≤ cap
    · have hmul : (n + 1) * size ≤ cap * size := Nat.mul_le_mul_right _ hroom
      rw [Nat.succ_mul] at hmul
      have hr := run_append_room (P := Try.prog) w t t e i ht hi g n cap cur hg ⟨m, 0, none⟩ 1 c us (by rw [hsize, hus, Nat.one_mul]) hnews hu hroom (by rw [hsize, hcs, hus]; omega)
      rw [hrun] at hr
      cases hr
      exact .inl rfl
    · have holds : ∀ j x, xs[j]? = some x → w.cell? ((⟨g, 0, none⟩ : Addr).add j) = some x := hown.cells (g := g) rfl
      have hr := run_append_grow (P := Try.prog) w t t e i z ht hi hz ⟨g, 0, none⟩ n cap xs (by rw [hsize]; exact hown.1) holds ⟨m, 0, none⟩ 1 c us (by rw [hsize, hus, Nat.one_mul]) hnews (by omega) (by omega) (by rw [hby]; exact growslice_fits (by omega) hn)
      rw [hrun] at hr
      cases hr
      exact .inr ⟨_, rfl, Nat.le_refl _⟩
theorem grownNone {w w' : World} (h : w.grownBy w' none) : Below w.heap.size w w' := ⟨h.os, h.tape, h.output, h.size, fun k hk => h.block k hk (by simp)⟩
theorem two_same {w : World} {p : Nat} {x0 x1 : Value} (v0 v1 : Value) {T : TypeId} (h : w.heap[p]? = some (.cells #[x0, x1] T)) : ((w.setCell ⟨p, 0, none⟩ v0).setCell ⟨p, 1, none⟩ v1).heap[p]? = some (.cells #[v0, v1] T) :=
  heap_setCell_same _ _ 1 _ _ v1 (heap_setCell_same _ _ 0 _ _ v0 h)
theorem two_other {w : World} {o : Option Obj} (p k : Nat) (v0 v1 : Value) (h : k ≠ p) (ho : w.heap[k]? = o) : ((w.setCell ⟨p, 0, none⟩ v0).setCell ⟨p, 1, none⟩ v1).heap[k]? = o := by
  rw [Below.heap_setCell _ _ _ _ (by exact h), Below.heap_setCell _ _ _ _ (by exact h)]
  exact ho
theorem two_below {w w' : World} {p B : Nat} (v0 v1 : Value) (h : Below B w w') (hB : B ≤ p) : Below B w ((w'.setCell ⟨p, 0, none⟩ v0).setCell ⟨p, 1, none⟩ v1) :=
  (h.setCell (by exact hB) _).setCell (by exact hB) _
theorem two_new (w : World) (o1 o2 : Obj) : ((w.alloc o1).alloc o2).drew.heap[w.heap.size]? = some o1 ∧ ((w.alloc o1).alloc o2).drew.heap[w.heap.size + 1]? = some o2 := by
  have h1 : ((w.alloc o1).alloc o2).heap[w.heap.size]? = some o1 := by simp only [alloc_get, World.size_alloc]; rw [if_neg (by omega), if_pos (by trivial)]
  have h2 : ((w.alloc o1).alloc o2).heap[w.heap.size + 1]? = some o2 := by simp only [alloc_get, World.size_alloc]; rw [if_pos (by trivial)]
  exact ⟨h1, h2⟩
theorem three_same {w : World} {p : Nat} {x0 x1 x2 : Value} (v0 v1 v2 : Value) {T : TypeId} (h : w.heap[p]? = some (.cells #[x0, x1, x2] T)) : (((w.setCell ⟨p, 0, none⟩ v0).setCell ⟨p, 1, none⟩ v1).setCell ⟨p, 2, none⟩ v2).heap[p]? = some (.cells #[v0, v1, v2] T) :=
  heap_setCell_same _ _ 2 _ _ v2 (heap_setCell_same _ _ 1 _ _ v1 (heap_setCell_same _ _ 0 _ _ v0 h))
theorem three_below {w w' : World} {p B : Nat} (v0 v1 v2 : Value) (h : Below B w w') (hB : B ≤ p) : Below B w (((w'.setCell ⟨p, 0, none⟩ v0).setCell ⟨p, 1, none⟩ v1).setCell ⟨p, 2, none⟩ v2) :=
  ((h.setCell (by exact hB) _).setCell (by exact hB) _).setCell (by exact hB) _
theorem eqFields_true {P : Program} (d : Nat) (xs : Array Value) : ∀ (fs : List Field) (w : World), (∀ f ∈ fs, ∃ v, ∀ w, (part f.type xs f.offset).run P w = .ok v w ∧ (Op.equalIn d f.type v v).run P w = .ok true w) → (Op.eqFields d xs xs fs).run P w = .ok true w := by
  intro fs
  induction fs with
  | nil => intro w _; simp [Op.eqFields]
  | cons f fs ih =>
    intro w h
    have ih' := ih w (fun g hg => h g (List.mem_cons_of_mem _ hg))
    obtain ⟨v, hv⟩ := h f List.mem_cons_self
    simp only [Op.eqFields]
    split
    · simp [Sem.run_bind, (hv w).1, (hv w).2, Result.andThen, ih']
    · exact ih'
theorem eq_fields {P : Program} {t : TypeId} {l : List (String × TypeId × Nat)} (h : (P.fieldsOf t).toList.map (fun f => (f.name, f.type, f.offset)) = l) {f : Field} (hf : f ∈ (P.fieldsOf t).toList) : (f.name, f.type, f.offset) ∈ l := by
  rw [← h]; exact List.mem_map.2 ⟨f, hf, rfl⟩
/-- What follows the first statement for which p holds, in a function's text; parts of a statement. -/
def tailAt' (p : Code → Bool) : Code → Option Code
  | .seq a b => if p a then some (.seq a b) else tailAt' p b
  | _ => none
def isIf' (n : Nat) : Code → Bool
  | .seq (.region m _ _) _ => m == n
  | _ => false
def isReg (n : Nat) : Code → Bool
  | .region m _ _ => m == n
  | _ => false
def fstC' : Code → Code
  | .seq a _ => a
  | c => c
def sndC' : Code → Code
  | .seq _ b => b
  | c => c
theorem six_same {w : World} {p : Nat} {x0 x1 x2 x3 x4 x5 : Value} (v0 v1 v2 v3 v4 v5 : Value) {T : TypeId} (h : w.heap[p]? = some (.cells #[x0, x1, x2, x3, x4, x5] T)) : ((((((w.setCell ⟨p, 0, none⟩ v0).setCell ⟨p, 1, none⟩ v1).setCell ⟨p, 2, none⟩ v2).setCell ⟨p, 3, none⟩ v3).setCell ⟨p, 4, none⟩ v4).setCell ⟨p, 5, none⟩ v5).heap[p]? = some (.cells #[v0, v1, v2, v3, v4, v5] T) :=
  heap_setCell_same _ _ 5 _ _ v5 (heap_setCell_same _ _ 4 _ _ v4 (heap_setCell_same _ _ 3 _ _ v3 (heap_setCell_same _ _ 2 _ _ v2 (heap_setCell_same _ _ 1 _ _ v1 (heap_setCell_same _ _ 0 _ _ v0 (h))))))
theorem six_other (w : World) (p k : Nat) (v0 v1 v2 v3 v4 v5 : Value) (h : k ≠ p) : ((((((w.setCell ⟨p, 0, none⟩ v0).setCell ⟨p, 1, none⟩ v1).setCell ⟨p, 2, none⟩ v2).setCell ⟨p, 3, none⟩ v3).setCell ⟨p, 4, none⟩ v4).setCell ⟨p, 5, none⟩ v5).heap[k]? = w.heap[k]? := by
  iterate 6 rw [Below.heap_setCell _ _ _ _ (by exact h)]
theorem six_below {w w' : World} {p B : Nat} (v0 v1 v2 v3 v4 v5 : Value) (h : Below B w w') (hB : B ≤ p) : Below B w ((((((w'.setCell ⟨p, 0, none⟩ v0).setCell ⟨p, 1, none⟩ v1).setCell ⟨p, 2, none⟩ v2).setCell ⟨p, 3, none⟩ v3).setCell ⟨p, 4, none⟩ v4).setCell ⟨p, 5, none⟩ v5) := by
  iterate 6 refine Below.setCell ?_ (by exact hB) _
  exact h
/-- Block q begins with these numbers. -/
def IntsAt (w : World) (q : Nat) (xs : List Int) : Prop := ∃ cs T, w.heap[q]? = some (.cells cs T (0, 0)) ∧ ∀ i (h : i < xs.length), cs[i]? = some (.int .i64 xs[i])
theorem IntsAt.cell {w : World} {q : Nat} {xs : List Int} (h : IntsAt w q xs) (i : Nat) (hi : i < xs.length) : w.cell? ⟨q, i, none⟩ = some (.int .i64 xs[i]) := by
  obtain ⟨cs, T, hb, hc⟩ := h
  exact (cell_block hb i).trans (hc i hi)
theorem IntsAt.later {w w' : World} {q : Nat} {xs : List Int} (h : IntsAt w q xs) (hb : w'.heap[q]? = w.heap[q]?) : IntsAt w' q xs := by
  obtain ⟨cs, T, h1, h2⟩ := h
  exact ⟨cs, T, hb.trans h1, h2⟩
theorem IntsAt.lt {w : World} {q : Nat} {xs : List Int} (h : IntsAt w q xs) : q < w.heap.size := by
  obtain ⟨cs, T, h1, h2⟩ := h
  exact (Array.getElem?_eq_some_iff.1 h1).1
/-- A slice at a reads as these numbers. -/
def IntsV (w : World) (a : Option Addr) (xs : List Int) : Prop := ∀ k (h : k < xs.length), ∃ q o, a = some ⟨q, o, none⟩ ∧ q < w.heap.size ∧ w.cell? ⟨q, o + k, none⟩ = some (.int .i64 xs[k])
theorem IntsV.below {B : Nat} {w w' : World} {a : Option Addr} {xs : List Int} (h : IntsV w a xs) (hb : Below B w w') (hB : w.heap.size ≤ B) : IntsV w' a xs := fun k hk => by
  obtain ⟨q, o, h1, h2, h3⟩ := h k hk
  exact ⟨q, o, h1, Nat.lt_of_lt_of_le h2 hb.size, (cell_same (hb.block q (by omega))).trans h3⟩
theorem IntsAt.v {w : World} {q : Nat} {xs : List Int} (h : IntsAt w q xs) : IntsV w (some ⟨q, 0, none⟩) xs := fun k hk => ⟨q, 0, rfl, h.lt, by rw [Nat.zero_add]; exact h.cell k hk⟩
theorem IntsV.nil (w : World) (a : Option Addr) : IntsV w a [] := fun k h => absurd h (Nat.not_lt_zero k)
/-- What the iterator reads of a border lies as it lay. -/
def KeepCells (bs : Nat → Prop) (A C : World) : Prop := ∀ a v, bs a.block → A.cell? a = some v → C.cell? a = some v
theorem KeepCells.trans {bs : Nat → Prop} {A C D : World} (h : KeepCells bs A C) (k : KeepCells bs C D) : KeepCells bs A D := fun a v ha hv => k a v ha (h a v ha hv)
theorem KeepCells.refl (bs : Nat → Prop) (A : World) : KeepCells bs A A := fun _ _ _ h => h
theorem KeepCells.mono {bs bs' : Nat → Prop} {A C : World} (h : KeepCells bs A C) (hs : ∀ k, bs' k → bs k) : KeepCells bs' A C := fun a v ha hv => h a v (hs _ ha) hv
theorem KeepCells.of_steps {bs own : Nat → Prop} {A C : World} (h : Steps own A C) (hs : ∀ k, bs k → ¬ own k) : KeepCells bs A C := fun a v ha hv => by
  rw [World.cell?_of_block (w := A) (h.block a.block (World.block_lt_of_cell? A a hv) (hs _ ha))]; exact hv
theorem ownsRow_form {w : World} {base size n : Nat} {e : TypeId} {v : Value} {cs : List Value} (h : w.ownsRow base e size v n cs) : ∃ a c, v = .slice a n c := by
  rcases h.2 with ⟨rfl, rfl⟩ | ⟨g, cap, cur, rfl, _⟩
  · exact ⟨none, 0, rfl⟩
  · exact ⟨_, _, rfl⟩
theorem setGrown (w : World) (p o : Nat) (v : Value) : w.grownBy (w.setCell ⟨p, o, none⟩ v) (some p) :=
  ⟨rfl, rfl, rfl, by simp, fun i _ hne => Below.heap_setCell _ _ _ _ (fun e => hne (by rw [e]))⟩
theorem ownsRow_set {w : World} {base size n p o : Nat} {e : TypeId} {v u : Value} {cs : List Value} (h : w.ownsRow base e size v n cs) (hp : p < base) : (w.setCell ⟨p, o, none⟩ u).ownsRow base e size v n cs :=
  h.kept (setGrown w p o u) (by
    cases hv : v.ownBlock with
    | none => exact .inl rfl
    | some g => exact .inr (fun e => by have := (h.lt g hv).1; have := Option.some.inj e; omega))
theorem ownsRow_same {w w' : World} {base size n : Nat} {e : TypeId} {v : Value} {cs : List Value} (h : w.ownsRow base e size v n cs) (hb : ∀ g, v.ownBlock = some g → w'.heap[g]? = w.heap[g]?) : w'.ownsRow base e size v n cs := by
  refine ⟨h.1, ?_⟩
  rcases h.2 with hn | ⟨g, cap, cur, rfl, hbg, hgg, rest⟩
  · exact .inl hn
  · exact .inr ⟨g, cap, cur, rfl, hbg, (hb g rfl).trans hgg, rest⟩
theorem ownsRow_any {w : World} {base size n : Nat} {e : TypeId} {v : Value} {cs : List Value} (h : w.ownsRow base e size v n cs) : ∃ a N c, v = .slice a N c := by
  obtain ⟨a, c, h⟩ := ownsRow_form h
  exact ⟨a, n, c, h⟩
theorem grown_low {w w1 w2 : World} {pc B : Nat} (h : w.grownBy w1 (some pc)) (k : Below B w1 w2) (hB : w.heap.size ≤ B) : w.grownBy w2 (some pc) :=
  ⟨k.os.trans h.os, k.tape.trans h.tape, k.output.trans h.output, Nat.le_trans h.size k.size, fun i hi hne => (k.block i (by omega)).trans (h.block i hi hne)⟩
theorem getD_app {sm : List Int} {v : Int} {i : Nat} (h : i < sm.length) : (sm ++ [v]).getD i (-1) = sm.getD i (-1) := by
  simp only [List.getD_eq_getElem?_getD]
  rw [List.getElem?_append_left h]
theorem getD_last (sm : List Int) (v : Int) : (sm ++ [v]).getD sm.length (-1) = v := by
  simp only [List.getD_eq_getElem?_getD]
  rw [List.getElem?_append_right (Nat.le_refl _)]
  simp
theorem getD_last' {sm : List Int} {n : Nat} (v : Int) (h : sm.length = n) : (sm ++ [v]).getD n (-1) = v := by rw [← h]; exact getD_last sm v
/-- Rows in blocks apart. -/
def Dj (v u : Value) : Prop := ∀ g, v.ownBlock = some g → u.ownBlock ≠ some g
theorem Dj.symm {v u : Value} (h : Dj v u) : Dj u v := fun g hu hv => h g hv hu
theorem Dj.kept {v u : Value} (h : Dj v u) : v.ownBlock = none ∨ v.ownBlock ≠ u.ownBlock := by
  cases hv : v.ownBlock with
  | none => exact .inl rfl
  | some g => exact .inr (fun e => h g hv e.symm)
theorem Dj.next {W : World} {v u u' : Value} (h : Dj v u) (hv : ∀ g, v.ownBlock = some g → g < W.heap.size) (hn : RowNext W u u') : Dj v u' := by
  intro g hg e
  rcases hn with hn | ⟨q, hn, hq⟩
  · exact h g hg (hn ▸ e)
  · rw [hn] at e
    cases e
    have := hv g hg
    omega
end Go.Proofs.Ytacioedolmaofaa
namespace Go.Proofs.Ytacioedolmaofaa
open Go.RowKit Go.Shelf
set_option maxHeartbeats 3200000
set_option maxRecDepth 100000
set_option linter.unusedSimpArgs false
set_option linter.unusedVariables false

theorem iwithin_any (n lo hi : Int) (w : World) :
    Calls Try.prog 53 #[.int .i64 n, .int .i64 lo, .int .i64 hi] w fun e w' => e = .returned (.bool (decide (lo ≤ n) && decide (n ≤ hi))) ∧ w = w' := by
  go_enter Try.func53, Try.ntmps53
  go_wp2
  all_goals (go_ret; refine ⟨ret_bool ?_, rfl⟩)
  · have h : lo ≤ n := by assumption
    simp [h]
  · have h : n < lo := by assumption
    simp; omega

theorem iisSpan_any (s : Sp) (lo hi : Int) (w : World) :
    Calls Try.prog 78 #[.agg #[.int .i64 s.lo, .int .i64 s.hi], .int .i64 lo, .int .i64 hi] w fun e w' => e = .returned (.bool (s.ok lo hi)) ∧ Below w.heap.size w w' := by
  obtain ⟨a, b⟩ := s
  simp only [Sp.ok]
  go_enter Try.func78, Try.ntmps78
  go_wp2
  all_goals (go_ret; refine ⟨ret_bool ?_, (Below.refl _ _).alloc (Nat.le_refl _) _⟩)
  · have h1 : lo ≤ a := by assumption
    have h2 : a ≤ b := by assumption
    simp [h1, h2]
  · have h1 : b < a := by assumption
    simp; omega
  · have h1 : a < lo := by assumption
    simp; omega

theorem ihas_any (s k : Nat) (w : World) (hs : s < 2 ^ 64) (hk : k < 64) :
    Calls Try.prog 68 #[.int .u64 s, .int .i64 k] w fun e w' => e = .returned (.bool (s.testBit k)) ∧ w = w' := by
  go_enter Try.func68, Try.ntmps68
  go_wp2
  go_ret
  exact ⟨ret_bool (has_bit s k hs), rfl⟩

def endV (s : Sp) : Value := .agg #[.int .i64 s.lo, .int .i64 s.hi]

theorem iof_any (s : Sp) (w : World) :
    Calls Try.prog 70 #[.agg #[.int .i64 s.lo, .int .i64 s.hi]] w fun e w' => e = .returned (.agg #[.int .i64 s.lo, .int .i64 s.hi]) ∧ Below w.heap.size w w' := by
  go_enter Try.func70, Try.ntmps70
  go_wp2
  obtain ⟨W0, hW0⟩ : ∃ W, ((w.alloc (.cells #[.int .i64 s.lo, .int .i64 s.hi] 23)).alloc (.cells #[.int .i64 s.lo, .int .i64 s.hi] 82)) = W := ⟨_, rfl⟩
  rw [hW0]
  try simp only [Nat.add_assoc, Nat.reduceAdd]
  have hst_W0 : Steps (fun _ => False) w W0 := by rw [← hW0]; exact (Steps.alloc _ w _).trans (Steps.alloc (fun _ => False) _ _) (fun _ _ h => h)
  have hz_W0 : W0.heap.size = w.heap.size + 2 := by rw [← hW0]; simp
  have g0_W0 : W0.heap[w.heap.size]? = some (.cells #[.int .i64 s.lo, .int .i64 s.hi] 23) := by rw [← hW0]; simp only [alloc_get, World.size_alloc]; repeat (first | exact if_pos trivial | exact if_pos (by omega) | rw [if_neg (by omega)])
  have g1_W0 : W0.heap[w.heap.size + 1]? = some (.cells #[.int .i64 s.lo, .int .i64 s.hi] 82) := by rw [← hW0]; simp only [alloc_get, World.size_alloc]; repeat (first | exact if_pos trivial | exact if_pos (by omega) | rw [if_neg (by omega)])
  clear hW0
  have hb0 : Below w.heap.size w W0 := hst_W0.below (Nat.le_refl _) (fun _ _ h => h)
  have c0 := cell_block g1_W0 0
  have c1 := cell_block g1_W0 1
  simp only [gA, gB, gC] at c0 c1
  exact bodyPost_ret (v := .agg #[.int .i64 s.lo, .int .i64 s.hi]) (by simp [results, Try.results70, go_sem, c0, c1]) rfl ⟨rfl, hb0⟩

theorem inone_any (s : Sp) (w : World) :
    Calls Try.prog 72 #[.agg #[.int .i64 s.lo, .int .i64 s.hi]] w fun e w' => e = .returned (.bool s.none) ∧ Below w.heap.size w w' := by
  go_enter Try.func72, Try.ntmps72
  go_wp2
  go_ret
  exact ⟨rfl, (Below.refl _ _).alloc (Nat.le_refl _) _⟩

theorem imeet_any (s t : Sp) (w : World) :
    Calls Try.prog 71 #[.agg #[.int .i64 s.lo, .int .i64 s.hi], .agg #[.int .i64 t.lo, .int .i64 t.hi]] w fun e w' => e = .returned (.agg #[.int .i64 (s.meet t).lo, .int .i64 (s.meet t).hi]) ∧ Below w.heap.size w w' := by
  obtain ⟨s0, s1⟩ := s
  obtain ⟨t0, t1⟩ := t
  have E1 : (max s0 t0) = (Sp.meet ⟨s0, s1⟩ ⟨t0, t1⟩).lo := rfl
  have E2 : (min s1 t1) = (Sp.meet ⟨s0, s1⟩ ⟨t0, t1⟩).hi := rfl
  rw [← E1, ← E2]
  clear E1 E2
  show Calls Try.prog 71 #[.agg #[.int .i64 s0, .int .i64 s1], .agg #[.int .i64 t0, .int .i64 t1]] w fun e w' => e = .returned (.agg #[.int .i64 (max s0 t0), .int .i64 (min s1 t1)]) ∧ Below w.heap.size w w'
  generalize hm : (max s0 t0) = m
  generalize hn : (min s1 t1) = n
  have hm := Lib.hid hm
  have hn := Lib.hid hn
  go_enter Try.func71, Try.ntmps71
  go_wp2
  · have h1 : s0 < t0 := by assumption
    have h2 : t1 < s1 := by assumption
    obtain ⟨W0, hW0⟩ : ∃ W, (((w.alloc (.cells #[.int .i64 s0, .int .i64 s1] 82)).alloc (.cells #[.int .i64 t0, .int .i64 t1] 82)).alloc (.cells #[.int .i64 t0, .int .i64 t1] 82)) = W := ⟨_, rfl⟩
    rw [hW0]
    try simp only [Nat.add_assoc, Nat.reduceAdd]
    have hst_W0 : Steps (fun _ => False) w W0 := by rw [← hW0]; exact ((Steps.alloc _ w _).trans (Steps.alloc (fun _ => False) _ _) (fun _ _ h => h)).trans (Steps.alloc (fun _ => False) _ _) (fun _ _ h => h)
    have hz_W0 : W0.heap.size = w.heap.size + 3 := by rw [← hW0]; simp
    have g0_W0 : W0.heap[w.heap.size]? = some (.cells #[.int .i64 s0, .int .i64 s1] 82) := by rw [← hW0]; simp only [alloc_get, World.size_alloc]; repeat (first | exact if_pos trivial | exact if_pos (by omega) | rw [if_neg (by omega)])
    have g1_W0 : W0.heap[w.heap.size + 1]? = some (.cells #[.int .i64 t0, .int .i64 t1] 82) := by rw [← hW0]; simp only [alloc_get, World.size_alloc]; repeat (first | exact if_pos trivial | exact if_pos (by omega) | rw [if_neg (by omega)])
    have g2_W0 : W0.heap[w.heap.size + 2]? = some (.cells #[.int .i64 t0, .int .i64 t1] 82) := by rw [← hW0]; simp only [alloc_get, World.size_alloc]; repeat (first | exact if_pos trivial | exact if_pos (by omega) | rw [if_neg (by omega)])
    clear hW0
    have hb0 : Below w.heap.size w W0 := hst_W0.below (Nat.le_refl _) (fun _ _ h => h)
    have c0 := cell_block g2_W0 0
    have c1 := cell_block g2_W0 1
    simp only [gA, gB, gC] at c0 c1
    have em : m = t0 := by have := hm.out; omega
    have en : n = t1 := by have := hn.out; omega
    exact bodyPost_ret (v := .agg #[.int .i64 t0, .int .i64 t1]) (by simp [results, Try.results71, go_sem, c0, c1]) rfl ⟨by rw [em, en], hb0⟩
  · have h1 : s0 < t0 := by assumption
    have h2 : s1 ≤ t1 := by assumption
    obtain ⟨W0, hW0⟩ : ∃ W, (((w.alloc (.cells #[.int .i64 s0, .int .i64 s1] 82)).alloc (.cells #[.int .i64 t0, .int .i64 t1] 82)).alloc (.cells #[.int .i64 t0, .int .i64 s1] 82)) = W := ⟨_, rfl⟩
    rw [hW0]
    try simp only [Nat.add_assoc, Nat.reduceAdd]
    have hst_W0 : Steps (fun _ => False) w W0 := by rw [← hW0]; exact ((Steps.alloc _ w _).trans (Steps.alloc (fun _ => False) _ _) (fun _ _ h => h)).trans (Steps.alloc (fun _ => False) _ _) (fun _ _ h => h)
    have hz_W0 : W0.heap.size = w.heap.size + 3 := by rw [← hW0]; simp
    have g0_W0 : W0.heap[w.heap.size]? = some (.cells #[.int .i64 s0, .int .i64 s1] 82) := by rw [← hW0]; simp only [alloc_get, World.size_alloc]; repeat (first | exact if_pos trivial | exact if_pos (by omega) | rw [if_neg (by omega)])
    have g1_W0 : W0.heap[w.heap.size + 1]? = some (.cells #[.int .i64 t0, .int .i64 t1] 82) := by rw [← hW0]; simp only [alloc_get, World.size_alloc]; repeat (first | exact if_pos trivial | exact if_pos (by omega) | rw [if_neg (by omega)])
    have g2_W0 : W0.heap[w.heap.size + 2]? = some (.cells #[.int .i64 t0, .int .i64 s1] 82) := by rw [← hW0]; simp only [alloc_get, World.size_alloc]; repeat (first | exact if_pos trivial | exact if_pos (by omega) | rw [if_neg (by omega)])
    clear hW0
    have hb0 : Below w.heap.size w W0 := hst_W0.below (Nat.le_refl _) (fun _ _ h => h)
    have c0 := cell_block g2_W0 0
    have c1 := cell_block g2_W0 1
    simp only [gA, gB, gC] at c0 c1
    have em : m = t0 := by have := hm.out; omega
    have en : n = s1 := by have := hn.out; omega
    exact bodyPost_ret (v := .agg #[.int .i64 t0, .int .i64 s1]) (by simp [results, Try.results71, go_sem, c0, c1]) rfl ⟨by rw [em, en], hb0⟩
  · have h1 : t0 ≤ s0 := by assumption
    have h2 : t1 < s1 := by assumption
    obtain ⟨W0, hW0⟩ : ∃ W, (((w.alloc (.cells #[.int .i64 s0, .int .i64 s1] 82)).alloc (.cells #[.int .i64 t0, .int .i64 t1] 82)).alloc (.cells #[.int .i64 s0, .int .i64 t1] 82)) = W := ⟨_, rfl⟩
    rw [hW0]
    try simp only [Nat.add_assoc, Nat.reduceAdd]
    have hst_W0 : Steps (fun _ => False) w W0 := by rw [← hW0]; exact ((Steps.alloc _ w _).trans (Steps.alloc (fun _ => False) _ _) (fun _ _ h => h)).trans (Steps.alloc (fun _ => False) _ _) (fun _ _ h => h)
    have hz_W0 : W0.heap.size = w.heap.size + 3 := by rw [← hW0]; simp
    have g0_W0 : W0.heap[w.heap.size]? = some (.cells #[.int .i64 s0, .int .i64 s1] 82) := by rw [← hW0]; simp only [alloc_get, World.size_alloc]; repeat (first | exact if_pos trivial | exact if_pos (by omega) | rw [if_neg (by omega)])
    have g1_W0 : W0.heap[w.heap.size + 1]? = some (.cells #[.int .i64 t0, .int .i64 t1] 82) := by rw [← hW0]; simp only [alloc_get, World.size_alloc]; repeat (first | exact if_pos trivial | exact if_pos (by omega) | rw [if_neg (by omega)])
    have g2_W0 : W0.heap[w.heap.size + 2]? = some (.cells #[.int .i64 s0, .int .i64 t1] 82) := by rw [← hW0]; simp only [alloc_get, World.size_alloc]; repeat (first | exact if_pos trivial | exact if_pos (by omega) | rw [if_neg (by omega)])
    clear hW0
    have hb0 : Below w.heap.size w W0 := hst_W0.below (Nat.le_refl _) (fun _ _ h => h)
    have c0 := cell_block g2_W0 0
    have c1 := cell_block g2_W0 1
    simp only [gA, gB, gC] at c0 c1
    have em : m = s0 := by have := hm.out; omega
    have en : n = t1 := by have := hn.out; omega
    exact bodyPost_ret (v := .agg #[.int .i64 s0, .int .i64 t1]) (by simp [results, Try.results71, go_sem, c0, c1]) rfl ⟨by rw [em, en], hb0⟩
  · have h1 : t0 ≤ s0 := by assumption
    have h2 : s1 ≤ t1 := by assumption
    obtain ⟨W0, hW0⟩ : ∃ W, (((w.alloc (.cells #[.int .i64 s0, .int .i64 s1] 82)).alloc (.cells #[.int .i64 t0, .int .i64 t1] 82)).alloc (.cells #[.int .i64 s0, .int .i64 s1] 82)) = W := ⟨_, rfl⟩
    rw [hW0]
    try simp only [Nat.add_assoc, Nat.reduceAdd]
    have hst_W0 : Steps (fun _ => False) w W0 := by rw [← hW0]; exact ((Steps.alloc _ w _).trans (Steps.alloc (fun _ => False) _ _) (fun _ _ h => h)).trans (Steps.alloc (fun _ => False) _ _) (fun _ _ h => h)
    have hz_W0 : W0.heap.size = w.heap.size + 3 := by rw [← hW0]; simp
    have g0_W0 : W0.heap[w.heap.size]? = some (.cells #[.int .i64 s0, .int .i64 s1] 82) := by rw [← hW0]; simp only [alloc_get, World.size_alloc]; repeat (first | exact if_pos trivial | exact if_pos (by omega) | rw [if_neg (by omega)])
    have g1_W0 : W0.heap[w.heap.size + 1]? = some (.cells #[.int .i64 t0, .int .i64 t1] 82) := by rw [← hW0]; simp only [alloc_get, World.size_alloc]; repeat (first | exact if_pos trivial | exact if_pos (by omega) | rw [if_neg (by omega)])
    have g2_W0 : W0.heap[w.heap.size + 2]? = some (.cells #[.int .i64 s0, .int .i64 s1] 82) := by rw [← hW0]; simp only [alloc_get, World.size_alloc]; repeat (first | exact if_pos trivial | exact if_pos (by omega) | rw [if_neg (by omega)])
    clear hW0
    have hb0 : Below w.heap.size w W0 := hst_W0.below (Nat.le_refl _) (fun _ _ h => h)
    have c0 := cell_block g2_W0 0
    have c1 := cell_block g2_W0 1
    simp only [gA, gB, gC] at c0 c1
    have em : m = s0 := by have := hm.out; omega
    have en : n = s1 := by have := hn.out; omega
    exact bodyPost_ret (v := .agg #[.int .i64 s0, .int .i64 s1]) (by simp [results, Try.results71, go_sem, c0, c1]) rfl ⟨by rw [em, en], hb0⟩

theorem ijoin_any (s t : Sp) (w : World) :
    Calls Try.prog 55 #[.agg #[.int .i64 s.lo, .int .i64 s.hi], .agg #[.int .i64 t.lo, .int .i64 t.hi]] w fun e w' => e = .returned (.agg #[.int .i64 (s.join t).lo, .int .i64 (s.join t).hi]) ∧ Below w.heap.size w w' := by
  obtain ⟨s0, s1⟩ := s
  obtain ⟨t0, t1⟩ := t
  have E1 : (min s0 t0) = (Sp.join ⟨s0, s1⟩ ⟨t0, t1⟩).lo := rfl
  have E2 : (max s1 t1) = (Sp.join ⟨s0, s1⟩ ⟨t0, t1⟩).hi := rfl
  rw [← E1, ← E2]
  clear E1 E2
  show Calls Try.prog 55 #[.agg #[.int .i64 s0, .int .i64 s1], .agg #[.int .i64 t0, .int .i64 t1]] w fun e w' => e = .returned (.agg #[.int .i64 (min s0 t0), .int .i64 (max s1 t1)]) ∧ Below w.heap.size w w'
  generalize hm : (min s0 t0) = m
  generalize hn : (max s1 t1) = n
  have hm := Lib.hid hm
  have hn := Lib.hid hn
  go_enter Try.func55, Try.ntmps55
  go_wp2
  · have h1 : t0 < s0 := by assumption
    have h2 : s1 < t1 := by assumption
    obtain ⟨W0, hW0⟩ : ∃ W, (((w.alloc (.cells #[.int .i64 s0, .int .i64 s1] 82)).alloc (.cells #[.int .i64 t0, .int .i64 t1] 82)).alloc (.cells #[.int .i64 t0, .int .i64 t1] 82)) = W := ⟨_, rfl⟩
    rw [hW0]
    try simp only [Nat.add_assoc, Nat.reduceAdd]
    have hst_W0 : Steps (fun _ => False) w W0 := by rw [← hW0]; exact ((Steps.alloc _ w _).trans (Steps.alloc (fun _ => False) _ _) (fun _ _ h => h)).trans (Steps.alloc (fun _ => False) _ _) (fun _ _ h => h)
    have hz_W0 : W0.heap.size = w.heap.size + 3 := by rw [← hW0]; simp
    have g0_W0 : W0.heap[w.heap.size]? = some (.cells #[.int .i64 s0, .int .i64 s1] 82) := by rw [← hW0]; simp only [alloc_get, World.size_alloc]; repeat (first | exact if_pos trivial | exact if_pos (by omega) | rw [if_neg (by omega)])
    have g1_W0 : W0.heap[w.heap.size + 1]? = some (.cells #[.int .i64 t0, .int .i64 t1] 82) := by rw [← hW0]; simp only [alloc_get, World.size_alloc]; repeat (first | exact if_pos trivial | exact if_pos (by omega) | rw [if_neg (by omega)])
    have g2_W0 : W0.heap[w.heap.size + 2]? = some (.cells #[.int .i64 t0, .int .i64 t1] 82) := by rw [← hW0]; simp only [alloc_get, World.size_alloc]; repeat (first | exact if_pos trivial | exact if_pos (by omega) | rw [if_neg (by omega)])
    clear hW0
    have hb0 : Below w.heap.size w W0 := hst_W0.below (Nat.le_refl _) (fun _ _ h => h)
    have c0 := cell_block g2_W0 0
    have c1 := cell_block g2_W0 1
    simp only [gA, gB, gC] at c0 c1
    have em : m = t0 := by have := hm.out; omega
    have en : n = t1 := by have := hn.out; omega
    exact bodyPost_ret (v := .agg #[.int .i64 t0, .int .i64 t1]) (by simp [results, Try.results55, go_sem, c0, c1]) rfl ⟨by rw [em, en], hb0⟩
  · have h1 : t0 < s0 := by assumption
    have h2 : t1 ≤ s1 := by assumption
    obtain ⟨W0, hW0⟩ : ∃ W, (((w.alloc (.cells #[.int .i64 s0, .int .i64 s1] 82)).alloc (.cells #[.int .i64 t0, .int .i64 t1] 82)).alloc (.cells #[.int .i64 t0, .int .i64 s1] 82)) = W := ⟨_, rfl⟩
    rw [hW0]
    try simp only [Nat.add_assoc, Nat.reduceAdd]
    have hst_W0 : Steps (fun _ => False) w W0 := by rw [← hW0]; exact ((Steps.alloc _ w _).trans (Steps.alloc (fun _ => False) _ _) (fun _ _ h => h)).trans (Steps.alloc (fun _ => False) _ _) (fun _ _ h => h)
    have hz_W0 : W0.heap.size = w.heap.size + 3 := by rw [← hW0]; simp
    have g0_W0 : W0.heap[w.heap.size]? = some (.cells #[.int .i64 s0, .int .i64 s1] 82) := by rw [← hW0]; simp only [alloc_get, World.size_alloc]; repeat (first | exact if_pos trivial | exact if_pos (by omega) | rw [if_neg (by omega)])
    have g1_W0 : W0.heap[w.heap.size + 1]? = some (.cells #[.int .i64 t0, .int .i64 t1] 82) := by rw [← hW0]; simp only [alloc_get, World.size_alloc]; repeat (first | exact if_pos trivial | exact if_pos (by omega) | rw [if_neg (by omega)])
    have g2_W0 : W0.heap[w.heap.size + 2]? = some (.cells #[.int .i64 t0, .int .i64 s1] 82) := by rw [← hW0]; simp only [alloc_get, World.size_alloc]; repeat (first | exact if_pos trivial | exact if_pos (by omega) | rw [if_neg (by omega)])
    clear hW0
    have hb0 : Below w.heap.size w W0 := hst_W0.below (Nat.le_refl _) (fun _ _ h => h)
    have c0 := cell_block g2_W0 0
    have c1 := cell_block g2_W0 1
    simp only [gA, gB, gC] at c0 c1
    have em : m = t0 := by have := hm.out; omega
    have en : n = s1 := by have := hn.out; omega
    exact bodyPost_ret (v := .agg #[.int .i64 t0, .int .i64 s1]) (by simp [results, Try.results55, go_sem, c0, c1]) rfl ⟨by rw [em, en], hb0⟩
  · have h1 : s0 ≤ t0 := by assumption
    have h2 : s1 < t1 := by assumption
    obtain ⟨W0, hW0⟩ : ∃ W, (((w.alloc (.cells #[.int .i64 s0, .int .i64 s1] 82)).alloc (.cells #[.int .i64 t0, .int .i64 t1] 82)).alloc (.cells #[.int .i64 s0, .int .i64 t1] 82)) = W := ⟨_, rfl⟩
    rw [hW0]
    try simp only [Nat.add_assoc, Nat.reduceAdd]
    have hst_W0 : Steps (fun _ => False) w W0 := by rw [← hW0]; exact ((Steps.alloc _ w _).trans (Steps.alloc (fun _ => False) _ _) (fun _ _ h => h)).trans (Steps.alloc (fun _ => False) _ _) (fun _ _ h => h)
    have hz_W0 : W0.heap.size = w.heap.size + 3 := by rw [← hW0]; simp
    have g0_W0 : W0.heap[w.heap.size]? = some (.cells #[.int .i64 s0, .int .i64 s1] 82) := by rw [← hW0]; simp only [alloc_get, World.size_alloc]; repeat (first | exact if_pos trivial | exact if_pos (by omega) | rw [if_neg (by omega)])
    have g1_W0 : W0.heap[w.heap.size + 1]? = some (.cells #[.int .i64 t0, .int .i64 t1] 82) := by rw [← hW0]; simp only [alloc_get, World.size_alloc]; repeat (first | exact if_pos trivial | exact if_pos (by omega) | rw [if_neg (by omega)])
    have g2_W0 : W0.heap[w.heap.size + 2]? = some (.cells #[.int .i64 s0, .int .i64 t1] 82) := by rw [← hW0]; simp only [alloc_get, World.size_alloc]; repeat (first | exact if_pos trivial | exact if_pos (by omega) | rw [if_neg (by omega)])
    clear hW0
    have hb0 : Below w.heap.size w W0 := hst_W0.below (Nat.le_refl _) (fun _ _ h => h)
    have c0 := cell_block g2_W0 0
    have c1 := cell_block g2_W0 1
    simp only [gA, gB, gC] at c0 c1
    have em : m = s0 := by have := hm.out; omega
    have en : n = t1 := by have := hn.out; omega
    exact bodyPost_ret (v := .agg #[.int .i64 s0, .int .i64 t1]) (by simp [results, Try.results55, go_sem, c0, c1]) rfl ⟨by rw [em, en], hb0⟩
  · have h1 : s0 ≤ t0 := by assumption
    have h2 : t1 ≤ s1 := by assumption
    obtain ⟨W0, hW0⟩ : ∃ W, (((w.alloc (.cells #[.int .i64 s0, .int .i64 s1] 82)).alloc (.cells #[.int .i64 t0, .int .i64 t1] 82)).alloc (.cells #[.int .i64 s0, .int .i64 s1] 82)) = W := ⟨_, rfl⟩
    rw [hW0]
    try simp only [Nat.add_assoc, Nat.reduceAdd]
    have hst_W0 : Steps (fun _ => False) w W0 := by rw [← hW0]; exact ((Steps.alloc _ w _).trans (Steps.alloc (fun _ => False) _ _) (fun _ _ h => h)).trans (Steps.alloc (fun _ => False) _ _) (fun _ _ h => h)
    have hz_W0 : W0.heap.size = w.heap.size + 3 := by rw [← hW0]; simp
    have g0_W0 : W0.heap[w.heap.size]? = some (.cells #[.int .i64 s0, .int .i64 s1] 82) := by rw [← hW0]; simp only [alloc_get, World.size_alloc]; repeat (first | exact if_pos trivial | exact if_pos (by omega) | rw [if_neg (by omega)])
    have g1_W0 : W0.heap[w.heap.size + 1]? = some (.cells #[.int .i64 t0, .int .i64 t1] 82) := by rw [← hW0]; simp only [alloc_get, World.size_alloc]; repeat (first | exact if_pos trivial | exact if_pos (by omega) | rw [if_neg (by omega)])
    have g2_W0 : W0.heap[w.heap.size + 2]? = some (.cells #[.int .i64 s0, .int .i64 s1] 82) := by rw [← hW0]; simp only [alloc_get, World.size_alloc]; repeat (first | exact if_pos trivial | exact if_pos (by omega) | rw [if_neg (by omega)])
    clear hW0
    have hb0 : Below w.heap.size w W0 := hst_W0.below (Nat.le_refl _) (fun _ _ h => h)
    have c0 := cell_block g2_W0 0
    have c1 := cell_block g2_W0 1
    simp only [gA, gB, gC] at c0 c1
    have em : m = s0 := by have := hm.out; omega
    have en : n = s1 := by have := hn.out; omega
    exact bodyPost_ret (v := .agg #[.int .i64 s0, .int .i64 s1]) (by simp [results, Try.results55, go_sem, c0, c1]) rfl ⟨by rw [em, en], hb0⟩

end Go.Proofs.Ytacioedolmaofaa
namespace Go.Proofs.Ytacioedolmaofaa
open Go.RowKit Go.Shelf
set_option maxHeartbeats 3200000
set_option maxRecDepth 100000
set_option linter.unusedSimpArgs false
set_option linter.unusedVariables false

def orAll (l : List Nat) : Nat := l.foldl (fun a b => a ||| b) 0
theorem orAll_take (l : List Nat) (k : Nat) (h : k < l.length) : orAll (l.take (k + 1)) = orAll (l.take k) ||| l[k] := by
  unfold orAll
  rw [List.take_succ_eq_append_getElem h, List.foldl_append]
  rfl
theorem or_lt {a b n : Nat} (ha : a < 2 ^ n) (hb : b < 2 ^ n) : a ||| b < 2 ^ n := Nat.or_lt_two_pow ha hb
theorem orAll_lt (l : List Nat) (hl : ∀ x ∈ l, x < 2 ^ 64) : orAll l < 2 ^ 64 := by
  unfold orAll
  suffices h : ∀ (l : List Nat) (a : Nat), a < 2 ^ 64 → (∀ x ∈ l, x < 2 ^ 64) → l.foldl (fun a b => a ||| b) a < 2 ^ 64 from h l 0 (by omega) hl
  intro l
  induction l with
  | nil => intro a ha _; exact ha
  | cons x xs ih => intro a ha hx; exact ih _ (or_lt ha (hx x List.mem_cons_self)) (fun y hy => hx y (List.mem_cons_of_mem _ hy))

/-- Some sets in a row. -/
def SetsAt (w : World) (g : Nat) (l : List Nat) : Prop := ∀ k (h : k < l.length), w.cell? ⟨g, k, none⟩ = some (.int .u64 l[k])

theorem iunion_any (g : Nat) (l : List Nat) (w : World) (hx : SetsAt w g l) (hl : l.length ≤ 9) (hb : ∀ x ∈ l, x < 2 ^ 64) :
    Calls Try.prog 49 #[.slice (some ⟨g, 0, none⟩) l.length l.length] w fun e w' => e = .returned (.int .u64 (orAll l)) ∧ w = w' := by
  have hli : (l.length : Int) ≤ 9 := by omega
  have HB := Lib.hid hb
  clear hb
  go_enter Try.func49, Try.ntmps49
  go_wp2
  go_loopw [2, 4, 7] (fun s _ i wr => wr = w ∧ ∃ k : Nat, k ≤ l.length ∧ i = .int .i64 k ∧ s = .int .u64 (orAll (l.take k))) (fun _ _ i _ => l.length - (intOf i).toNat)
  case atStart => exact ⟨rfl, 0, Nat.zero_le _, rfl, rfl⟩
  case round =>
    obtain ⟨rfl, k, hk, rfl, rfl⟩ := hrel
    by_cases hlt : k < l.length
    · have hc := hx k hlt
      have ht := orAll_take l k hlt
      have h1 : orAll (l.take k) < 2 ^ 64 := orAll_lt _ fun x hx => HB.out x (List.mem_of_mem_take hx)
      have h2 : l[k] < 2 ^ 64 := HB.out _ (List.getElem_mem hlt)
      have ho := or_u64 _ _ h1 h2
      rw [← ht] at ho
      have HO := Lib.hid ho
      clear ho h1 h2 ht
      go_wp2
      go_roundw
      case rel => exact ⟨trivial, k + 1, by omega, by go_num, by first | rw [HO.out] | (congr 1; exact HO.out) | exact HO.out⟩
      case measure => simp [intOf]; omega
    · obtain rfl : k = l.length := by omega
      have hf : l.take l.length = l := List.take_length
      have HF := Lib.hid hf
      clear hf
      go_wp2
      go_ret
      exact ⟨by rw [HF.out]; rfl, rfl⟩

theorem iunion_two (a b : Nat) (T : TypeId) (w : World) (ha : a < 2 ^ 64) (hb : b < 2 ^ 64) :
    Calls Try.prog 49 #[.slice (some ⟨w.heap.size, 0, none⟩) 2 2] (w.alloc (.cells #[.int .u64 a, .int .u64 b] T)) fun e w' => e = .returned (.int .u64 (a ||| b : Nat)) ∧ w.alloc (.cells #[.int .u64 a, .int .u64 b] T) = w' := by
  have h := iunion_any w.heap.size [a, b] (w.alloc (.cells #[.int .u64 a, .int .u64 b] T)) (fun k hk => by
    rcases k with _ | _ | k
    · exact cell_new _ _ _ _ _ rfl
    · exact cell_new _ _ _ _ _ rfl
    · simp at hk; omega) (by simp) (fun x hx => by
    simp only [List.mem_cons, List.not_mem_nil, or_false] at hx
    rcases hx with rfl | rfl <;> assumption)
  have e : orAll [a, b] = a ||| b := by simp [orAll]
  rwa [e] at h

/-- The images of the first k of a trail. -/
def ownTo (t : ITr) (k : Nat) : Nat := orAll ([bit1 t.a, bit1 t.b, bit1 t.c].take k)
theorem bit1_lt (i : Int) (h : -1 ≤ i) (h2 : i < 9) : bit1 i < 2 ^ 9 := by
  unfold bit1
  split
  · omega
  · exact Nat.pow_lt_pow_right (by omega) (by omega)
theorem ownTo_lt (t : ITr) (k : Nat) (HB : ∀ i ∈ [t.a, t.b, t.c], -1 ≤ i ∧ i < 9) : ownTo t k < 2 ^ 9 := by
  unfold ownTo orAll
  suffices h : ∀ (l : List Nat) (a : Nat), a < 2 ^ 9 → (∀ x ∈ l, x < 2 ^ 9) → l.foldl (fun a b => a ||| b) a < 2 ^ 9 from h _ 0 (by omega) (fun x hx => by
    have := List.mem_of_mem_take hx
    simp only [List.mem_cons, List.not_mem_nil, or_false] at this
    rcases this with rfl | rfl | rfl
    · exact bit1_lt _ (HB t.a (by simp)).1 (HB t.a (by simp)).2
    · exact bit1_lt _ (HB t.b (by simp)).1 (HB t.b (by simp)).2
    · exact bit1_lt _ (HB t.c (by simp)).1 (HB t.c (by simp)).2)
  intro l
  induction l with
  | nil => intro a ha _; exact ha
  | cons x xs ih => intro a ha hx; exact ih _ (or_lt ha (hx x List.mem_cons_self)) (fun y hy => hx y (List.mem_cons_of_mem _ hy))
theorem ownTo_step (t : ITr) (k : Nat) (h : k < 3) : ownTo t (k + 1) = ownTo t k ||| bit1 ([t.a, t.b, t.c].getD k 0) := by
  unfold ownTo
  rcases k with _ | _ | _ | k
  · simp [orAll]
  · simp [orAll]
  · simp [orAll]
  · omega
theorem ownTo_all (t : ITr) : ownTo t 3 = t.own := by simp [ownTo, orAll, ITr.own]

theorem tix0 (a b c : Int) (w : World) : (Instr.index 32 (.agg #[.int .i64 a, .int .i64 b, .int .i64 c]) (.int .i64 0)).run Try.prog w = .ok (.int .i64 a) w := by kernel_rfl
theorem tix1 (a b c : Int) (w : World) : (Instr.index 32 (.agg #[.int .i64 a, .int .i64 b, .int .i64 c]) (.int .i64 1)).run Try.prog w = .ok (.int .i64 b) w := by kernel_rfl
theorem tix2 (a b c : Int) (w : World) : (Instr.index 32 (.agg #[.int .i64 a, .int .i64 b, .int .i64 c]) (.int .i64 2)).run Try.prog w = .ok (.int .i64 c) w := by kernel_rfl
def ITr.at' (t : ITr) (k : Nat) : Int := [t.a, t.b, t.c].getD k 0
theorem tix (t : ITr) (k : Nat) (h : k < 3) (w : World) : (Instr.index 32 (.agg #[.int .i64 t.a, .int .i64 t.b, .int .i64 t.c]) (.int .i64 k)).run Try.prog w = .ok (.int .i64 (t.at' k)) w := by
  rcases k with _ | _ | _ | k
  · exact tix0 _ _ _ w
  · exact tix1 _ _ _ w
  · exact tix2 _ _ _ w
  · omega
theorem at_mem (t : ITr) (k : Nat) (h : k < 3) : t.at' k ∈ [t.a, t.b, t.c] := by
  rcases k with _ | _ | _ | k
  · simp [ITr.at']
  · simp [ITr.at']
  · simp [ITr.at']
  · omega

def trV (t : ITr) : Value := .agg #[.int .i64 t.a, .int .i64 t.b, .int .i64 t.c]
theorem iimages_any (t : ITr) (w : World) (h : ∀ i ∈ [t.a, t.b, t.c], -1 ≤ i ∧ i < 9) :
    Calls Try.prog 50 #[.agg #[.int .i64 t.a, .int .i64 t.b, .int .i64 t.c]] w fun e w' => e = .returned (.int .u64 t.own) ∧ Below w.heap.size w w' := by
  have HB := Lib.hid h
  clear h
  go_enter Try.func50, Try.ntmps50
  go_wp2
  go_loopw [2, 4, 6] (fun s _ i wr => ∃ k : Nat, k ≤ 3 ∧ i = .int .i64 k ∧ s = .int .u64 (ownTo t k) ∧ Below w.heap.size w wr) (fun _ _ i _ => 3 - (intOf i).toNat)
  case atStart => exact ⟨0, by omega, rfl, rfl, below_alloc _ _⟩
  case round =>
    rename_i wr
    obtain ⟨k, hk, rfl, rfl, hbw⟩ := hrel
    by_cases hlt : k < 3
    · have ix := tix t k hlt
      have hm := HB.out _ (at_mem t k hlt)
      have hs := ownTo_step t k hlt
      rw [show [t.a, t.b, t.c].getD k 0 = t.at' k from rfl] at hs
      have ho := ownTo_lt t k HB.out
      have HS := Lib.hid hs
      clear hs
      generalize t.at' k = y at ix hm HS
      have hy1 : -1 ≤ y := hm.1
      have hy2 : y < 9 := hm.2
      clear hm
      by_cases hy : y = -1
      · subst hy
        have e : ownTo t (k + 1) = ownTo t k := by rw [HS.out]; simp [bit1]
        have HE := Lib.hid e
        clear e
        go_wp2_with fail
        go_roundw
        case rel => exact ⟨k + 1, by omega, by go_num, by rw [HE.out], hbw⟩
        case measure => simp [intOf]; omega
      · have h1 : (y != -1) = true := by simpa using hy
        have hb : bit1 y = 2 ^ y.toNat := by unfold bit1; rw [if_neg hy]
        have hv : IntKind.u64.wrap (2 ^ y.toNat) = ((bit1 y : Nat) : Int) := by rw [hb]; exact pow_u64 _ (by omega)
        have hl := bit1_lt y hy1 hy2
        have HV := Lib.hid hv
        clear hv hb
        go_wp2_with fail
        rw [HV.out]
        have hbu := below_alloc wr (.cells #[.int .u64 (ownTo t k : Nat), .int .u64 (bit1 y : Nat)] 88)
        refine (iunion_two _ _ _ _ (by omega) (by omega)).mono ?_
        rintro e w3 ⟨rfl, rfl⟩
        have HE := Lib.hid (HS.out ▸ rfl : ownTo t k ||| bit1 y = ownTo t (k + 1))
        rw [HE.out]
        go_wp2_with fail
        go_roundw
        case rel => exact ⟨k + 1, by omega, by go_num, rfl, hbw.trans (hbu.mono hbw.size)⟩
        case measure => simp [intOf]; omega
    · obtain rfl : k = 3 := by omega
      have hf := ownTo_all t
      have HF := Lib.hid hf
      clear hf
      go_wp2_with fail
      go_ret
      exact ⟨by rw [HF.out]; rfl, hbw⟩
end Go.Proofs.Ytacioedolmaofaa
namespace Go.Proofs.Ytacioedolmaofaa
open Go.RowKit Go.Shelf
set_option maxHeartbeats 3200000
set_option maxRecDepth 100000
set_option linter.unusedSimpArgs false
set_option linter.unusedVariables false

def goodAt (t : ITr) (n k : Nat) : Bool := (decide (0 < k) && decide (t.at' k = -1)) || (isIm (t.at' k) n && !(ownTo t k).testBit (t.at' k).toNat)
theorem bit1_test (i : Int) (k : Nat) (h : 0 ≤ i) : (bit1 i).testBit k = decide (i.toNat = k) := by
  unfold bit1
  rw [if_neg (by omega), Nat.testBit_two_pow]
theorem bit1_no : bit1 (-1) = 0 := by simp [bit1]
theorem good_ok (t : ITr) (n : Nat) : (goodAt t n 0 && goodAt t n 1 && goodAt t n 2) = t.ok n := by
  obtain ⟨a, b, c⟩ := t
  simp only [goodAt, ITr.ok, ITr.at', ownTo, orAll, isIm, List.getD_cons_zero, List.getD_cons_succ, List.take_zero, List.take_succ_cons, List.foldl_cons, List.foldl_nil, Nat.zero_or, Nat.zero_testBit, Bool.not_false, Bool.and_true, Nat.lt_irrefl, decide_false, Bool.false_and, Bool.false_or, decide_true, Bool.true_and, show (0 : Nat) < 1 from by omega, show (0 : Nat) < 2 from by omega]
  by_cases ha : 0 ≤ a ∧ a < n
  · have e1 : (bit1 a).testBit b.toNat = decide (a.toNat = b.toNat) := bit1_test a _ ha.1
    have d1 : decide (0 ≤ a) = true := by simpa using ha.1
    have d2 : decide (a < n) = true := by simpa using ha.2
    rw [e1, Nat.testBit_or, bit1_test a _ ha.1, d1, d2]
    by_cases hb : b = -1
    · subst hb
      rw [bit1_no, Nat.zero_testBit]
      by_cases hc : c = -1
      · subst hc; simp
      · rw [Bool.eq_iff_iff]
        simp
        omega
    · by_cases hb2 : 0 ≤ b ∧ b < n
      · rw [bit1_test b _ hb2.1, Bool.eq_iff_iff]
        simp
        omega
      · rw [Bool.eq_iff_iff]
        simp
        intros
        omega
  · rw [Bool.eq_iff_iff]
    simp
    omega
theorem good_lt (t : ITr) (n k : Nat) (hn : n ≤ 9) (hk : k < 3) (h : goodAt t n k = true) (hl : ownTo t k < 2 ^ 9) : ownTo t (k + 1) < 2 ^ 9 := by
  rw [ownTo_step t k hk]
  refine or_lt hl ?_
  rw [show [t.a, t.b, t.c].getD k 0 = t.at' k from rfl]
  simp [goodAt, isIm] at h
  refine bit1_lt _ ?_ ?_ <;> omega
theorem good_three (t : ITr) (n : Nat) (h : ∀ j, j < 3 → goodAt t n j = true) : t.ok n = true := by
  rw [← good_ok, h 0 (by omega), h 1 (by omega), h 2 (by omega)]
  rfl
theorem good_not (t : ITr) (n k : Nat) (hk : k < 3) (h : goodAt t n k = false) : t.ok n = false := by
  rw [← good_ok]
  rcases k with _ | _ | _ | k
  · rw [h]; rfl
  · rw [h]; simp
  · rw [h]; simp
  · omega

theorem iisTrail_any (p n fc : Nat) (fa : Option Addr) (t : ITr) (w : World) (hc : w.cell? ⟨p, 14, none⟩ = some (.slice fa n fc)) (hn : n ≤ 9) :
    Calls Try.prog 41 #[.pointer (some ⟨p, 0, none⟩), .agg #[.int .i64 t.a, .int .i64 t.b, .int .i64 t.c]] w fun e w' => e = .returned (.bool (t.ok n)) ∧ Below w.heap.size w w' := by
  have hni : (n : Int) ≤ 9 := by omega
  go_enter Try.func41, Try.ntmps41
  go_wp2
  go_loopw [5, 6, 7, 9] (fun s _ _ i wr => ∃ k : Nat, k ≤ 3 ∧ i = .int .i64 k ∧ s = .int .u64 (ownTo t k) ∧ (∀ j, j < k → goodAt t n j = true) ∧ ownTo t k < 2 ^ 9 ∧ Below w.heap.size w wr) (fun _ _ _ i _ => 3 - (intOf i).toNat)
  case atStart => exact ⟨0, by omega, rfl, rfl, fun j h => absurd h (by omega), by simp [ownTo, orAll], below_alloc _ _⟩
  case round =>
    rename_i wr
    obtain ⟨k, hk, rfl, rfl, hg, hlo, hbw⟩ := hrel
    have hcr := cell_later hbw hc
    by_cases hlt : k < 3
    · have ix := tix t k hlt
      have hgl := good_lt t n k hn hlt
      have hs := ownTo_step t k hlt
      have HN := Lib.hid (good_not t n k hlt)
      rw [show [t.a, t.b, t.c].getD k 0 = t.at' k from rfl] at hs
      have hgd : goodAt t n k = ((decide (0 < k) && decide (t.at' k = -1)) || (isIm (t.at' k) n && !(ownTo t k).testBit (t.at' k).toNat)) := rfl
      have HG := Lib.hid hg
      have HL := Lib.hid hgl
      have HS := Lib.hid hs
      have HD := Lib.hid hgd
      clear hs hg hgl hgd
      generalize t.at' k = y at ix HS HD
      by_cases hsk : 0 < k ∧ y = -1
      · obtain ⟨h1, rfl⟩ := hsk
        have hki : (0 : Int) < k := by omega
        have hgk : goodAt t n k = true := by rw [HD.out]; simp [h1]
        have e : ownTo t (k + 1) = ownTo t k := by rw [HS.out]; simp [bit1]
        have HE := Lib.hid e
        have HK := Lib.hid hgk
        clear e hgk
        go_wp2_with fail
        go_roundw
        case rel =>
          refine ⟨k + 1, by omega, by go_num, by rw [HE.out], fun j hj => ?_, by rw [HE.out]; exact hlo, hbw⟩
          rcases Nat.lt_succ_iff_lt_or_eq.mp hj with h | rfl
          · exact HG.out j h
          · exact HK.out
        case measure => simp [intOf]; omega
      · have h5 : ((y == -1) = true → ¬ (0 : Int) < k) := by
          intro h1 h2
          exact hsk ⟨by omega, by simpa using h1⟩
        by_cases hy : y = -1
        · subst hy
          have h0 : k = 0 := by by_cases h : k = 0; exact h; exact absurd ⟨by omega, rfl⟩ hsk
          subst h0
          have hgk : goodAt t n 0 = false := by rw [HD.out]; simp [isIm]
          have HK := Lib.hid hgk
          clear hgk
          replace ix : ∀ w, (Instr.index 32 (.agg #[.int .i64 t.a, .int .i64 t.b, .int .i64 t.c]) (.int .i64 0)).run Try.prog w = .ok (.int .i64 (-1)) w := ix
          go_wp2_with fail
          refine (iwithin_any _ _ _ _).mono ?_
          rintro e w3 ⟨rfl, rfl⟩
          rw [show (decide ((0 : Int) ≤ -1) && decide ((-1 : Int) ≤ ((n : Int) - 1))) = false from by simp]
          go_wp2_with fail
          go_ret
          exact ⟨ret_bool (HN.out HK.out).symm, hbw⟩
        · have h1 : (y == -1) = false := by simpa using hy
          by_cases him : 0 ≤ y ∧ y < n
          · obtain ⟨z, rfl⟩ : ∃ z : Nat, y = z := ⟨y.toNat, by omega⟩
            have hzn : z < n := by omega
            have hz9 : (z : Int) < 9 := by omega
            have hiw : (decide ((0 : Int) ≤ z) && decide ((z : Int) ≤ ((n : Int) - 1))) = true := by simp; omega
            have hisIm : isIm z n = true := by simp [isIm, hzn]
            have hgk : goodAt t n k = !(ownTo t k).testBit z := by rw [HD.out, hisIm]; simp
            have hb : bit1 z = 2 ^ z := by unfold bit1; rw [if_neg hy]; rfl
            have hv : IntKind.u64.wrap (2 ^ z) = ((bit1 z : Nat) : Int) := by rw [hb]; exact pow_u64 _ (by omega)
            have hl := bit1_lt z (by omega) hz9
            have HV := Lib.hid hv
            have HIW := Lib.hid hiw
            have HK := Lib.hid hgk
            clear hiw hgk hisIm him hv hb
            go_wp2_with fail
            refine (iwithin_any _ _ _ _).mono ?_
            rintro e w3 ⟨rfl, rfl⟩
            rw [HIW.out]
            go_wp2_with fail
            refine (ihas_any _ _ _ (by omega) (by omega)).mono ?_
            rintro e w3 ⟨rfl, rfl⟩
            cases htb : (ownTo t k).testBit z
            · have hgk : goodAt t n k = true := by rw [HK.out, htb]; rfl
              have HK2 := Lib.hid hgk
              clear hgk htb
              go_wp2_with fail
              rw [HV.out]
              have hbu := below_alloc wr (.cells #[.int .u64 (ownTo t k : Nat), .int .u64 (bit1 z : Nat)] 88)
              refine (iunion_two _ _ _ _ (by omega) (by omega)).mono ?_
              rintro e w3 ⟨rfl, rfl⟩
              have HE := Lib.hid (HS.out ▸ rfl : ownTo t k ||| bit1 z = ownTo t (k + 1))
              rw [HE.out]
              go_wp2_with fail
              go_roundw
              case rel =>
                refine ⟨k + 1, by omega, by go_num, rfl, fun j hj => ?_, HL.out HK2.out hlo, hbw.trans (hbu.mono hbw.size)⟩
                rcases Nat.lt_succ_iff_lt_or_eq.mp hj with h | rfl
                · exact HG.out j h
                · exact HK2.out
              case measure => simp [intOf]; omega
            · have hgk : goodAt t n k = false := by rw [HK.out, htb]; rfl
              have HK2 := Lib.hid hgk
              clear hgk htb
              go_wp2_with fail
              go_ret
              exact ⟨ret_bool (HN.out HK2.out).symm, hbw⟩
          · have hiw : (decide ((0 : Int) ≤ y) && decide (y ≤ ((n : Int) - 1))) = false := by
              rw [Bool.eq_false_iff]; simp; omega
            have hisIm : isIm y n = false := by rw [Bool.eq_false_iff]; simp [isIm]; omega
            have hgk : goodAt t n k = false := by rw [HD.out, hisIm]; simp [hy]
            have HIW := Lib.hid hiw
            have HK := Lib.hid hgk
            clear hiw hgk hisIm him
            go_wp2_with fail
            refine (iwithin_any _ _ _ _).mono ?_
            rintro e w3 ⟨rfl, rfl⟩
            rw [HIW.out]
            go_wp2_with fail
            go_ret
            exact ⟨ret_bool (HN.out HK.out).symm, hbw⟩
    · obtain rfl : k = 3 := by omega
      have HG := Lib.hid hg
      clear hg
      go_wp2_with fail
      go_ret
      exact ⟨ret_bool (good_three t n HG.out).symm, hbw⟩
end Go.Proofs.Ytacioedolmaofaa
namespace Go.Proofs.Ytacioedolmaofaa
open Go Go.RowKit
set_option linter.unusedSimpArgs false
section
variable {P : Program} {ops : Array Oper} {Q : Exit → Act → World → Prop} {md : Region.Mode} {n : Nat}
def noDefer (ops : Array Oper) : Bool := ops.all fun o => match o.op with
  | .defer _ => false
  | _ => true
theorem noDefer_spec (h : noDefer ops = true) {i : Nat} {o : Oper} (hi : ops[i]? = some o) : ∀ c, o.op ≠ .defer c := by
  intro c hc
  unfold noDefer at h
  rw [Array.all_eq_true] at h
  obtain ⟨hlt, he⟩ := Array.getElem?_eq_some_iff.1 hi
  have := h i hlt
  rw [he, hc] at this
  cases this
theorem wpOpIn_round (l : Nat) (hd : noDefer ops = true) {i : Nat} {K : Act → World → Prop} {a : Act} {w : World} (h : wpOpIn Fence.wide n P ops Q i K a w) : wpOpIn (Fence.wide.inRound l) n P ops Q i K a w := by
  unfold wpOpIn at *
  cases hi : ops[i]? with
  | none => rw [hi] at h; exact h
  | some o =>
    rw [hi] at h
    simp only at h ⊢
    have hnd := noDefer_spec hd hi
    split
    · rename_i hw
      rw [if_pos hw] at h
      unfold Oper.wpIn at *
      refine ⟨fun _ _ => trivial, ?_⟩
      have h2 := h.2
      rw [Fence.inRound_round, Oper.semAt_some l _ _ hnd]
      rw [show Fence.wide.round = none from rfl, Oper.semAt_none] at h2
      exact h2
    · rename_i hw
      rw [if_neg hw] at h
      exact ⟨fun _ _ => trivial, h.2⟩
theorem wpAnyIn_round (l : Nat) (hd : noDefer ops = true) : ∀ (fuel : Nat) (listed : Array Bool) (a : Act) (w : World), wpAnyIn Fence.wide n P md ops Q fuel listed a w → wpAnyIn (Fence.wide.inRound l) n P md ops Q fuel listed a w
  | 0, _, _, _, h => h
  | fuel + 1, _, _, _, h => ⟨h.1, fun i hi => wpOpIn_round l hd (wpOpIn_mono (fun a' w' h' => wpAnyIn_round l hd fuel _ a' w' h') (h.2 i hi))⟩
theorem wpIn_region_Wr {S : World → Prop} {id : Nat} {a : Act} {w : World} (l k : Nat) (hn : ops.size = k) (hd : noDefer ops = true) (hm : P.follows .mixedOrders = true) (hS : S w.drew)
    (h : S w.drew → wpAnyW P n .any ops (onNormal Q) S k (Array.replicate k false) a w.drew) : (Code.region id ops true).wpIn (Fence.wide.inRound l) n P Q a w := by
  subst hn
  exact wpIn_mono (wpIn_region_any hm (wpAnyIn_round l hd _ _ _ _ (wpAnyIn_of_W _ _ _ _ (h hS)))) onNormal_imp
theorem wpIn_region_Vr {S : World → Prop} {B : List Nat} {id : Nat} {a : Act} {w : World} (l k : Nat) (hn : ops.size = k) (hd : noDefer ops = true) (hm : P.follows .mixedOrders = true) (hS : S w.drew)
    (h : S w.drew → wpAnyV P n .any ops (onNormal Q) S B k (Array.replicate k false) a w.drew) : (Code.region id ops true).wpIn (Fence.wide.inRound l) n P Q a w := by
  subst hn
  exact wpIn_mono (wpIn_region_any hm (wpAnyIn_round l hd _ _ _ _ (wpAnyIn_of_V _ _ _ _ (h hS)))) onNormal_imp
end
end Go.Proofs.Ytacioedolmaofaa
