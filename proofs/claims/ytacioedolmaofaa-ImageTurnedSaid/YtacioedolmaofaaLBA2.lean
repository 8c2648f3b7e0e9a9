/- Plain laws on regions that draw their order: calls in a row, one behind the other, and new blocks beside them, in whatever order. No program in sight. -/
import Derived.Deep.RegionHeld3
import Derived.WalkKit
import Derived.Below
namespace Go.Proofs.Ytacioedolmaofaa
open Go.RowKit
set_option maxRecDepth 100000
set_option linter.unusedSimpArgs false

/- Short names for laws that each walk names many times. -/
theorem gA {α : Type} (l : List α) (i : Nat) : l.toArray[i]? = l[i]? := List.getElem?_toArray
theorem gB {α : Type} (a : α) (l : List α) : (a :: l)[0]? = some a := List.getElem?_cons_zero
theorem gC {α : Type} (a : α) (l : List α) (i : Nat) : (a :: l)[i + 1]? = l[i]? := List.getElem?_cons_succ
theorem gD {α : Type} (l : List α) (i : Nat) (a : α) : l.toArray.setIfInBounds i a = (l.set i a).toArray := List.setIfInBounds_toArray l i a
theorem gE {α : Type} (a b : α) (l : List α) : (a :: l).set 0 b = b :: l := List.set_cons_zero
theorem gF {α : Type} (a b : α) (l : List α) (i : Nat) : (a :: l).set (i + 1) b = a :: l.set i b := List.set_cons_succ
theorem gG {α : Type} (a b : α) : (some a = some b) = (a = b) := Option.some.injEq a b

/-- A call of a region: its number, the slot that it writes, the function, its arguments, what it returns. -/
structure CallAt where
  op : Nat
  dst : Nat
  fn : Nat
  args : Array Value
  v : Value
/-- A new block of a region: its number, the slot that it writes, what the block holds. -/
structure NewAt where
  op : Nat
  dst : Nat
  zero : Obj

def callPuts (a : Act) (cs : List CallAt) : Act := cs.foldl (fun a c => a.put (some c.dst) c.v) a
def newPuts (a : Act) : List NewAt → List (Option Nat) → Act
  | x :: as, some q :: qs => newPuts (a.put (some x.dst) (.pointer (some ⟨q, 0, none⟩))) as qs
  | _ :: as, none :: qs => newPuts a as qs
  | _, _ => a
def newOps : List NewAt → List (Option Nat) → List Nat
  | x :: as, some _ :: qs => x.op :: newOps as qs
  | _ :: as, none :: qs => newOps as qs
  | _, _ => []
def listAll (b : Array Bool) (l : List Nat) : Array Bool := l.foldl (fun b i => b.setIfInBounds i true) b

theorem listAll_set (b : Array Bool) (l : List Nat) (i : Nat) : (listAll b l).setIfInBounds i true = listAll (b.setIfInBounds i true) l := by
  induction l generalizing b with
  | nil => rfl
  | cons j l ih =>
    simp only [listAll, List.foldl_cons] at *
    rw [ih]
    congr 1
    by_cases h : i = j
    · subst h; rfl
    · exact (Array.setIfInBounds_comm _ _ (by omega)).symm ▸ rfl

theorem listAll_append (b : Array Bool) (l m : List Nat) : listAll b (l ++ m) = listAll (listAll b l) m := by simp [listAll]

theorem newOps_set (b : Array Bool) : ∀ (as : List NewAt) (qs : List (Option Nat)) (j q : Nat) (x : NewAt), as[j]? = some x → qs[j]? = some none →
    (listAll b (newOps as qs)).setIfInBounds x.op true = listAll b (newOps as (qs.set j (some q))) := by
  intro as
  induction as generalizing b with
  | nil => intro qs j q x h; simp at h
  | cons y as ih =>
    intro qs j q x h hq
    cases qs with
    | nil => simp at hq
    | cons o qs =>
      cases j with
      | zero =>
        simp at h hq
        subst h hq
        simp only [newOps, List.set_cons_zero, listAll_set]
        rfl
      | succ j =>
        simp only [List.getElem?_cons_succ] at h hq
        cases o with
        | none => simp only [newOps, List.set_cons_succ]; exact ih b qs j q x h hq
        | some r =>
          simp only [newOps, List.set_cons_succ]
          exact ih (b.setIfInBounds y.op true) qs j q x h hq

theorem newPuts_put (a : Act) (d : Nat) (v : Value) : ∀ (as : List NewAt) (qs : List (Option Nat)), (∀ x ∈ as, x.dst ≠ d) → (newPuts a as qs).put (some d) v = newPuts (a.put (some d) v) as qs := by
  intro as
  induction as generalizing a with
  | nil => intro qs _; cases qs <;> rfl
  | cons y as ih =>
    intro qs h
    cases qs with
    | nil => rfl
    | cons o qs =>
      cases o with
      | none => exact ih a qs fun x hx => h x (by simp [hx])
      | some r =>
        simp only [newPuts]
        rw [ih _ qs fun x hx => h x (by simp [hx])]
        congr 1
        exact Act.put_comm a _ _ (fun e he => by cases he; intro h2; cases h2; exact h y (by simp) rfl)

theorem newPuts_set (a : Act) : ∀ (as : List NewAt) (qs : List (Option Nat)) (j q : Nat) (x : NewAt), (as.map (·.dst)).Nodup → as[j]? = some x → qs[j]? = some none →
    (newPuts a as qs).put (some x.dst) (.pointer (some ⟨q, 0, none⟩)) = newPuts a as (qs.set j (some q)) := by
  intro as
  induction as generalizing a with
  | nil => intro qs j q x _ h; simp at h
  | cons y as ih =>
    intro qs j q x hn h hq
    simp only [List.map_cons, List.nodup_cons] at hn
    cases qs with
    | nil => simp at hq
    | cons o qs =>
      cases j with
      | zero =>
        simp at h hq
        subst h hq
        simp only [newPuts, List.set_cons_zero]
        exact newPuts_put _ _ _ as qs fun z hz e => hn.1 (by rw [← e]; exact List.mem_map_of_mem hz)
      | succ j =>
        simp only [List.getElem?_cons_succ] at h hq
        cases o with
        | none => simp only [newPuts, List.set_cons_succ]; exact ih a qs j q x hn.2 h hq
        | some r => simp only [newPuts, List.set_cons_succ]; exact ih _ qs j q x hn.2 h hq

theorem newPuts_eval (a : Act) (x : Operand) : ∀ (as : List NewAt) (qs : List (Option Nat)), (∀ y ∈ as, x ≠ .tmp y.dst) → (newPuts a as qs).eval x = a.eval x := by
  intro as
  induction as generalizing a with
  | nil => intro qs _; cases qs <;> rfl
  | cons y as ih =>
    intro qs h
    cases qs with
    | nil => rfl
    | cons o qs =>
      cases o with
      | none => exact ih a qs fun z hz => h z (by simp [hz])
      | some r =>
        simp only [newPuts]
        rw [ih _ qs fun z hz => h z (by simp [hz])]
        exact Act.eval_put fun d hd => by cases hd; exact h y (by simp)

/-- All lists of so many Booleans. -/
def masks : Nat → List (List Bool)
  | 0 => [[]]
  | n + 1 => (masks n).flatMap fun l => [false :: l, true :: l]
theorem mem_masks : ∀ l : List Bool, l ∈ masks l.length
  | [] => by simp [masks]
  | b :: l => by
    simp only [masks, List.length_cons, List.mem_flatMap]
    exact ⟨l, mem_masks l, by cases b <;> simp⟩
def maskQs (l : List Bool) : List (Option Nat) := l.map fun b => if b then some 0 else none
theorem newOps_mask : ∀ (as : List NewAt) (qs : List (Option Nat)), newOps as qs = newOps as (maskQs (qs.map Option.isSome))
  | [], qs => by cases qs <;> rfl
  | x :: as, [] => rfl
  | x :: as, none :: qs => by simpa [newOps, maskQs] using newOps_mask as qs
  | x :: as, some q :: qs => by simpa [newOps, maskQs] using newOps_mask as qs

/-- While calls or new blocks are left, nothing else comes up; and something does. -/
def mixOk (md : Region.Mode) (ops : Array Oper) (base : Array Bool) (cs : List CallAt) (as : List NewAt) : Bool :=
  (List.range (cs.length + 1)).all fun k => (masks as.length).all fun m =>
    let l := listAll base ((cs.take k).map (·.op) ++ newOps as (maskQs m))
    let r := Region.ready md ops l
    (decide (k = cs.length) && m.all id) ||
    (!r.isEmpty && r.all fun i => ((cs[k]?).any fun c => c.op == i) || (List.range as.length).any fun j => (as[j]?).any fun x => x.op == i && !(m.getD j true))

theorem count_none : ∀ (qs : List (Option Nat)) (j q : Nat), qs[j]? = some none → ((qs.set j (some q)).filter Option.isNone).length + 1 = (qs.filter Option.isNone).length
  | [], j, q, h => by simp at h
  | o :: qs, 0, q, h => by simp at h; subst h; simp
  | o :: qs, j + 1, q, h => by
    have := count_none qs j q (by simpa using h)
    cases o with
    | none => simp only [List.set_cons_succ, List.filter_cons, Option.isNone_none, if_true, List.length_cons]; omega
    | some p => simp only [List.set_cons_succ, List.filter_cons, Option.isNone_some, Bool.false_eq_true, if_false]; exact this

def Operand.isTmp (x : Operand) (d : Nat) : Bool := match x with | .tmp t => t == d | _ => false
/-- The slots of calls and new blocks are their own. -/
def mixSide (ops : Array Oper) (cs : List CallAt) (as : List NewAt) : Bool :=
  (cs.all fun c => (ops[c.op]?).any fun o => o.dst == some c.dst && o.guard.isNone && as.all fun x => x.dst != c.dst && o.op.operands.all fun y => !(Operand.isTmp y x.dst)) &&
  as.all fun x => (ops[x.op]?).any fun o => o.dst == some x.dst && o.guard.isNone
theorem mixSide_call {ops : Array Oper} {cs : List CallAt} {as : List NewAt} (h : mixSide ops cs as = true) {k : Nat} {c : CallAt} (hc : cs[k]? = some c) :
    ∃ o, ops[c.op]? = some o ∧ o.dst = some c.dst ∧ o.guard = none ∧ ∀ x ∈ as, x.dst ≠ c.dst ∧ Operand.tmp x.dst ∉ o.op.operands := by
  unfold mixSide at h
  rw [Bool.and_eq_true, List.all_eq_true] at h
  have h1 := h.1 c (List.mem_of_getElem? hc)
  cases ho : ops[c.op]? with
  | none => rw [ho] at h1; simp at h1
  | some o =>
    rw [ho] at h1
    simp only [Option.any_some, Bool.and_eq_true, beq_iff_eq, Option.isNone_iff_eq_none, List.all_eq_true] at h1
    obtain ⟨⟨h2, h3⟩, h4⟩ := h1
    refine ⟨o, rfl, h2, h3, fun x hx => ?_⟩
    have h5 := h4 x hx
    refine ⟨by simpa using h5.1, fun hm => ?_⟩
    have h6 := Array.all_eq_true_iff_forall_mem.1 h5.2 _ hm
    simp [Operand.isTmp] at h6
theorem mixSide_new {ops : Array Oper} {cs : List CallAt} {as : List NewAt} (h : mixSide ops cs as = true) {x : NewAt} (hx : x ∈ as) :
    ∃ o, ops[x.op]? = some o ∧ o.dst = some x.dst ∧ o.guard = none := by
  unfold mixSide at h
  rw [Bool.and_eq_true, List.all_eq_true, List.all_eq_true] at h
  have h1 := h.2 x hx
  cases ho : ops[x.op]? with
  | none => rw [ho] at h1; simp at h1
  | some o =>
    rw [ho] at h1
    simp only [Option.any_some, Bool.and_eq_true, beq_iff_eq, Option.isNone_iff_eq_none] at h1
    exact ⟨o, rfl, h1.1, h1.2⟩

section
variable {P : Program} {ops : Array Oper} {Q : Exit → Act → World → Prop} {md : Region.Mode} {S : World → Prop}

theorem obj_new0 (w : World) (o : Obj) : (w.alloc o).heap[w.heap.size]? = some o := by
  show (w.heap.push o)[w.heap.size]? = _
  rw [Array.getElem?_push_size]

/-- The beginning, the number of operations written out. -/
theorem wp_region_mix {id : Nat} {a : Act} {w : World} (n : Nat) (hn : ops.size = n) (hm : P.follows .mixedOrders = true) (hS : S w.drew)
    (h : S w.drew → wpAnyH P .any ops Q S n (Array.replicate n false) a w.drew) : (Code.region id ops true).wp P Q a w := by
  subst hn
  exact wp_region_held_drew hm hS h

/-- Operation number i, which writes slot d and is not guarded, is taken first. -/
theorem wpAnyH_takeD (i d : Nat) {fuel : Nat} {v : Value} {listed : Array Bool} {a : Act} {w : World}
    (hd : ((ops[i]?).map fun o => o.dst == some d && o.guard.isNone) = some true)
    (hs : Region.noSelect ops = true) (hf : Region.free md ops listed i = true) (hr : (Region.ready md ops listed).contains i = true)
    (hQ : ∀ c a w, Q (.panic c) (a.put (some d) v) w → Q (.panic c) a w)
    (hy : ∀ oi, ops[i]? = some oi → ∀ w, S w → (execOp a.eval oi).run P w = .ok (.value v) w) (hS : S w)
    (h : wpAnyH P md ops Q S fuel (listed.setIfInBounds i true) (a.put (some d) v) w) : wpAnyH P md ops Q S (fuel + 1) listed a w := by
  cases ho : ops[i]? with
  | none => rw [ho] at hd; simp at hd
  | some oi =>
    rw [ho] at hd
    simp at hd
    obtain ⟨h1, h2⟩ := hd
    refine wpAnyH_take (i := i) (oi := oi) (v := v) ho hs hf hr (by rw [h1]; exact hQ) (.inl ⟨?_, hy oi ho⟩) hS (by rw [h1]; exact h)
    unfold Region.wanted
    rw [h2]

/-- Operation number i alone can come up. -/
theorem wpAnyH_one (i : Nat) {fuel : Nat} {listed : Array Bool} {a : Act} {w : World} (hr : Region.ready md ops listed = [i])
    (hg : ((ops[i]?).map fun o => o.guard.isNone) = some true)
    (h : ∀ o, ops[i]? = some o → ∀ K : Act → World → Prop, (∀ a' w', S w' → (S w' → wpAnyH P md ops Q S fuel (listed.setIfInBounds i true) a' w') → K a' w') → Oper.wp P o a w K Q) :
    wpAnyH P md ops Q S (fuel + 1) listed a w := by
  refine wpAnyH_all hr (by simp) ?_
  intro j hj
  rw [List.mem_singleton] at hj
  subst hj
  unfold wpOp
  cases ho : ops[j]? with
  | none => rw [ho] at hg; simp at hg
  | some o =>
    rw [ho] at hg
    simp at hg
    have hw : Region.wanted o (yielded ops a.tmps) = true := by simp [Region.wanted, hg]
    simp only [if_pos hw]
    exact .inl (h o ho _ fun a' w' hS hk => ⟨hS, hk hS⟩)

/-- A cell of a block that is known whole. -/
theorem cell_block {w : World} {q : Nat} {cs : Array Value} {T : TypeId} {fz : Nat × Nat} (h : w.heap[q]? = some (.cells cs T fz)) (i : Nat) : w.cell? ⟨q, i, none⟩ = cs[i]? := by
  unfold World.cell?
  simp only [h]
  rfl
theorem frozen_block {w : World} {q : Nat} {cs : Array Value} {T : TypeId} (h : w.heap[q]? = some (.cells cs T)) (i : Nat) : w.frozen? ⟨q, i, none⟩ = false := by
  unfold World.frozen?
  simp only [h]
  simp

theorem block_set {w : World} {q : Nat} {cs : Array Value} {T : TypeId} {fz : Nat × Nat} (h : w.heap[q]? = some (.cells cs T fz)) (i : Nat) (v : Value) :
    (w.setCell ⟨q, i, none⟩ v).heap[q]? = some (.cells (cs.setIfInBounds i v) T fz) := by
  simp only [World.setCell, Array.getElem?_modify, if_true, h]
  rfl
theorem block_other {w : World} {q q' : Nat} {o : Option Obj} (h : w.heap[q]? = o) (hne : q ≠ q') (i : Nat) (v : Value) : (w.setCell ⟨q', i, none⟩ v).heap[q]? = o := by
  rw [← h]
  exact Below.heap_setCell w ⟨q', i, none⟩ v q hne

/-- The blocks that have been made are there, apart from one another. -/
structure Fresh (B : Nat) (as : List NewAt) (qs : List (Option Nat)) (w : World) : Prop where
  at' : ∀ (j : Nat) (x : NewAt) (q : Nat), as[j]? = some x → qs[j]? = some (some q) → B ≤ q ∧ w.heap[q]? = some x.zero
  apart : ∀ (i j q : Nat), qs[i]? = some (some q) → qs[j]? = some (some q) → i = j

theorem Fresh.keep {B : Nat} {as : List NewAt} {qs : List (Option Nat)} {w w' : World} (h : Fresh B as qs w) (hb : Below w.heap.size w w') : Fresh B as qs w' :=
  ⟨fun j x q hx hq => ⟨(h.at' j x q hx hq).1, (hb.block q (Array.getElem?_eq_some_iff.1 (h.at' j x q hx hq).2).1).trans (h.at' j x q hx hq).2⟩, h.apart⟩

theorem newPuts_defers (a : Act) : ∀ (as : List NewAt) (qs : List (Option Nat)), (newPuts a as qs).defers = a.defers := by
  intro as
  induction as generalizing a with
  | nil => intro qs; cases qs <;> rfl
  | cons y as ih =>
    intro qs
    cases qs with
    | nil => rfl
    | cons o qs => cases o <;> simp [newPuts, ih, Act.put]

/-- **CALLS IN A ROW AND NEW BLOCKS BESIDE THEM, IN WHATEVER ORDER**: behind all of them the rest is shown once, whatever the blocks' numbers are. -/
theorem wpAnyH_mix (cs : List CallAt) (as : List NewAt) (base : Array Bool) (a0 : Act) (w0 : World) (B fuel : Nat)
    (hmix : mixOk md ops base cs as = true) (hnd : (as.map (·.dst)).Nodup)
    (hsel : Region.noSelect ops = true) (hside : mixSide ops cs as = true)
    (hcall : ∀ k c, cs[k]? = some c → (∀ o, ops[c.op]? = some o → ∀ W, (execOp (callPuts a0 (cs.take k)).eval o).run P W = .ok (.enter c.fn c.args) W) ∧
      ∀ W, S W → Calls P c.fn c.args W fun e W' => e = .returned c.v ∧ S W' ∧ Below W.heap.size W W')
    (hnew : ∀ x ∈ as, (∀ o, ops[x.op]? = some o → ∀ (a : Act) (W : World), (execOp a.eval o).run P W = .ok (.value (.pointer (some ⟨W.heap.size, 0, none⟩))) (W.alloc x.zero)) ∧ ∀ W, S W → S (W.alloc x.zero))
    (hS : S w0) (hB : ∀ W, S W → B ≤ W.heap.size)
    (rest : ∀ (qs : List Nat) W, qs.length = as.length → S W → Fresh B as (qs.map some) W →
      wpAnyH P md ops Q S fuel (listAll base (cs.map (·.op) ++ newOps as (qs.map some))) (newPuts (callPuts a0 cs) as (qs.map some)) W) :
    wpAnyH P md ops Q S (cs.length + as.length + fuel) base a0 w0 := by
  have key : ∀ (r k : Nat) (qs : List (Option Nat)) (W : World), k ≤ cs.length → qs.length = as.length → r = (cs.length - k) + (qs.filter Option.isNone).length → S W → Fresh B as qs W →
      wpAnyH P md ops Q S (r + fuel) (listAll base ((cs.take k).map (·.op) ++ newOps as qs)) (newPuts (callPuts a0 (cs.take k)) as qs) W := by
    intro r
    induction r with
    | zero =>
      intro k qs W hk hl hr hS hF
      have hk' : k = cs.length := by omega
      have hall : ∀ o ∈ qs, o.isSome = true := by
        intro o ho
        have h0 : qs.filter Option.isNone = [] := List.eq_nil_of_length_eq_zero (by omega)
        rw [List.filter_eq_nil_iff] at h0
        have h1 := h0 o ho
        cases o with
        | none => exact absurd rfl h1
        | some q => rfl
      have hqs : qs = (qs.map (Option.getD · 0)).map some := by
        rw [List.map_map]
        conv => lhs; rw [← List.map_id qs]
        exact List.map_congr_left fun o ho => by
          have h1 := hall o ho
          cases o with
          | none => cases h1
          | some q => rfl
      rw [hqs] at hF ⊢
      subst hk'
      rw [List.take_length, Nat.zero_add]
      exact rest _ W (by simpa using hl) hS hF
    | succ r ih =>
      intro k qs W hk hl hr hS hF
      have hm := hmix
      unfold mixOk at hm
      rw [List.all_eq_true] at hm
      have hm := hm k (List.mem_range.2 (by omega))
      rw [List.all_eq_true] at hm
      have hm := hm (qs.map Option.isSome) (by have := mem_masks (qs.map Option.isSome); simpa [hl] using this)
      simp only [← newOps_mask] at hm
      have hnot : (decide (k = cs.length) && (qs.map Option.isSome).all id) = false := by
        rw [Bool.and_eq_false_iff]
        by_cases hkk : k = cs.length
        · right
          rw [List.all_eq_false]
          have hpos : 0 < (qs.filter Option.isNone).length := by omega
          obtain ⟨o, ho⟩ := List.exists_mem_of_length_pos hpos
          rw [List.mem_filter] at ho
          exact ⟨false, by rw [List.mem_map]; exact ⟨o, ho.1, by cases o <;> simp_all⟩, by simp⟩
        · left; simpa using hkk
      rw [hnot, Bool.false_or, Bool.and_eq_true] at hm
      obtain ⟨hne, hall⟩ := hm
      rw [show r + 1 + fuel = (r + fuel) + 1 by omega]
      refine ⟨fun h0 => by rw [h0] at hne; simp at hne, fun i hi => ?_⟩
      rw [List.all_eq_true] at hall
      have hi' := hall i hi
      rw [Bool.or_eq_true] at hi'
      rcases hi' with hc | hn
      · -- the next call
        cases hck : cs[k]? with
        | none => rw [hck] at hc; simp at hc
        | some c =>
          rw [hck] at hc
          simp at hc
          subst hc
          obtain ⟨hklt, hcv⟩ := List.getElem?_eq_some_iff.1 hck
          obtain ⟨o, ho, hd, hg, hap⟩ := mixSide_call hside hck
          obtain ⟨hrun, hcl⟩ := hcall k c hck
          replace hrun := hrun o ho
          have he : execOp (newPuts (callPuts a0 (cs.take k)) as qs).eval o = execOp (callPuts a0 (cs.take k)).eval o :=
            execOp_congr o (fun _ _ => Region.noSelect_spec hsel _ _ _ _ ho) fun x hx => newPuts_eval _ x as qs fun y hy e => (hap y hy).2 (e ▸ hx)
          unfold wpOp
          simp only [ho]
          have hw : Region.wanted o (yielded ops (newPuts (callPuts a0 (cs.take k)) as qs).tmps) = true := by simp [Region.wanted, hg]
          rw [if_pos hw]
          refine .inl ?_
          unfold Oper.wp
          rw [he, hrun W]
          simp only [Oper.upon]
          refine (hcl W hS).mono ?_
          rintro e W' ⟨rfl, hS', hb⟩
          refine ⟨hS', ?_⟩
          have ht : cs.take (k + 1) = cs.take k ++ [c] := by rw [List.take_succ_eq_append_getElem hklt, hcv]
          have h1 := ih (k + 1) qs W' (by omega) hl (by omega) hS' (hF.keep hb)
          rw [ht] at h1
          have e1 : listAll base ((cs.take k ++ [c]).map (·.op) ++ newOps as qs) = (listAll base ((cs.take k).map (·.op) ++ newOps as qs)).setIfInBounds c.op true := by
            rw [listAll_append, listAll_append, List.map_append, listAll_append, listAll_set]; rfl
          have e2 : newPuts (callPuts a0 (cs.take k ++ [c])) as qs = (newPuts (callPuts a0 (cs.take k)) as qs).put o.dst c.v := by
            rw [hd, newPuts_put _ _ _ as qs fun x hx => (hap x hx).1]
            simp [callPuts]
          rw [e1, e2] at h1
          exact h1
      · -- a new block
        rw [List.any_eq_true] at hn
        obtain ⟨j, hj, hn⟩ := hn
        rw [List.mem_range] at hj
        cases hx : as[j]? with
        | none => rw [hx] at hn; simp at hn
        | some x =>
          rw [hx] at hn
          simp at hn
          obtain ⟨rfl, hq⟩ := hn
          have hjq : qs[j]? = some none := by
            have hjl : j < qs.length := by omega
            rw [List.getElem?_eq_getElem hjl] at hq ⊢
            cases hqj : qs[j] with
            | none => rfl
            | some q => rw [hqj] at hq; simp at hq
          obtain ⟨o, ho, hd, hg⟩ := mixSide_new hside (List.mem_of_getElem? hx)
          obtain ⟨hrun, hSa⟩ := hnew x (List.mem_of_getElem? hx)
          replace hrun := hrun o ho
          unfold wpOp
          simp only [ho]
          have hw : Region.wanted o (yielded ops (newPuts (callPuts a0 (cs.take k)) as qs).tmps) = true := by simp [Region.wanted, hg]
          rw [if_pos hw]
          refine .inl ?_
          unfold Oper.wp
          rw [hrun]
          simp only [Oper.upon]
          refine ⟨hSa W hS, ?_⟩
          have hjl : j < qs.length := by omega
          have hcnt := count_none qs j W.heap.size hjq
          have h1 := ih k (qs.set j (some W.heap.size)) (W.alloc x.zero) hk (by simpa using hl) (by omega) (hSa W hS) ?_
          · rw [← newPuts_set _ as qs j _ x hnd hx hjq] at h1
            rw [listAll_append, ← newOps_set _ as qs j W.heap.size x hx hjq, ← listAll_append] at h1
            rw [hd]
            exact h1
          · constructor
            · intro i y q hy hq
              rw [List.getElem?_set] at hq
              split at hq
              · rename_i hji
                subst hji
                rw [hx] at hy
                cases hy
                simp at hq
                subst hq
                exact ⟨hB W hS, obj_new0 W x.zero⟩
              · obtain ⟨h2, h3⟩ := hF.at' i y q hy hq
                exact ⟨h2, ((Below.refl W.heap.size W).alloc (Nat.le_refl _) x.zero).block q (Array.getElem?_eq_some_iff.1 h3).1 |>.trans h3⟩
            · intro i i' q h2 h3
              rw [List.getElem?_set] at h2 h3
              have hne : ∀ i : Nat, qs[i]? = some (some W.heap.size) → False := by
                intro i hi
                have hil : i < as.length := by have := (List.getElem?_eq_some_iff.1 hi).1; omega
                have := (hF.at' i as[i] _ (List.getElem?_eq_getElem hil) hi).2
                exact absurd (Array.getElem?_eq_some_iff.1 this).1 (by omega)
              split at h2 <;> split at h3
              · omega
              · simp at h2; subst h2; exact (hne _ h3).elim
              · simp at h3; subst h3; exact (hne _ h2).elim
              · exact hF.apart i i' q h2 h3
  have h := key (cs.length + as.length) 0 (List.replicate as.length none) w0 (Nat.zero_le _) (by simp) (by simp) hS ⟨fun j x q _ h => by rw [List.getElem?_replicate] at h; split at h <;> simp at h, fun i j q h => by rw [List.getElem?_replicate] at h; split at h <;> simp at h⟩
  have e1 : ∀ as : List NewAt, newOps as (List.replicate as.length none) = [] := by
    intro as; induction as with
    | nil => rfl
    | cons x as ih => simpa [newOps, List.replicate_succ] using ih
  have e2 : ∀ (as : List NewAt) (a : Act), newPuts a as (List.replicate as.length none) = a := by
    intro as; induction as with
    | nil => intro a; rfl
    | cons x as ih => intro a; simpa [newPuts, List.replicate_succ] using ih a
  rw [e1, e2] at h
  simpa [listAll, callPuts] using h
end
end Go.Proofs.Ytacioedolmaofaa
