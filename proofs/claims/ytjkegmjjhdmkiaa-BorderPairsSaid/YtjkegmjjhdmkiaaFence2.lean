/- Plain laws on regions that draw their order and end in stores: loads, for which the stores wait, are taken first. No program in sight. -/
import Derived.Test.YtjkegmjjhdmkiaaFence
namespace Go.Proofs.Ytjkegmjjhdmkiaa
open Go Go.RowKit
set_option linter.unusedSimpArgs false

section
variable {P : Program} {ops : Array Oper} {Q : Exit → Act → World → Prop} {md : Region.Mode} {S : World → Prop}

/-- Is one of B among those that have come up? -/
def anyOf (B : List Nat) (listed : Array Bool) : Bool := B.any fun k => listed.getD k true
theorem anyOf_set {B : List Nat} {listed : Array Bool} (i : Nat) (h : anyOf B listed = true) : anyOf B (listed.setIfInBounds i true) = true := by
  unfold anyOf at *
  rw [List.any_eq_true] at *
  obtain ⟨k, hk, h⟩ := h
  refine ⟨k, hk, ?_⟩
  by_cases e : i = k
  · subst e
    rcases Nat.lt_or_ge i listed.size with h' | h'
    · simp [h']
    · simp [Array.getElem?_eq_none h']
  · rw [getD_set_ne true e]; exact h
theorem anyOf_skip {B : List Nat} (listed : Array Bool) {j : Nat} (hj : j ∉ B) : anyOf B (listed.setIfInBounds j true) = anyOf B listed := by
  unfold anyOf
  rw [Bool.eq_iff_iff, List.any_eq_true, List.any_eq_true]
  constructor
  · rintro ⟨k, hk, h⟩
    refine ⟨k, hk, ?_⟩
    rw [← getD_set_ne (listed := listed) (i := j) (j := k) true (by intro e; subst e; exact hj hk)]
    exact h
  · rintro ⟨k, hk, h⟩
    refine ⟨k, hk, ?_⟩
    rw [getD_set_ne true (by intro e; subst e; exact hj hk)]
    exact h

/-- Whatever order is picked from here on, and S holds behind every operation that is carried out but those of B, for which all loads wait. -/
def wpAnyV (P : Program) (n : Nat) (md : Region.Mode) (ops : Array Oper) (Q : Exit → Act → World → Prop) (S : World → Prop) (B : List Nat) : Nat → Array Bool → Act → World → Prop
  | 0, listed, a, w => Region.ready md ops listed = [] ∧ Q .normal a w
  | fuel + 1, listed, a, w =>
    (Region.ready md ops listed = [] → Q .normal a w) ∧
    ∀ i ∈ Region.ready md ops listed, wpOpIn Fence.wide n P ops Q i (fun a' w' => (anyOf B (listed.setIfInBounds i true) = true ∨ S w') ∧ wpAnyV P n md ops Q S B fuel (listed.setIfInBounds i true) a' w') a w

variable {n : Nat} {B : List Nat}

theorem wpAnyIn_of_V : ∀ (fuel : Nat) (listed : Array Bool) (a : Act) (w : World), wpAnyV P n md ops Q S B fuel listed a w → wpAnyIn Fence.wide n P md ops Q fuel listed a w
  | 0, _, _, _, h => h
  | fuel + 1, _, _, _, h => ⟨h.1, fun i hi => wpOpIn_mono (fun a' w' h' => wpAnyIn_of_V fuel _ a' w' h'.2) (h.2 i hi)⟩

/-- Operation k waits for operation i. -/
def waitsFor (md : Region.Mode) (ops : Array Oper) (i k : Nat) : Bool := (ops[k]?).any fun o => o.after.any fun e => Region.binds md e && e.on == i
theorem waitsFor_ready {md : Region.Mode} {ops : Array Oper} {i k : Nat} {listed : Array Bool} (h : waitsFor md ops i k = true) (hi : listed.getD i true = false) : k ∉ Region.ready md ops listed := by
  intro hk
  obtain ⟨_, o, ho, hall⟩ := mem_ready.1 hk
  unfold waitsFor at h
  rw [ho] at h
  simp only [Option.any_some, Array.any_eq_true, Bool.and_eq_true, beq_iff_eq] at h
  obtain ⟨x, hx, h1, h2⟩ := h
  have h3 := hall _ (Array.getElem_mem hx) h1
  rw [h2] at h3
  rcases Nat.lt_or_ge i listed.size with h' | h'
  · simp [h'] at hi h3; rw [hi] at h3; cases h3
  · simp [Array.getElem?_eq_none h'] at h3

theorem wpAnyV_first {i : Nat} {oi : Oper} {v : Value} (hi : ops[i]? = some oi) (hsel : ∀ (j : Nat) (o : Oper) cs b, ops[j]? = some o → o.op ≠ .select cs b)
    (hQ : ∀ c a w, Q (.panic c) (a.put oi.dst v) w → Q (.panic c) a w) :
    ∀ (fuel : Nat) (listed : Array Bool) (a : Act) (w : World),
      (∀ j oj, ops[j]? = some oj → j ≠ i → listed.getD j true = false → (∀ e ∈ oj.after, Region.binds md e = true → e.on ≠ i) → oi.apart ops oj = true) →
      i ∈ Region.ready md ops listed → (∀ k ∈ B, k ≠ i ∧ waitsFor md ops i k = true) → anyOf B listed = false → YieldsIf P ops S oi v a → S w →
      wpAnyV P n md ops Q S B fuel (listed.setIfInBounds i true) (a.put oi.dst v) w → wpAnyV P n md ops Q S B (fuel + 1) listed a w := by
  intro fuel
  induction fuel with
  | zero =>
    intro listed a w _ hr hB hnb hy hS H
    refine ⟨fun h => (by rw [h] at hr; cases hr), fun j hj => ?_⟩
    by_cases hji : j = i
    · subst hji; exact yieldsIf_wpOpIn hi hy hS ⟨.inr hS, H⟩
    · have := ready_mono hj hji
      rw [H.1] at this
      cases this
  | succ fuel ih =>
    intro listed a w hfree hr hB hnb hy hS H
    refine ⟨fun h => (by rw [h] at hr; cases hr), fun j hj => ?_⟩
    by_cases hji : j = i
    · subst hji; exact yieldsIf_wpOpIn hi hy hS ⟨.inr hS, H⟩
    · have h1 := H.2 j (ready_mono hj hji)
      obtain ⟨hjun, oj, hoj, hall⟩ := mem_ready.1 hj
      have hnot : ∀ e ∈ oj.after, Region.binds md e = true → e.on ≠ i := fun e he hb heq => by
        have h1 := hall e he hb
        have h0 := (mem_ready.1 hr).1
        rw [heq] at h1
        rcases Nat.lt_or_ge i listed.size with h' | h'
        · simp [h'] at h0 h1; rw [h0] at h1; cases h1
        · simp [Array.getElem?_eq_none h'] at h1
      have h2 := wpOpIn_putIf hoj (hfree j oj hoj hji hjun hnot) (fun cs b => hsel i oi cs b hi) (fun cs b => hsel j oj cs b hoj) hQ hy h1
      have hfree' : ∀ k ok, ops[k]? = some ok → k ≠ i → (listed.setIfInBounds j true).getD k true = false →
          (∀ e ∈ ok.after, Region.binds md e = true → e.on ≠ i) → oi.apart ops ok = true := fun k ok hk hki hun hno => by
        refine hfree k ok hk hki ?_ hno
        by_cases hjk : j = k
        · subst hjk; exact hjun
        · rw [getD_set_ne true hjk] at hun; exact hun
      have hjB : j ∉ B := fun hjb => waitsFor_ready (hB j hjb).2 ((mem_ready.1 hr).1) hj
      have hiB : i ∉ B := fun h => (hB i h).1 rfl
      refine wpOpIn_mono (fun a' w' h3 => by
        have hS' : S w' := h3.2.1.resolve_left (by rw [anyOf_skip _ hjB, anyOf_skip _ hiB, hnb]; simp)
        refine ⟨.inr hS', ih (listed.setIfInBounds j true) a' w' hfree' (ready_mono hr (Ne.symm hji)) hB (by rw [anyOf_skip _ hjB]; exact hnb) h3.1 hS' ?_⟩
        rw [Array.setIfInBounds_comm _ _ hji]
        exact h3.2.2) h2

theorem wpAnyV_firstP {i : Nat} (hiB : i ∉ B) {oi : Oper} {v : Value} (hi : ops[i]? = some oi) (hsel : ∀ (j : Nat) (o : Oper) cs b, ops[j]? = some o → o.op ≠ .select cs b)
    (hQ : ∀ c a w, Q (.panic c) (a.put oi.dst v) w → Q (.panic c) a w) :
    ∀ (fuel : Nat) (listed : Array Bool) (a : Act) (w : World),
      (∀ j oj, ops[j]? = some oj → j ≠ i → listed.getD j true = false → (∀ e ∈ oj.after, Region.binds md e = true → e.on ≠ i) → oi.apart ops oj = true) →
      i ∈ Region.ready md ops listed → YieldsIf P ops (fun _ => True) oi v a → (anyOf B listed = true ∨ S w) →
      wpAnyV P n md ops Q S B fuel (listed.setIfInBounds i true) (a.put oi.dst v) w → wpAnyV P n md ops Q S B (fuel + 1) listed a w := by
  intro fuel
  induction fuel with
  | zero =>
    intro listed a w _ hr hy hS H
    refine ⟨fun h => (by rw [h] at hr; cases hr), fun j hj => ?_⟩
    by_cases hji : j = i
    · subst hji; exact yieldsIf_wpOpIn hi hy trivial ⟨hS.imp (anyOf_set _) id, H⟩
    · have := ready_mono hj hji
      rw [H.1] at this
      cases this
  | succ fuel ih =>
    intro listed a w hfree hr hy hS H
    refine ⟨fun h => (by rw [h] at hr; cases hr), fun j hj => ?_⟩
    by_cases hji : j = i
    · subst hji; exact yieldsIf_wpOpIn hi hy trivial ⟨hS.imp (anyOf_set _) id, H⟩
    · have h1 := H.2 j (ready_mono hj hji)
      obtain ⟨hjun, oj, hoj, hall⟩ := mem_ready.1 hj
      have hnot : ∀ e ∈ oj.after, Region.binds md e = true → e.on ≠ i := fun e he hb heq => by
        have h1 := hall e he hb
        have h0 := (mem_ready.1 hr).1
        rw [heq] at h1
        rcases Nat.lt_or_ge i listed.size with h' | h'
        · simp [h'] at h0 h1; rw [h0] at h1; cases h1
        · simp [Array.getElem?_eq_none h'] at h1
      have h2 := wpOpIn_putIf hoj (hfree j oj hoj hji hjun hnot) (fun cs b => hsel i oi cs b hi) (fun cs b => hsel j oj cs b hoj) hQ hy h1
      have hfree' : ∀ k ok, ops[k]? = some ok → k ≠ i → (listed.setIfInBounds j true).getD k true = false →
          (∀ e ∈ ok.after, Region.binds md e = true → e.on ≠ i) → oi.apart ops ok = true := fun k ok hk hki hun hno => by
        refine hfree k ok hk hki ?_ hno
        by_cases hjk : j = k
        · subst hjk; exact hjun
        · rw [getD_set_ne true hjk] at hun; exact hun
      refine wpOpIn_mono (fun a' w' h3 => by
        have hS' : anyOf B (listed.setIfInBounds j true) = true ∨ S w' := by
          have := h3.2.1
          rwa [Array.setIfInBounds_comm _ _ (Ne.symm hji), anyOf_skip _ hiB] at this
        refine ⟨hS', ih (listed.setIfInBounds j true) a' w' hfree' (ready_mono hr (Ne.symm hji)) h3.1 hS' ?_⟩
        rw [Array.setIfInBounds_comm _ _ hji]
        exact h3.2.2) h2

/-- Operation number i, which writes slot d and asks nothing of the world, is taken first. -/
theorem wpAnyV_takeP (i d : Nat) {fuel : Nat} {v : Value} {listed : Array Bool} {a : Act} {w : World}
    (hd : ((ops[i]?).map fun o => o.dst == some d && Region.wanted o (yielded ops a.tmps)) = some true)
    (hs : Region.noSelect ops = true) (hf : Region.free md ops listed i = true) (hr : (Region.ready md ops listed).contains i = true)
    (hQ : ∀ c a w, Q (.panic c) (a.put (some d) v) w → Q (.panic c) a w)
    (hy : ∀ oi, ops[i]? = some oi → ∀ w, (execOp a.eval oi).run P w = .ok (.value v) w) (hiB : (!B.contains i) = true) (hS : anyOf B listed = true ∨ S w)
    (h : wpAnyV P n md ops Q S B fuel (listed.setIfInBounds i true) (a.put (some d) v) w) : wpAnyV P n md ops Q S B (fuel + 1) listed a w := by
  cases ho : ops[i]? with
  | none => rw [ho] at hd; simp at hd
  | some oi =>
    rw [ho] at hd
    simp at hd
    obtain ⟨h1, h2⟩ := hd
    exact wpAnyV_firstP (v := v) (by simpa using hiB) ho (Region.noSelect_spec hs) (by rw [h1]; exact hQ) fuel listed a w (Region.free_spec ho hf) (by simpa using hr) (.inl ⟨h2, fun w _ => hy oi ho w⟩) hS (by rw [h1]; exact h)

/-- Operation number i, which writes slot d and is carried out here, is taken first. -/
theorem wpAnyV_takeD (i d : Nat) {fuel : Nat} {v : Value} {listed : Array Bool} {a : Act} {w : World}
    (hd : ((ops[i]?).map fun o => o.dst == some d && Region.wanted o (yielded ops a.tmps)) = some true)
    (hs : Region.noSelect ops = true) (hf : Region.free md ops listed i = true) (hr : (Region.ready md ops listed).contains i = true)
    (hQ : ∀ c a w, Q (.panic c) (a.put (some d) v) w → Q (.panic c) a w) (hB : (!anyOf B listed && B.all fun k => k != i && waitsFor md ops i k) = true)
    (hy : ∀ oi, ops[i]? = some oi → ∀ w, S w → (execOp a.eval oi).run P w = .ok (.value v) w) (hS : S w)
    (h : wpAnyV P n md ops Q S B fuel (listed.setIfInBounds i true) (a.put (some d) v) w) : wpAnyV P n md ops Q S B (fuel + 1) listed a w := by
  cases ho : ops[i]? with
  | none => rw [ho] at hd; simp at hd
  | some oi =>
    rw [ho] at hd
    simp at hd
    obtain ⟨h1, h2⟩ := hd
    exact wpAnyV_first (v := v) ho (Region.noSelect_spec hs) (by rw [h1]; exact hQ) fuel listed a w (Region.free_spec ho hf) (by simpa using hr) (by simp at hB; simpa using hB.2) (by simp at hB; exact hB.1) (.inl ⟨h2, hy oi ho⟩) hS (by rw [h1]; exact h)

/-- Operation number i, which is guarded and passed over here, is taken first. -/
theorem wpAnyV_skipD (i d : Nat) {fuel : Nat} {listed : Array Bool} {a : Act} {w : World}
    (hd : ((ops[i]?).map fun o => o.dst == some d && !Region.wanted o (yielded ops a.tmps)) = some true)
    (hs : Region.noSelect ops = true) (hf : Region.free md ops listed i = true) (hr : (Region.ready md ops listed).contains i = true)
    (hQ : ∀ c a w, Q (.panic c) (a.put (some d) undef) w → Q (.panic c) a w) (hB : (!anyOf B listed && B.all fun k => k != i && waitsFor md ops i k) = true) (hS : S w)
    (h : wpAnyV P n md ops Q S B fuel (listed.setIfInBounds i true) (a.put (some d) undef) w) : wpAnyV P n md ops Q S B (fuel + 1) listed a w := by
  cases ho : ops[i]? with
  | none => rw [ho] at hd; simp at hd
  | some oi =>
    rw [ho] at hd
    simp at hd
    obtain ⟨h1, h2⟩ := hd
    exact wpAnyV_first (v := undef) ho (Region.noSelect_spec hs) (by rw [h1]; exact hQ) fuel listed a w (Region.free_spec ho hf) (by simpa using hr) (by simp at hB; simpa using hB.2) (by simp at hB; exact hB.1) (.inr ⟨h2, rfl⟩) hS (by rw [h1]; exact h)

/-- Operation number i alone can come up, and is carried out. -/
theorem wpAnyV_one (i : Nat) {fuel : Nat} {listed : Array Bool} {a : Act} {w : World} (hr : Region.ready md ops listed = [i])
    (hg : ((ops[i]?).map fun o => Region.wanted o (yielded ops a.tmps)) = some true)
    (h : ∀ o, ops[i]? = some o → ∀ K : Act → World → Prop, (∀ a' w', (anyOf B (listed.setIfInBounds i true) = true ∨ S w') → (anyOf B (listed.setIfInBounds i true) = true ∨ S w' → wpAnyV P n md ops Q S B fuel (listed.setIfInBounds i true) a' w') → K a' w') → Oper.wpIn Fence.wide n P o a w K Q) :
    wpAnyV P n md ops Q S B (fuel + 1) listed a w := by
  refine ⟨fun h0 => (by rw [hr] at h0; cases h0), ?_⟩
  intro j hj
  rw [hr, List.mem_singleton] at hj
  subst hj
  unfold wpOpIn
  cases ho : ops[j]? with
  | none => rw [ho] at hg; simp at hg
  | some o =>
    rw [ho] at hg
    simp at hg
    simp only [if_pos hg]
    exact h o ho _ fun a' w' hS hk => ⟨hS, hk hS⟩

/-- Operations number i and j can come up, and are carried out. -/
theorem wpAnyV_two (i j : Nat) {fuel : Nat} {listed : Array Bool} {a : Act} {w : World} (hr : Region.ready md ops listed = [i, j])
    (hgi : ((ops[i]?).map fun o => Region.wanted o (yielded ops a.tmps)) = some true) (hgj : ((ops[j]?).map fun o => Region.wanted o (yielded ops a.tmps)) = some true)
    (hi : ∀ o, ops[i]? = some o → ∀ K : Act → World → Prop, (∀ a' w', (anyOf B (listed.setIfInBounds i true) = true ∨ S w') → (anyOf B (listed.setIfInBounds i true) = true ∨ S w' → wpAnyV P n md ops Q S B fuel (listed.setIfInBounds i true) a' w') → K a' w') → Oper.wpIn Fence.wide n P o a w K Q)
    (hj : ∀ o, ops[j]? = some o → ∀ K : Act → World → Prop, (∀ a' w', (anyOf B (listed.setIfInBounds j true) = true ∨ S w') → (anyOf B (listed.setIfInBounds j true) = true ∨ S w' → wpAnyV P n md ops Q S B fuel (listed.setIfInBounds j true) a' w') → K a' w') → Oper.wpIn Fence.wide n P o a w K Q) :
    wpAnyV P n md ops Q S B (fuel + 1) listed a w := by
  refine ⟨fun h0 => (by rw [hr] at h0; cases h0), ?_⟩
  intro k hk
  rw [hr, List.mem_cons, List.mem_singleton] at hk
  rcases hk with rfl | rfl
  · unfold wpOpIn
    cases ho : ops[k]? with
    | none => rw [ho] at hgi; simp at hgi
    | some o =>
      rw [ho] at hgi
      simp at hgi
      simp only [if_pos hgi]
      exact hi o ho _ fun a' w' hS hk => ⟨hS, hk hS⟩
  · unfold wpOpIn
    cases ho : ops[k]? with
    | none => rw [ho] at hgj; simp at hgj
    | some o =>
      rw [ho] at hgj
      simp at hgj
      simp only [if_pos hgj]
      exact hj o ho _ fun a' w' hS hk => ⟨hS, hk hS⟩

theorem wpAnyV_done {listed : Array Bool} {a : Act} {w : World} (hr : Region.ready md ops listed = []) (h : Q .normal a w) : ∀ fuel, wpAnyV P n md ops Q S B fuel listed a w
  | 0 => ⟨hr, h⟩
  | _ + 1 => ⟨fun _ => h, by rw [hr]; simp⟩

/-- The beginning, the number of operations written out. -/
theorem wpIn_region_V {id : Nat} {a : Act} {w : World} (k : Nat) (hn : ops.size = k) (hm : P.follows .mixedOrders = true) (hS : S w.drew)
    (h : S w.drew → wpAnyV P n .any ops Q S B k (Array.replicate k false) a w.drew) : (Code.region id ops true).wpIn Fence.wide n P Q a w := by
  subst hn
  exact wpIn_region_any hm (wpAnyIn_of_V _ _ _ _ (h hS))
end
end Go.Proofs.Ytjkegmjjhdmkiaa
