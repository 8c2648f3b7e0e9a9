/- Plain laws on regions that draw their order, walked at the wide fence, where rounds of a loop may be called: loads are taken first where a condition on the world holds. No program in sight. Plain laws on regions that draw their order and end in stores: loads, for which the stores wait, are taken first. No program in sight. A plain law on regions that draw their order: whatever order is picked, each operation gives what is asked of it, if it does so from all that must come ahead of it. No program in sight. -/
import Derived.Test.YtacioedolmaofaaLBA2
import Derived.OrdersIn
namespace Go.Proofs.Ytacioedolmaofaa
open Go Go.RowKit
set_option linter.unusedSimpArgs false

section
variable {P : Program} {ops : Array Oper} {Q : Exit → Act → World → Prop} {md : Region.Mode} {S : World → Prop}

theorem wideAll {o : Oper} {w : World} {ρ : Operand → Value} : ∀ f, o.about P w ρ = some f → Fence.wide.fn f := fun _ _ => trivial

theorem yieldsIf_wpOpIn {n i : Nat} {o : Oper} {v : Value} {a : Act} (hi : ops[i]? = some o) (hy : YieldsIf P ops S o v a)
    {K : Act → World → Prop} {w : World} (hS : S w) (h : K (a.put o.dst v) w) : wpOpIn Fence.wide n P ops Q i K a w := by
  unfold Go.wpOpIn
  simp only [hi]
  rcases hy with ⟨hw, hv⟩ | ⟨hw, rfl⟩
  · simp only [hw, if_true, Oper.wpIn, Fence.wide_round, Oper.semAt_none, hv w hS, Oper.uponIn]; exact ⟨wideAll, h⟩
  · simp only [hw, Bool.false_eq_true, if_false]; exact ⟨wideAll, h⟩

theorem wpOpIn_putIf {n j : Nat} {oi oj : Oper} {v : Value} (hj : ops[j]? = some oj) (hap : oi.apart ops oj = true)
    (hsi : ∀ cs b, oi.op ≠ .select cs b) (hsj : ∀ cs b, oj.op ≠ .select cs b)
    (hQ : ∀ c a w, Q (.panic c) (a.put oi.dst v) w → Q (.panic c) a w) {K : Act → World → Prop} {a : Act} {w : World}
    (hy : YieldsIf P ops S oi v a) (h : wpOpIn Fence.wide n P ops Q j K (a.put oi.dst v) w) :
    wpOpIn Fence.wide n P ops Q j (fun a' w' => YieldsIf P ops S oi v a' ∧ K (a'.put oi.dst v) w') a w := by
  obtain ⟨h1, h2, h3⟩ := Oper.apart_spec hap
  have keep : ∀ (a : Act), YieldsIf P ops S oi v a → ∀ u, YieldsIf P ops S oi v (a.put oj.dst u) := fun a hy u =>
    hy.of_same (execOp_put oi hsi a oj.dst u h3) (wanted_put oi a oj.dst u h3)
  have keepD : ∀ d, YieldsIf P ops S oi v { a with defers := d::a.defers } := fun d => hy.of_same rfl rfl
  unfold wpOpIn at *
  simp only [hj] at *
  rw [wanted_put oj a oi.dst v h1] at h
  split
  · rename_i hw
    simp only [hw, if_true] at h
    unfold Oper.wpIn at *
    refine ⟨wideAll, ?_⟩
    have h := h.2
    rw [Fence.wide_round, Oper.semAt_none, execOp_put oj hsj a oi.dst v h1] at h
    rw [Fence.wide_round, Oper.semAt_none]
    generalize (execOp a.eval oj).run P w = r at *
    cases r with
    | ok x w' =>
      cases x <;> simp only [Oper.uponIn] at h ⊢
      case value u => exact ⟨keep a hy u, by rw [← Act.put_comm a v u h2]; exact h⟩
      case skip => exact ⟨keep a hy _, by rw [← Act.put_comm a v undef h2]; exact h⟩
      case defer d =>
        refine ⟨keep _ (keepD d) _, ?_⟩
        rw [← Act.put_comm _ v undef h2, ← Act.put_defers]
        exact h
      case enter f args =>
        refine ⟨h.1, CallsIn.mono h.2 fun e w'' he => ?_⟩
        cases e with
        | returned u => exact ⟨keep a hy u, by rw [← Act.put_comm a v u h2]; exact he⟩
        | panicked c => exact hQ _ _ _ he
        | outgrown => exact he
      case row row args => exact ⟨h.1, RowsIn.mono h.2 fun u w'' he => ⟨keep a hy u, by rw [← Act.put_comm a v u h2]; exact he⟩⟩
      case round l f tmps assign body =>
        refine ⟨h.1, RoundIn.mono h.2 fun e w'' he => ?_⟩
        cases e with
        | returned u => exact ⟨keep a hy u, by rw [← Act.put_comm a v u h2]; exact he⟩
        | panicked c => exact hQ _ _ _ he
        | outgrown => exact he
    | halt x w' =>
      cases x <;> simp only [Oper.uponIn] at h ⊢
      case panic u => exact hQ _ _ _ h
  · rename_i hw
    simp only [hw] at h
    exact ⟨wideAll, keep a hy _, by rw [← Act.put_comm a v undef h2]; exact h.2⟩

/-- Whatever order is picked from here on, and S holds behind every operation that is carried out. -/
def wpAnyW (P : Program) (n : Nat) (md : Region.Mode) (ops : Array Oper) (Q : Exit → Act → World → Prop) (S : World → Prop) : Nat → Array Bool → Act → World → Prop
  | 0, listed, a, w => Region.ready md ops listed = [] ∧ Q .normal a w
  | fuel + 1, listed, a, w =>
    (Region.ready md ops listed = [] → Q .normal a w) ∧
    ∀ i ∈ Region.ready md ops listed, wpOpIn Fence.wide n P ops Q i (fun a' w' => S w' ∧ wpAnyW P n md ops Q S fuel (listed.setIfInBounds i true) a' w') a w

variable {n : Nat}

theorem wpAnyIn_of_W : ∀ (fuel : Nat) (listed : Array Bool) (a : Act) (w : World), wpAnyW P n md ops Q S fuel listed a w → wpAnyIn Fence.wide n P md ops Q fuel listed a w
  | 0, _, _, _, h => h
  | fuel + 1, _, _, _, h => ⟨h.1, fun i hi => wpOpIn_mono (fun a' w' h' => wpAnyIn_of_W fuel _ a' w' h'.2) (h.2 i hi)⟩

theorem wpAnyW_first {i : Nat} {oi : Oper} {v : Value} (hi : ops[i]? = some oi) (hsel : ∀ (j : Nat) (o : Oper) cs b, ops[j]? = some o → o.op ≠ .select cs b)
    (hQ : ∀ c a w, Q (.panic c) (a.put oi.dst v) w → Q (.panic c) a w) :
    ∀ (fuel : Nat) (listed : Array Bool) (a : Act) (w : World),
      (∀ j oj, ops[j]? = some oj → j ≠ i → listed.getD j true = false → (∀ e ∈ oj.after, Region.binds md e = true → e.on ≠ i) → oi.apart ops oj = true) →
      i ∈ Region.ready md ops listed → YieldsIf P ops S oi v a → S w →
      wpAnyW P n md ops Q S fuel (listed.setIfInBounds i true) (a.put oi.dst v) w → wpAnyW P n md ops Q S (fuel + 1) listed a w := by
  intro fuel
  induction fuel with
  | zero =>
    intro listed a w _ hr hy hS H
    refine ⟨fun h => (by rw [h] at hr; cases hr), fun j hj => ?_⟩
    by_cases hji : j = i
    · subst hji; exact yieldsIf_wpOpIn hi hy hS ⟨hS, H⟩
    · have := ready_mono hj hji
      rw [H.1] at this
      cases this
  | succ fuel ih =>
    intro listed a w hfree hr hy hS H
    refine ⟨fun h => (by rw [h] at hr; cases hr), fun j hj => ?_⟩
    by_cases hji : j = i
    · subst hji; exact yieldsIf_wpOpIn hi hy hS ⟨hS, H⟩
    · have h1 := H.2 j (ready_mono hj hji)
      obtain ⟨hjun, oj, hoj, hall⟩ := mem_ready.1 hj
      have hnot : ∀ e ∈ oj.after, Region.binds md e = true → e.on ≠ i := fun e he hb heq => by
        have h1 := hall e he hb
        have h0 := (mem_ready.1 hr).1
        rw [heq] at h1
        rcases Nat.lt_or_ge i listed.size with h' | h'
        · simp [h'] at h0 h1; rw [h0] at h1; cases h1
        · simp [Array.getElem?_eq_none h'] at h1
      have h2 := wpOpIn_putIf hoj (hfree j oj hoj hji hjun hnot) (fun cs b => hsel i oi cs b hi) (fun cs b => hsel j oj cs b hoj) hQ hy h1
      have hfree' : ∀ k ok, ops[k]? = some ok → k ≠ i → (listed.setIfInBounds j true).getD k true = false →
          (∀ e ∈ ok.after, Region.binds md e = true → e.on ≠ i) → oi.apart ops ok = true := fun k ok hk hki hun hno => by
        refine hfree k ok hk hki ?_ hno
        by_cases hjk : j = k
        · subst hjk; exact hjun
        · rw [getD_set_ne true hjk] at hun; exact hun
      refine wpOpIn_mono (fun a' w' h3 => ⟨h3.2.1, ih (listed.setIfInBounds j true) a' w' hfree' (ready_mono hr (Ne.symm hji)) h3.1 h3.2.1 ?_⟩) h2
      rw [Array.setIfInBounds_comm _ _ hji]
      exact h3.2.2

/-- Operation number i, which writes slot d and is carried out here, is taken first. -/
theorem wpAnyW_takeD (i d : Nat) {fuel : Nat} {v : Value} {listed : Array Bool} {a : Act} {w : World}
    (hd : ((ops[i]?).map fun o => o.dst == some d && Region.wanted o (yielded ops a.tmps)) = some true)
    (hs : Region.noSelect ops = true) (hf : Region.free md ops listed i = true) (hr : (Region.ready md ops listed).contains i = true)
    (hQ : ∀ c a w, Q (.panic c) (a.put (some d) v) w → Q (.panic c) a w)
    (hy : ∀ oi, ops[i]? = some oi → ∀ w, S w → (execOp a.eval oi).run P w = .ok (.value v) w) (hS : S w)
    (h : wpAnyW P n md ops Q S fuel (listed.setIfInBounds i true) (a.put (some d) v) w) : wpAnyW P n md ops Q S (fuel + 1) listed a w := by
  cases ho : ops[i]? with
  | none => rw [ho] at hd; simp at hd
  | some oi =>
    rw [ho] at hd
    simp at hd
    obtain ⟨h1, h2⟩ := hd
    exact wpAnyW_first (v := v) ho (Region.noSelect_spec hs) (by rw [h1]; exact hQ) fuel listed a w (Region.free_spec ho hf) (by simpa using hr) (.inl ⟨h2, hy oi ho⟩) hS (by rw [h1]; exact h)

/-- The same, in few words. -/
theorem wTk (i d : Nat) {fuel : Nat} (v : Value) {listed : Array Bool} {a : Act} {w : World}
    (hy : ∀ oi, ops[i]? = some oi → ∀ w, S w → (execOp a.eval oi).run P w = .ok (.value v) w)
    (h : wpAnyW P n md ops Q S fuel (listed.setIfInBounds i true) (a.put (some d) v) w)
    (hc : (Region.noSelect ops && Region.free md ops listed i && (Region.ready md ops listed).contains i && (((ops[i]?).map fun o => o.dst == some d && Region.wanted o (yielded ops a.tmps)) == some true)) = true := by kernel_rfl)
    (hQ : ∀ c a w, Q (.panic c) (a.put (some d) v) w → Q (.panic c) a w := by exact fun _ _ _ h => h)
    (hS : S w := by assumption) : wpAnyW P n md ops Q S (fuel + 1) listed a w := by
  simp only [Bool.and_eq_true, beq_iff_eq] at hc
  obtain ⟨⟨⟨h1, h2⟩, h3⟩, h4⟩ := hc
  exact wpAnyW_takeD i d h4 h1 h2 h3 hQ hy hS h
/-- Operation number i, which is guarded and passed over here, is taken first. -/
theorem wpAnyW_skipD (i d : Nat) {fuel : Nat} {listed : Array Bool} {a : Act} {w : World}
    (hd : ((ops[i]?).map fun o => o.dst == some d && !Region.wanted o (yielded ops a.tmps)) = some true)
    (hs : Region.noSelect ops = true) (hf : Region.free md ops listed i = true) (hr : (Region.ready md ops listed).contains i = true)
    (hQ : ∀ c a w, Q (.panic c) (a.put (some d) undef) w → Q (.panic c) a w) (hS : S w)
    (h : wpAnyW P n md ops Q S fuel (listed.setIfInBounds i true) (a.put (some d) undef) w) : wpAnyW P n md ops Q S (fuel + 1) listed a w := by
  cases ho : ops[i]? with
  | none => rw [ho] at hd; simp at hd
  | some oi =>
    rw [ho] at hd
    simp at hd
    obtain ⟨h1, h2⟩ := hd
    exact wpAnyW_first (v := undef) ho (Region.noSelect_spec hs) (by rw [h1]; exact hQ) fuel listed a w (Region.free_spec ho hf) (by simpa using hr) (.inr ⟨h2, rfl⟩) hS (by rw [h1]; exact h)

/-- Operation number i alone can come up, and is carried out. -/
theorem wpAnyW_one (i : Nat) {fuel : Nat} {listed : Array Bool} {a : Act} {w : World} (hr : Region.ready md ops listed = [i])
    (hg : ((ops[i]?).map fun o => Region.wanted o (yielded ops a.tmps)) = some true)
    (h : ∀ o, ops[i]? = some o → ∀ K : Act → World → Prop, (∀ a' w', S w' → (S w' → wpAnyW P n md ops Q S fuel (listed.setIfInBounds i true) a' w') → K a' w') → Oper.wpIn Fence.wide n P o a w K Q) :
    wpAnyW P n md ops Q S (fuel + 1) listed a w := by
  refine ⟨fun h0 => (by rw [hr] at h0; cases h0), ?_⟩
  intro j hj
  rw [hr, List.mem_singleton] at hj
  subst hj
  unfold wpOpIn
  cases ho : ops[j]? with
  | none => rw [ho] at hg; simp at hg
  | some o =>
    rw [ho] at hg
    simp at hg
    simp only [if_pos hg]
    exact h o ho _ fun a' w' hS hk => ⟨hS, hk hS⟩

theorem wpAnyW_done {listed : Array Bool} {a : Act} {w : World} (hr : Region.ready md ops listed = []) (h : Q .normal a w) : ∀ fuel, wpAnyW P n md ops Q S fuel listed a w
  | 0 => ⟨hr, h⟩
  | _ + 1 => ⟨fun _ => h, by rw [hr]; simp⟩

/-- The beginning, the number of operations written out. -/
theorem wpIn_region_W {id : Nat} {a : Act} {w : World} (k : Nat) (hn : ops.size = k) (hm : P.follows .mixedOrders = true) (hS : S w.drew)
    (h : S w.drew → wpAnyW P n .any ops Q S k (Array.replicate k false) a w.drew) : (Code.region id ops true).wpIn Fence.wide n P Q a w := by
  subst hn
  exact wpIn_region_any hm (wpAnyIn_of_W _ _ _ _ (h hS))
end
end Go.Proofs.Ytacioedolmaofaa
namespace Go.Proofs.Ytacioedolmaofaa
open Go Go.RowKit
set_option linter.unusedSimpArgs false

section
variable {P : Program} {ops : Array Oper} {Q : Exit → Act → World → Prop} {md : Region.Mode} {S : World → Prop}

/-- Is one of B among those that have come up? -/
def anyOf (B : List Nat) (listed : Array Bool) : Bool := B.any fun k => listed.getD k true
theorem anyOf_set {B : List Nat} {listed : Array Bool} (i : Nat) (h : anyOf B listed = true) : anyOf B (listed.setIfInBounds i true) = true := by
  unfold anyOf at *
  rw [List.any_eq_true] at *
  obtain ⟨k, hk, h⟩ := h
  refine ⟨k, hk, ?_⟩
  by_cases e : i = k
  · subst e
    rcases Nat.lt_or_ge i listed.size with h' | h'
    · simp [h']
    · simp [Array.getElem?_eq_none h']
  · rw [getD_set_ne true e]; exact h
theorem anyOf_skip {B : List Nat} (listed : Array Bool) {j : Nat} (hj : j ∉ B) : anyOf B (listed.setIfInBounds j true) = anyOf B listed := by
  unfold anyOf
  rw [Bool.eq_iff_iff, List.any_eq_true, List.any_eq_true]
  constructor
  · rintro ⟨k, hk, h⟩
    refine ⟨k, hk, ?_⟩
    rw [← getD_set_ne (listed := listed) (i := j) (j := k) true (by intro e; subst e; exact hj hk)]
    exact h
  · rintro ⟨k, hk, h⟩
    refine ⟨k, hk, ?_⟩
    rw [getD_set_ne true (by intro e; subst e; exact hj hk)]
    exact h

/-- Whatever order is picked from here on, and S holds behind every operation that is carried out but those of B, for which all loads wait. -/
def wpAnyV (P : Program) (n : Nat) (md : Region.Mode) (ops : Array Oper) (Q : Exit → Act → World → Prop) (S : World → Prop) (B : List Nat) : Nat → Array Bool → Act → World → Prop
  | 0, listed, a, w => Region.ready md ops listed = [] ∧ Q .normal a w
  | fuel + 1, listed, a, w =>
    (Region.ready md ops listed = [] → Q .normal a w) ∧
    ∀ i ∈ Region.ready md ops listed, wpOpIn Fence.wide n P ops Q i (fun a' w' => (anyOf B (listed.setIfInBounds i true) = true ∨ S w') ∧ wpAnyV P n md ops Q S B fuel (listed.setIfInBounds i true) a' w') a w

variable {n : Nat} {B : List Nat}

theorem wpAnyIn_of_V : ∀ (fuel : Nat) (listed : Array Bool) (a : Act) (w : World), wpAnyV P n md ops Q S B fuel listed a w → wpAnyIn Fence.wide n P md ops Q fuel listed a w
  | 0, _, _, _, h => h
  | fuel + 1, _, _, _, h => ⟨h.1, fun i hi => wpOpIn_mono (fun a' w' h' => wpAnyIn_of_V fuel _ a' w' h'.2) (h.2 i hi)⟩

/-- Operation k waits for operation i. -/
def waitsFor (md : Region.Mode) (ops : Array Oper) (i k : Nat) : Bool := (ops[k]?).any fun o => o.after.any fun e => Region.binds md e && e.on == i
theorem waitsFor_ready {md : Region.Mode} {ops : Array Oper} {i k : Nat} {listed : Array Bool} (h : waitsFor md ops i k = true) (hi : listed.getD i true = false) : k ∉ Region.ready md ops listed := by
  intro hk
  obtain ⟨_, o, ho, hall⟩ := mem_ready.1 hk
  unfold waitsFor at h
  rw [ho] at h
  simp only [Option.any_some, Array.any_eq_true, Bool.and_eq_true, beq_iff_eq] at h
  obtain ⟨x, hx, h1, h2⟩ := h
  have h3 := hall _ (Array.getElem_mem hx) h1
  rw [h2] at h3
  rcases Nat.lt_or_ge i listed.size with h' | h'
  · simp [h'] at hi h3; rw [hi] at h3; cases h3
  · simp [Array.getElem?_eq_none h'] at h3

theorem wpAnyV_first {i : Nat} {oi : Oper} {v : Value} (hi : ops[i]? = some oi) (hsel : ∀ (j : Nat) (o : Oper) cs b, ops[j]? = some o → o.op ≠ .select cs b)
    (hQ : ∀ c a w, Q (.panic c) (a.put oi.dst v) w → Q (.panic c) a w) :
    ∀ (fuel : Nat) (listed : Array Bool) (a : Act) (w : World),
      (∀ j oj, ops[j]? = some oj → j ≠ i → listed.getD j true = false → (∀ e ∈ oj.after, Region.binds md e = true → e.on ≠ i) → oi.apart ops oj = true) →
      i ∈ Region.ready md ops listed → (∀ k ∈ B, k ≠ i ∧ waitsFor md ops i k = true) → anyOf B listed = false → YieldsIf P ops S oi v a → S w →
      wpAnyV P n md ops Q S B fuel (listed.setIfInBounds i true) (a.put oi.dst v) w → wpAnyV P n md ops Q S B (fuel + 1) listed a w := by
  intro fuel
  induction fuel with
  | zero =>
    intro listed a w _ hr hB hnb hy hS H
    refine ⟨fun h => (by rw [h] at hr; cases hr), fun j hj => ?_⟩
    by_cases hji : j = i
    · subst hji; exact yieldsIf_wpOpIn hi hy hS ⟨.inr hS, H⟩
    · have := ready_mono hj hji
      rw [H.1] at this
      cases this
  | succ fuel ih =>
    intro listed a w hfree hr hB hnb hy hS H
    refine ⟨fun h => (by rw [h] at hr; cases hr), fun j hj => ?_⟩
    by_cases hji : j = i
    · subst hji; exact yieldsIf_wpOpIn hi hy hS ⟨.inr hS, H⟩
    · have h1 := H.2 j (ready_mono hj hji)
      obtain ⟨hjun, oj, hoj, hall⟩ := mem_ready.1 hj
      have hnot : ∀ e ∈ oj.after, Region.binds md e = true → e.on ≠ i := fun e he hb heq => by
        have h1 := hall e he hb
        have h0 := (mem_ready.1 hr).1
        rw [heq] at h1
        rcases Nat.lt_or_ge i listed.size with h' | h'
        · simp [h'] at h0 h1; rw [h0] at h1; cases h1
        · simp [Array.getElem?_eq_none h'] at h1
      have h2 := wpOpIn_putIf hoj (hfree j oj hoj hji hjun hnot) (fun cs b => hsel i oi cs b hi) (fun cs b => hsel j oj cs b hoj) hQ hy h1
      have hfree' : ∀ k ok, ops[k]? = some ok → k ≠ i → (listed.setIfInBounds j true).getD k true = false →
          (∀ e ∈ ok.after, Region.binds md e = true → e.on ≠ i) → oi.apart ops ok = true := fun k ok hk hki hun hno => by
        refine hfree k ok hk hki ?_ hno
        by_cases hjk : j = k
        · subst hjk; exact hjun
        · rw [getD_set_ne true hjk] at hun; exact hun
      have hjB : j ∉ B := fun hjb => waitsFor_ready (hB j hjb).2 ((mem_ready.1 hr).1) hj
      have hiB : i ∉ B := fun h => (hB i h).1 rfl
      refine wpOpIn_mono (fun a' w' h3 => by
        have hS' : S w' := h3.2.1.resolve_left (by rw [anyOf_skip _ hjB, anyOf_skip _ hiB, hnb]; simp)
        refine ⟨.inr hS', ih (listed.setIfInBounds j true) a' w' hfree' (ready_mono hr (Ne.symm hji)) hB (by rw [anyOf_skip _ hjB]; exact hnb) h3.1 hS' ?_⟩
        rw [Array.setIfInBounds_comm _ _ hji]
        exact h3.2.2) h2

theorem wpAnyV_firstP {i : Nat} (hiB : i ∉ B) {oi : Oper} {v : Value} (hi : ops[i]? = some oi) (hsel : ∀ (j : Nat) (o : Oper) cs b, ops[j]? = some o → o.op ≠ .select cs b)
    (hQ : ∀ c a w, Q (.panic c) (a.put oi.dst v) w → Q (.panic c) a w) :
    ∀ (fuel : Nat) (listed : Array Bool) (a : Act) (w : World),
      (∀ j oj, ops[j]? = some oj → j ≠ i → listed.getD j true = false → (∀ e ∈ oj.after, Region.binds md e = true → e.on ≠ i) → oi.apart ops oj = true) →
      i ∈ Region.ready md ops listed → YieldsIf P ops (fun _ => True) oi v a → (anyOf B listed = true ∨ S w) →
      wpAnyV P n md ops Q S B fuel (listed.setIfInBounds i true) (a.put oi.dst v) w → wpAnyV P n md ops Q S B (fuel + 1) listed a w := by
  intro fuel
  induction fuel with
  | zero =>
    intro listed a w _ hr hy hS H
    refine ⟨fun h => (by rw [h] at hr; cases hr), fun j hj => ?_⟩
    by_cases hji : j = i
    · subst hji; exact yieldsIf_wpOpIn hi hy trivial ⟨hS.imp (anyOf_set _) id, H⟩
    · have := ready_mono hj hji
      rw [H.1] at this
      cases this
  | succ fuel ih =>
    intro listed a w hfree hr hy hS H
    refine ⟨fun h => (by rw [h] at hr; cases hr), fun j hj => ?_⟩
    by_cases hji : j = i
    · subst hji; exact yieldsIf_wpOpIn hi hy trivial ⟨hS.imp (anyOf_set _) id, H⟩
    · have h1 := H.2 j (ready_mono hj hji)
      obtain ⟨hjun, oj, hoj, hall⟩ := mem_ready.1 hj
      have hnot : ∀ e ∈ oj.after, Region.binds md e = true → e.on ≠ i := fun e he hb heq => by
        have h1 := hall e he hb
        have h0 := (mem_ready.1 hr).1
        rw [heq] at h1
        rcases Nat.lt_or_ge i listed.size with h' | h'
        · simp [h'] at h0 h1; rw [h0] at h1; cases h1
        · simp [Array.getElem?_eq_none h'] at h1
      have h2 := wpOpIn_putIf hoj (hfree j oj hoj hji hjun hnot) (fun cs b => hsel i oi cs b hi) (fun cs b => hsel j oj cs b hoj) hQ hy h1
      have hfree' : ∀ k ok, ops[k]? = some ok → k ≠ i → (listed.setIfInBounds j true).getD k true = false →
          (∀ e ∈ ok.after, Region.binds md e = true → e.on ≠ i) → oi.apart ops ok = true := fun k ok hk hki hun hno => by
        refine hfree k ok hk hki ?_ hno
        by_cases hjk : j = k
        · subst hjk; exact hjun
        · rw [getD_set_ne true hjk] at hun; exact hun
      refine wpOpIn_mono (fun a' w' h3 => by
        have hS' : anyOf B (listed.setIfInBounds j true) = true ∨ S w' := by
          have := h3.2.1
          rwa [Array.setIfInBounds_comm _ _ (Ne.symm hji), anyOf_skip _ hiB] at this
        refine ⟨hS', ih (listed.setIfInBounds j true) a' w' hfree' (ready_mono hr (Ne.symm hji)) h3.1 hS' ?_⟩
        rw [Array.setIfInBounds_comm _ _ hji]
        exact h3.2.2) h2

/-- Operation number i, which writes slot d and asks nothing of the world, is taken first. -/
theorem wpAnyV_takeP (i d : Nat) {fuel : Nat} {v : Value} {listed : Array Bool} {a : Act} {w : World}
    (hd : ((ops[i]?).map fun o => o.dst == some d && Region.wanted o (yielded ops a.tmps)) = some true)
    (hs : Region.noSelect ops = true) (hf : Region.free md ops listed i = true) (hr : (Region.ready md ops listed).contains i = true)
    (hQ : ∀ c a w, Q (.panic c) (a.put (some d) v) w → Q (.panic c) a w)
    (hy : ∀ oi, ops[i]? = some oi → ∀ w, (execOp a.eval oi).run P w = .ok (.value v) w) (hiB : (!B.contains i) = true) (hS : anyOf B listed = true ∨ S w)
    (h : wpAnyV P n md ops Q S B fuel (listed.setIfInBounds i true) (a.put (some d) v) w) : wpAnyV P n md ops Q S B (fuel + 1) listed a w := by
  cases ho : ops[i]? with
  | none => rw [ho] at hd; simp at hd
  | some oi =>
    rw [ho] at hd
    simp at hd
    obtain ⟨h1, h2⟩ := hd
    exact wpAnyV_firstP (v := v) (by simpa using hiB) ho (Region.noSelect_spec hs) (by rw [h1]; exact hQ) fuel listed a w (Region.free_spec ho hf) (by simpa using hr) (.inl ⟨h2, fun w _ => hy oi ho w⟩) hS (by rw [h1]; exact h)

/-- Operation number i, which writes slot d and is carried out here, is taken first. -/
theorem wpAnyV_takeD (i d : Nat) {fuel : Nat} {v : Value} {listed : Array Bool} {a : Act} {w : World}
    (hd : ((ops[i]?).map fun o => o.dst == some d && Region.wanted o (yielded ops a.tmps)) = some true)
    (hs : Region.noSelect ops = true) (hf : Region.free md ops listed i = true) (hr : (Region.ready md ops listed).contains i = true)
    (hQ : ∀ c a w, Q (.panic c) (a.put (some d) v) w → Q (.panic c) a w) (hB : (!anyOf B listed && B.all fun k => k != i && waitsFor md ops i k) = true)
    (hy : ∀ oi, ops[i]? = some oi → ∀ w, S w → (execOp a.eval oi).run P w = .ok (.value v) w) (hS : S w)
    (h : wpAnyV P n md ops Q S B fuel (listed.setIfInBounds i true) (a.put (some d) v) w) : wpAnyV P n md ops Q S B (fuel + 1) listed a w := by
  cases ho : ops[i]? with
  | none => rw [ho] at hd; simp at hd
  | some oi =>
    rw [ho] at hd
    simp at hd
    obtain ⟨h1, h2⟩ := hd
    exact wpAnyV_first (v := v) ho (Region.noSelect_spec hs) (by rw [h1]; exact hQ) fuel listed a w (Region.free_spec ho hf) (by simpa using hr) (by simp at hB; simpa using hB.2) (by simp at hB; exact hB.1) (.inl ⟨h2, hy oi ho⟩) hS (by rw [h1]; exact h)

/-- Operation number i, which is guarded and passed over here, is taken first. -/
theorem wpAnyV_skipD (i d : Nat) {fuel : Nat} {listed : Array Bool} {a : Act} {w : World}
    (hd : ((ops[i]?).map fun o => o.dst == some d && !Region.wanted o (yielded ops a.tmps)) = some true)
    (hs : Region.noSelect ops = true) (hf : Region.free md ops listed i = true) (hr : (Region.ready md ops listed).contains i = true)
    (hQ : ∀ c a w, Q (.panic c) (a.put (some d) undef) w → Q (.panic c) a w) (hB : (!anyOf B listed && B.all fun k => k != i && waitsFor md ops i k) = true) (hS : S w)
    (h : wpAnyV P n md ops Q S B fuel (listed.setIfInBounds i true) (a.put (some d) undef) w) : wpAnyV P n md ops Q S B (fuel + 1) listed a w := by
  cases ho : ops[i]? with
  | none => rw [ho] at hd; simp at hd
  | some oi =>
    rw [ho] at hd
    simp at hd
    obtain ⟨h1, h2⟩ := hd
    exact wpAnyV_first (v := undef) ho (Region.noSelect_spec hs) (by rw [h1]; exact hQ) fuel listed a w (Region.free_spec ho hf) (by simpa using hr) (by simp at hB; simpa using hB.2) (by simp at hB; exact hB.1) (.inr ⟨h2, rfl⟩) hS (by rw [h1]; exact h)

/-- Operation number i alone can come up, and is carried out. -/
theorem wpAnyV_one (i : Nat) {fuel : Nat} {listed : Array Bool} {a : Act} {w : World} (hr : Region.ready md ops listed = [i])
    (hg : ((ops[i]?).map fun o => Region.wanted o (yielded ops a.tmps)) = some true)
    (h : ∀ o, ops[i]? = some o → ∀ K : Act → World → Prop, (∀ a' w', (anyOf B (listed.setIfInBounds i true) = true ∨ S w') → (anyOf B (listed.setIfInBounds i true) = true ∨ S w' → wpAnyV P n md ops Q S B fuel (listed.setIfInBounds i true) a' w') → K a' w') → Oper.wpIn Fence.wide n P o a w K Q) :
    wpAnyV P n md ops Q S B (fuel + 1) listed a w := by
  refine ⟨fun h0 => (by rw [hr] at h0; cases h0), ?_⟩
  intro j hj
  rw [hr, List.mem_singleton] at hj
  subst hj
  unfold wpOpIn
  cases ho : ops[j]? with
  | none => rw [ho] at hg; simp at hg
  | some o =>
    rw [ho] at hg
    simp at hg
    simp only [if_pos hg]
    exact h o ho _ fun a' w' hS hk => ⟨hS, hk hS⟩

/-- Operations number i and j can come up, and are carried out. -/
theorem wpAnyV_two (i j : Nat) {fuel : Nat} {listed : Array Bool} {a : Act} {w : World} (hr : Region.ready md ops listed = [i, j])
    (hgi : ((ops[i]?).map fun o => Region.wanted o (yielded ops a.tmps)) = some true) (hgj : ((ops[j]?).map fun o => Region.wanted o (yielded ops a.tmps)) = some true)
    (hi : ∀ o, ops[i]? = some o → ∀ K : Act → World → Prop, (∀ a' w', (anyOf B (listed.setIfInBounds i true) = true ∨ S w') → (anyOf B (listed.setIfInBounds i true) = true ∨ S w' → wpAnyV P n md ops Q S B fuel (listed.setIfInBounds i true) a' w') → K a' w') → Oper.wpIn Fence.wide n P o a w K Q)
    (hj : ∀ o, ops[j]? = some o → ∀ K : Act → World → Prop, (∀ a' w', (anyOf B (listed.setIfInBounds j true) = true ∨ S w') → (anyOf B (listed.setIfInBounds j true) = true ∨ S w' → wpAnyV P n md ops Q S B fuel (listed.setIfInBounds j true) a' w') → K a' w') → Oper.wpIn Fence.wide n P o a w K Q) :
    wpAnyV P n md ops Q S B (fuel + 1) listed a w := by
  refine ⟨fun h0 => (by rw [hr] at h0; cases h0), ?_⟩
  intro k hk
  rw [hr, List.mem_cons, List.mem_singleton] at hk
  rcases hk with rfl | rfl
  · unfold wpOpIn
    cases ho : ops[k]? with
    | none => rw [ho] at hgi; simp at hgi
    | some o =>
      rw [ho] at hgi
      simp at hgi
      simp only [if_pos hgi]
      exact hi o ho _ fun a' w' hS hk => ⟨hS, hk hS⟩
  · unfold wpOpIn
    cases ho : ops[k]? with
    | none => rw [ho] at hgj; simp at hgj
    | some o =>
      rw [ho] at hgj
      simp at hgj
      simp only [if_pos hgj]
      exact hj o ho _ fun a' w' hS hk => ⟨hS, hk hS⟩

theorem wpAnyV_done {listed : Array Bool} {a : Act} {w : World} (hr : Region.ready md ops listed = []) (h : Q .normal a w) : ∀ fuel, wpAnyV P n md ops Q S B fuel listed a w
  | 0 => ⟨hr, h⟩
  | _ + 1 => ⟨fun _ => h, by rw [hr]; simp⟩

/-- The beginning, the number of operations written out. -/
theorem wpIn_region_V {id : Nat} {a : Act} {w : World} (k : Nat) (hn : ops.size = k) (hm : P.follows .mixedOrders = true) (hS : S w.drew)
    (h : S w.drew → wpAnyV P n .any ops Q S B k (Array.replicate k false) a w.drew) : (Code.region id ops true).wpIn Fence.wide n P Q a w := by
  subst hn
  exact wpIn_region_any hm (wpAnyIn_of_V _ _ _ _ (h hS))
end
end Go.Proofs.Ytacioedolmaofaa
namespace Go.Proofs.Ytacioedolmaofaa
open Go Go.RowKit
set_option linter.unusedSimpArgs false

def dstOf (ops : Array Oper) (j : Nat) : Option Tmp := (ops[j]?).bind (·.dst)
def putAll (ops : Array Oper) (vals : Nat → Value) (L : List Nat) (a : Act) : Act := L.foldl (fun a j => a.put (dstOf ops j) (vals j)) a

theorem putAll_cons (ops : Array Oper) (vals : Nat → Value) (j : Nat) (L : List Nat) (a : Act) : putAll ops vals (j::L) a = putAll ops vals L (a.put (dstOf ops j) (vals j)) := rfl
theorem putAll_congr {ops : Array Oper} {vals vals' : Nat → Value} : ∀ (L : List Nat) (a : Act), (∀ j ∈ L, vals j = vals' j) → putAll ops vals L a = putAll ops vals' L a
  | [], _, _ => rfl
  | j::L, a, h => by rw [putAll_cons, putAll_cons, h j (by simp)]; exact putAll_congr L _ (fun k hk => h k (by simp [hk]))
theorem put_size (a : Act) (d : Option Tmp) (v : Value) : (a.put d v).tmps.size = a.tmps.size := by cases d <;> simp [Act.put]
theorem putAll_size {ops : Array Oper} {vals : Nat → Value} : ∀ (L : List Nat) (a : Act), (putAll ops vals L a).tmps.size = a.tmps.size
  | [], _ => rfl
  | j::L, a => by rw [putAll_cons, putAll_size L, put_size]
theorem putAll_put {ops : Array Oper} {vals : Nat → Value} {d : Option Tmp} {v : Value} : ∀ (L : List Nat) (a : Act), (∀ j ∈ L, ∀ t, d = some t → dstOf ops j ≠ some t) → putAll ops vals L (a.put d v) = (putAll ops vals L a).put d v
  | [], _, _ => rfl
  | j::L, a, h => by
    rw [putAll_cons, putAll_cons, Act.put_comm a v (vals j) (h j (by simp))]
    exact putAll_put L _ (fun k hk => h k (by simp [hk]))
theorem putAll_insert {ops : Array Oper} {vals : Nat → Value} {i : Nat} {p : Nat → Bool} : ∀ (L : List Nat) (a : Act), L.Nodup → i ∈ L → p i = false → (∀ j ∈ L, j ≠ i → ∀ t, dstOf ops i = some t → dstOf ops j ≠ some t) →
    putAll ops vals (L.filter fun j => p j || j == i) a = (putAll ops vals (L.filter p) a).put (dstOf ops i) (vals i)
  | [], _, _, h, _, _ => by cases h
  | j::L, a, hn, hi, hp, hd => by
    have hn' := List.nodup_cons.1 hn
    by_cases hj : j = i
    · subst hj
      have e1 : (L.filter fun k => p k || k == j) = L.filter p := List.filter_congr fun k hk => by
        have : k ≠ j := fun e => hn'.1 (e ▸ hk)
        simp [this]
      rw [List.filter_cons_of_pos (by simp), List.filter_cons_of_neg (by simp [hp]), e1, putAll_cons]
      refine putAll_put _ _ (fun k hk t ht => ?_)
      have hk' := (List.mem_filter.1 hk).1
      exact hd k (by simp [hk']) (fun e => hn'.1 (e ▸ hk')) t ht
    · have hi' : i ∈ L := by
        rcases List.mem_cons.1 hi with h | h
        · exact absurd h.symm hj
        · exact h
      cases hpj : p j
      · rw [List.filter_cons_of_neg (by simp [hpj, hj]), List.filter_cons_of_neg (by simp [hpj])]
        exact putAll_insert L a hn'.2 hi' hp (fun k hk => hd k (by simp [hk]))
      · rw [List.filter_cons_of_pos (by simp [hpj]), List.filter_cons_of_pos (by simp [hpj]), putAll_cons, putAll_cons]
        exact putAll_insert L _ hn'.2 hi' hp (fun k hk => hd k (by simp [hk]))

section
variable {F : Fence} {n : Nat} {P : Program} {ops : Array Oper} {md : Region.Mode} {Q : Exit → Act → World → Prop}

theorem put_inj {a b : Act} {d : Option Tmp} {u v : Value} (hs : a.tmps.size = b.tmps.size) (h : b.put d u = b.put d v) : a.put d u = a.put d v := by
  cases d with
  | none => rfl
  | some t =>
    simp only [Act.put, Act.mk.injEq, and_true] at h ⊢
    by_cases ht : t < b.tmps.size
    · have := congrArg (fun x : Array Value => x[t]?) h
      simp [ht] at this
      rw [this]
    · have hb := Nat.not_lt.1 ht
      rw [Array.setIfInBounds_eq_of_size_le (hs ▸ hb), Array.setIfInBounds_eq_of_size_le (hs ▸ hb)]

theorem execOp_putAll (o : Oper) (hs : ∀ cs b, o.op ≠ .select cs b) {vals : Nat → Value} : ∀ (L : List Nat) (a : Act), (∀ j ∈ L, ∀ t, dstOf ops j = some t → t ∉ o.looksAt ops) →
    execOp (putAll ops vals L a).eval o = execOp a.eval o ∧ Region.wanted o (yielded ops (putAll ops vals L a).tmps) = Region.wanted o (yielded ops a.tmps)
  | [], _, _ => ⟨rfl, rfl⟩
  | j::L, a, h => by
    rw [putAll_cons]
    obtain ⟨h1, h2⟩ := execOp_putAll o hs (vals := vals) L (a.put (dstOf ops j) (vals j)) (fun k hk => h k (by simp [hk]))
    exact ⟨h1.trans (execOp_put o hs a _ _ (h j (by simp))), h2.trans (wanted_put o a _ _ (h j (by simp)))⟩

/-- All those that are in M too, put first: the rest is put behind them. -/
theorem putAll_split {vals : Nat → Value} {M : Nat → Bool} : ∀ (L : List Nat) (a : Act), L.Pairwise (fun i j => ∀ t, dstOf ops i = some t → dstOf ops j ≠ some t) →
    putAll ops vals L a = putAll ops vals (L.filter fun j => !M j) (putAll ops vals (L.filter M) a)
  | [], _, _ => rfl
  | j::L, a, h => by
    have h' := List.pairwise_cons.1 h
    cases hm : M j
    · rw [List.filter_cons_of_neg (p := M) (by simp [hm]), List.filter_cons_of_pos (p := fun j => !M j) (by simp [hm]), putAll_cons, putAll_cons]
      rw [putAll_split (M := M) L _ h'.2]
      rw [putAll_put (L.filter M) a (fun k hk t ht => h'.1 k (List.mem_filter.1 hk).1 t ht)]
    · rw [List.filter_cons_of_pos (p := M) (by simp [hm]), List.filter_cons_of_neg (p := fun j => !M j) (by simp [hm]), putAll_cons, putAll_cons]
      exact putAll_split (M := M) L _ h'.2

theorem wpOpIn_move {i : Nat} {o : Oper} (ho : ops[i]? = some o) (hfn : ∀ f, F.fn f) (hdf : ∀ c, o.op ≠ .defer c) {a b : Act} {w : World} {K : Act → World → Prop} {G : Value → World → Prop} (hsz : a.tmps.size = b.tmps.size)
    (he : execOp a.eval o = execOp b.eval o) (hw : Region.wanted o (yielded ops a.tmps) = Region.wanted o (yielded ops b.tmps))
    (h : wpOpIn F n P ops (fun _ _ _ => False) i (fun a' w' => ∃ v, a' = b.put o.dst v ∧ G v w') b w) (hK : ∀ v w', G v w' → K (a.put o.dst v) w') : wpOpIn F n P ops Q i K a w := by
  unfold wpOpIn at *
  simp only [ho] at *
  rw [hw]
  have fin : ∀ u w', (∃ v, b.put o.dst u = b.put o.dst v ∧ G v w') → K (a.put o.dst u) w' := fun u w' ⟨v, hv, hG⟩ => by rw [put_inj hsz hv]; exact hK v w' hG
  split
  · rename_i hwt
    simp only [hwt, if_true] at h
    unfold Oper.wpIn at *
    refine ⟨fun f _ => hfn f, ?_⟩
    have h := h.2
    rw [Oper.semAt_eq _ _ _ hdf] at h ⊢
    rw [he]
    generalize (execOp b.eval o).run P w = r at *
    cases r with
    | ok x w' =>
      cases x <;> simp only [Oper.uponIn] at h ⊢
      case value u => exact fin _ _ h
      case skip => exact fin _ _ h
      case defer d =>
        obtain ⟨v, hv, _⟩ := h
        have := congrArg Act.defers hv
        exfalso
        cases hd : o.dst <;> simp [hd, Act.put] at this
      case enter f args =>
        refine ⟨h.1, CallsIn.mono h.2 fun e w'' he => ?_⟩
        cases e with
        | returned u => exact fin _ _ he
        | panicked c => exact he.elim
        | outgrown => obtain ⟨_, _, h⟩ := he; exact h.elim
      case row row args => exact ⟨h.1, RowsIn.mono h.2 fun u w'' he => fin _ _ he⟩
      case round l f tmps assign body =>
        refine ⟨h.1, RoundIn.mono h.2 fun e w'' he => ?_⟩
        cases e with
        | returned u => exact fin _ _ he
        | panicked c => exact he.elim
        | outgrown => obtain ⟨_, _, h⟩ := he; exact h.elim
    | halt x w' => cases x <;> simp only [Oper.uponIn] at h ⊢
  · rename_i hwt
    simp only [hwt] at h
    exact ⟨fun f _ => hfn f, fin _ _ (by simpa using h.2)⟩

/-- Operation i must come behind operation d, which is still to come. -/
def directly (md : Region.Mode) (ops : Array Oper) (base : Array Bool) (d i : Nat) : Bool := !base.getD d true && waitsFor md ops d i
/-- Of the first k operations: which must come ahead of each. -/
def beforesTo (md : Region.Mode) (ops : Array Oper) (base : Array Bool) : Nat → List (List Nat)
  | 0 => []
  | k + 1 => beforesTo md ops base k ++ [if base.getD k true then [] else (List.range k).filter fun j => directly md ops base j k || (List.range k).any fun d => directly md ops base d k && ((beforesTo md ops base k).getD d []).contains j]

def rgOk (md : Region.Mode) (ops : Array Oper) (base : Array Bool) (pend : List Nat) (bf : List (List Nat)) : Bool :=
  ((List.range ops.size).filter fun i => !base.getD i true) == pend && base.size == ops.size &&
  (pend.all fun i =>
    ((ops[i]?).any fun o => (match o.op with | .select .. => false | .defer _ => false | _ => true) &&
      o.after.all fun e => !Region.binds md e || base.getD e.on false || (decide (e.on < i) && (bf.getD i []).contains e.on && (bf.getD e.on []).all fun k => (bf.getD i []).contains k)) &&
    ((bf.getD i []).all fun k => (ops[i]?).any fun o => o.after.any fun e => Region.binds md e && pend.contains e.on && (e.on == k || (bf.getD e.on []).contains k)) &&
    (pend.filter fun j => (bf.getD i []).contains j) == bf.getD i [] &&
    pend.all fun j => j == i || (((dstOf ops i).isNone || dstOf ops i != dstOf ops j) &&
      ((bf.getD i []).contains j || (bf.getD j []).contains i || (match dstOf ops j with | some d => ((ops[i]?).any fun o => !(o.looksAt ops).contains d) | none => true))))

/-- What 'rgOk' says. -/
structure RgOk (md : Region.Mode) (ops : Array Oper) (base : Array Bool) (pend : List Nat) (bf : Nat → List Nat) : Prop where
  nodup : pend.Nodup
  mem : ∀ i, i ∈ pend ↔ base.getD i true = false
  dst : ∀ i ∈ pend, ∀ j ∈ pend, j ≠ i → ∀ t, dstOf ops i = some t → dstOf ops j ≠ some t
  op : ∀ i ∈ pend, ∃ o, ops[i]? = some o ∧ (∀ cs b, o.op ≠ .select cs b) ∧ (∀ c, o.op ≠ .defer c) ∧ ∀ e ∈ o.after, Region.binds md e = true → base.getD e.on false = true ∨ (e.on < i ∧ e.on ∈ bf i ∧ ∀ k ∈ bf e.on, k ∈ bf i)
  bfs : ∀ i ∈ pend, pend.filter (fun j => (bf i).contains j) = bf i
  from' : ∀ i ∈ pend, ∀ k ∈ bf i, ∃ o, ops[i]? = some o ∧ ∃ e ∈ o.after, Region.binds md e = true ∧ e.on ∈ pend ∧ (e.on = k ∨ k ∈ bf e.on)
  free : ∀ i ∈ pend, ∀ j ∈ pend, j ≠ i → j ∉ bf i → i ∉ bf j → ∀ o, ops[i]? = some o → ∀ t, dstOf ops j = some t → t ∉ o.looksAt ops

theorem rgOk_spec {base : Array Bool} {pend : List Nat} {bf : List (List Nat)} (h : rgOk md ops base pend bf = true) : RgOk md ops base pend fun i => bf.getD i [] := by
  unfold rgOk at h
  simp only [Bool.and_eq_true, beq_iff_eq, List.all_eq_true] at h
  obtain ⟨⟨h1, hsz⟩, h2⟩ := h
  subst h1
  refine ⟨List.Pairwise.filter _ List.nodup_range, fun i => ?_, fun i hi j hj hne t ht hjt => ?_, fun i hi => ?_, fun i hi => (h2 i hi).1.2, fun i hi k hk => ?_, fun i hi j hj hne h3 h4 o ho t ht hm => ?_⟩
  · rw [List.mem_filter, List.mem_range]
    constructor
    · rintro ⟨_, h⟩; simpa using h
    · intro h
      refine ⟨?_, by simpa using h⟩
      rcases Nat.lt_or_ge i base.size with h' | h'
      · omega
      · simp [Array.getElem?_eq_none h'] at h
  · have h5 := (h2 i hi).2 j hj
    simp only [Bool.or_eq_true, beq_iff_eq, Bool.and_eq_true] at h5
    rcases h5 with h5 | ⟨h5 | h5, _⟩
    · exact hne h5
    · rw [ht] at h5; cases h5
    · rw [ht, hjt] at h5; simp at h5
  · have h5 := (h2 i hi).1.1.1
    cases ho : ops[i]? with
    | none => rw [ho] at h5; simp at h5
    | some o =>
      rw [ho] at h5
      simp only [Option.any_some, Bool.and_eq_true, Array.all_eq_true_iff_forall_mem, Bool.or_eq_true, Bool.not_eq_true'] at h5
      obtain ⟨h6, h7⟩ := h5
      refine ⟨o, rfl, fun cs b e => ?_, fun c e => ?_, fun e he hb => ?_⟩
      · rw [e] at h6; cases h6
      · rw [e] at h6; cases h6
      · rcases h7 e he with (h | h) | h
        · rw [hb] at h; cases h
        · exact .inl h
        · refine .inr ⟨by simpa using h.1.1, by simpa using h.1.2, fun k hk => ?_⟩
          have := List.all_eq_true.1 h.2 k hk
          simpa using this
  · have h5 := (h2 i hi).1.1.2 k hk
    cases ho : ops[i]? with
    | none => rw [ho] at h5; simp at h5
    | some o =>
      rw [ho] at h5
      simp only [Option.any_some, Array.any_eq_true] at h5
      obtain ⟨x, hx, h6⟩ := h5
      simp only [Bool.and_eq_true, Bool.or_eq_true, beq_iff_eq] at h6
      exact ⟨o, rfl, _, Array.getElem_mem hx, h6.1.1, by simpa using h6.1.2, h6.2.imp id (fun h => by simpa using h)⟩
  · have h5 := (h2 i hi).2 j hj
    simp only [Bool.or_eq_true, beq_iff_eq, Bool.and_eq_true] at h5
    rcases h5 with h5 | ⟨_, (h5 | h5) | h5⟩
    · exact hne h5
    · exact h3 (by simpa using h5)
    · exact h4 (by simpa using h5)
    · rw [ht, ho] at h5
      simp [hm] at h5

/-- THE LAW. R: what any number of steps leaves as it was; X i: what is asked of operation i's value, and of the world behind it. -/
theorem wpAnyIn_rg (hfn : ∀ f, F.fn f) {base : Array Bool} {pend : List Nat} {bf : Nat → List Nat} (hok : RgOk md ops base pend bf) {a0 : Act} {w0 : World} {R : World → World → Prop} {X : Nat → Value → World → Prop}
    (hRt : ∀ {A B C}, R A B → R B C → R A C) (hst : ∀ i ∈ pend, ∀ v A B, R w0 A → R A B → X i v A → X i v B)
    (hop : ∀ i ∈ pend, ∀ (vals : Nat → Value) w, R w0 w → (∀ j ∈ bf i, X j (vals j) w) → ∀ K : Act → World → Prop, (∀ o, ops[i]? = some o → ∀ v w', R w w' → X i v w' → K ((putAll ops vals (bf i) a0).put o.dst v) w') →
      wpOpIn F n P ops (fun _ _ _ => False) i K (putAll ops vals (bf i) a0) w)
    (hend : ∀ (vals : Nat → Value) w, R w0 w → (∀ j ∈ pend, X j (vals j) w) → Q .normal (putAll ops vals pend a0) w) :
    ∀ (fuel : Nat) (p : Nat → Bool) (listed : Array Bool) (vals : Nat → Value) (w : World), (∀ i, listed.getD i true = (base.getD i true || p i)) → (∀ i, listed.getD i false = (base.getD i false || (p i && pend.contains i))) →
      (pend.filter fun i => !p i).length ≤ fuel → (∀ i ∈ pend, p i = true → ∀ j ∈ bf i, p j = true) → R w0 w → (∀ j ∈ pend, p j = true → X j (vals j) w) →
      wpAnyIn F n P md ops Q fuel listed (putAll ops vals (pend.filter p) a0) w := by
  have hdone : ∀ (p : Nat → Bool) (vals : Nat → Value) (w : World), (∀ i ∈ pend, p i = true) → R w0 w → (∀ j ∈ pend, p j = true → X j (vals j) w) → Q .normal (putAll ops vals (pend.filter p) a0) w := fun p vals w hall hR hX => by
    have : pend.filter p = pend := List.filter_eq_self.2 hall
    rw [this]
    exact hend vals w hR (fun j hj => hX j hj (hall j hj))
  intro fuel
  induction fuel with
  | zero =>
    intro p listed vals w h1 h2 hf hcl hR hX
    have hall : ∀ i ∈ pend, p i = true := fun i hi => by
      cases hp : p i with
      | true => rfl
      | false =>
        have : i ∈ pend.filter fun i => !p i := List.mem_filter.2 ⟨hi, by simp [hp]⟩
        have h0 : (pend.filter fun i => !p i) = [] := List.eq_nil_of_length_eq_zero (by omega)
        rw [h0] at this
        cases this
    refine ⟨?_, hdone p vals w hall hR hX⟩
    rw [List.eq_nil_iff_forall_not_mem]
    intro i hi
    have h3 := (mem_ready.1 hi).1
    rw [h1] at h3
    simp only [Bool.or_eq_false_iff] at h3
    have := hall i ((hok.mem i).2 h3.1)
    rw [h3.2] at this
    cases this
  | succ fuel ih =>
    intro p listed vals w h1 h2 hf hcl hR hX
    refine ⟨fun h0 => hdone p vals w (fun i hi => ?_) hR hX, fun i hi => ?_⟩
    · -- what is still to come has a least one, which could come up
      induction i using Nat.strongRecOn with
      | _ i ihi =>
        cases hp : p i with
        | true => rfl
        | false =>
          exfalso
          obtain ⟨o, ho, _, _, hd⟩ := hok.op i hi
          have : i ∈ Region.ready md ops listed := by
            rw [mem_ready]
            refine ⟨by rw [h1, (hok.mem i).1 hi, hp]; rfl, o, ho, fun e he hb => ?_⟩
            rw [h2]
            rcases hd e he hb with h | ⟨hlt, hm, _⟩
            · rw [h]; rfl
            · have hmp : e.on ∈ pend := by
                rw [← hok.bfs i hi] at hm
                exact (List.mem_filter.1 hm).1
              have hpp := ihi e.on hlt hmp
              simp [hpp, hmp]
          rw [h0] at this
          cases this
    · obtain ⟨hl, o, ho, hdeps⟩ := mem_ready.1 hi
      have hl' := hl
      rw [h1] at hl'
      simp only [Bool.or_eq_false_iff] at hl'
      have hip : i ∈ pend := (hok.mem i).2 hl'.1
      obtain ⟨o', ho', hsel, hdf, _⟩ := hok.op i hip
      obtain rfl : o = o' := by rw [ho] at ho'; exact Option.some.inj ho'
      have hbp : ∀ k ∈ bf i, p k = true := fun k hk => by
        obtain ⟨o2, ho2, e, he, hb, hep, hk'⟩ := hok.from' i hip k hk
        obtain rfl : o = o2 := by rw [ho] at ho2; exact Option.some.inj ho2
        have h3 := hdeps e he hb
        rw [h2] at h3
        have h4 : base.getD e.on false = false := by
          have := (hok.mem e.on).1 hep
          rcases Nat.lt_or_ge e.on base.size with h' | h'
          · simp [h'] at this ⊢; exact this
          · simp [Array.getElem?_eq_none h'] at this
        rw [h4] at h3
        simp only [Bool.false_or, Bool.and_eq_true] at h3
        rcases hk' with rfl | hk'
        · exact h3.1
        · exact hcl e.on hep h3.1 k hk'
      have hsplit := putAll_split (ops := ops) (vals := vals) (M := fun j => (bf i).contains j) (pend.filter p) a0 (by
        refine List.Pairwise.imp_of_mem (R := fun a b => a ≠ b) (fun {a b} ha hb hne t ht => ?_) (hok.nodup.filter p)
        exact hok.dst a (List.mem_filter.1 ha).1 b (List.mem_filter.1 hb).1 (Ne.symm hne) t ht)
      have hfl : (pend.filter p).filter (fun j => (bf i).contains j) = bf i := by
        rw [← hok.bfs i hip, List.filter_filter]
        refine List.filter_congr fun j hj => ?_
        rw [hok.bfs i hip]
        cases hc : (bf i).contains j
        · simp
        · simp [hbp j (by simpa using hc)]
      rw [hfl] at hsplit
      obtain ⟨he, hw⟩ := execOp_putAll (ops := ops) o hsel (vals := vals) ((pend.filter p).filter fun j => !(bf i).contains j) (putAll ops vals (bf i) a0) (fun j hj t ht => by
        have hj1 := List.mem_filter.1 hj
        have hj2 := List.mem_filter.1 hj1.1
        have hji : j ≠ i := fun e => by rw [e, hl'.2] at hj2; exact absurd hj2.2 (by simp)
        refine hok.free i hip j hj2.1 hji (by simpa using hj1.2) (fun hib => ?_) o ho t ht
        have := hcl j hj2.1 hj2.2 i hib
        rw [hl'.2] at this
        cases this)
      rw [← hsplit] at he hw
      refine wpOpIn_move (G := fun v w' => R w w' ∧ X i v w') ho hfn hdf (by rw [putAll_size, putAll_size]) he hw (hop i hip vals w hR (fun j hj => hX j (by rw [← hok.bfs i hip] at hj; exact (List.mem_filter.1 hj).1) (hbp j hj)) _ (fun o2 ho2 v w' h3 h4 => by
        obtain rfl : o = o2 := by rw [ho] at ho2; exact Option.some.inj ho2
        exact ⟨v, rfl, h3, h4⟩)) ?_
      rintro v w' ⟨h3, h4⟩
      have hilt : i < listed.size := by
        rcases Nat.lt_or_ge i listed.size with h' | h'
        · exact h'
        · simp [Array.getElem?_eq_none h'] at hl
      have hact : (putAll ops vals (pend.filter p) a0).put o.dst v = putAll ops (fun j => if j = i then v else vals j) (pend.filter fun j => p j || j == i) a0 := by
        rw [putAll_insert pend a0 hok.nodup hip hl'.2 (fun j hj hne t ht => hok.dst i hip j hj hne t ht)]
        rw [putAll_congr (vals := fun j => if j = i then v else vals j) (vals' := vals) (pend.filter p) a0 (fun j hj => by
          have := (List.mem_filter.1 hj).2
          have hji : j ≠ i := fun e => by rw [e, hl'.2] at this; cases this
          simp [hji])]
        simp [dstOf, ho]
      rw [hact]
      refine ih (fun j => p j || j == i) _ _ w' (fun k => ?_) (fun k => ?_) ?_ (fun j hj hpj k hk => ?_) (hRt hR h3) (fun j hj hpj => ?_)
      · by_cases hk : k = i
        · subst hk; simp [hilt]
        · have hki : (k == i) = false := by simpa using hk
          rw [getD_set_ne true (Ne.symm hk), h1, hki, Bool.or_false]
      · by_cases hk : k = i
        · subst hk; simp [hilt, hip]
        · have hki : (k == i) = false := by simpa using hk
          rw [getD_set_ne false (Ne.symm hk), h2, hki, Bool.or_false]
      · have e1 : (pend.filter fun j => !(p j || j == i)) = (pend.filter fun j => !p j).filter (fun j => !(j == i)) := by
          rw [List.filter_filter]
          refine List.filter_congr fun j _ => ?_
          cases p j <;> cases (j == i) <;> rfl
        rw [e1]
        have := (List.length_filter_lt_length_iff_exists (p := fun j => !(j == i)) (l := pend.filter fun j => !p j)).2 ⟨i, List.mem_filter.2 ⟨hip, by simp [hl'.2]⟩, by simp⟩
        omega
      · simp only [Bool.or_eq_true, beq_iff_eq] at hpj ⊢
        rcases hpj with hpj | rfl
        · exact .inl (hcl j hj hpj k hk)
        · exact .inl (hbp k hk)
      · simp only [Bool.or_eq_true, beq_iff_eq] at hpj
        by_cases hji : j = i
        · subst hji; simpa using h4
        · simp only [hji, if_false]
          exact hst j hj _ _ _ hR h3 (hX j hj (hpj.resolve_right hji))
/-- The same at the wide fence, where a condition on the world is asked behind each operation. R: what any number of steps leaves as it was; X i: what is asked of operation i's value, and of the world behind it. -/
theorem wpAnyW_rg {S : World → Prop} {base : Array Bool} {pend : List Nat} {bf : Nat → List Nat} (hok : RgOk md ops base pend bf) {a0 : Act} {w0 : World} {R : World → World → Prop} {X : Nat → Value → World → Prop}
    (hRt : ∀ {A B C}, R A B → R B C → R A C) (hRS : ∀ w, R w0 w → S w) (hst : ∀ i ∈ pend, ∀ v A B, R w0 A → R A B → X i v A → X i v B)
    (hop : ∀ i ∈ pend, ∀ (vals : Nat → Value) w, R w0 w → (∀ j ∈ bf i, X j (vals j) w) → ∀ K : Act → World → Prop, (∀ o, ops[i]? = some o → ∀ v w', R w w' → X i v w' → K ((putAll ops vals (bf i) a0).put o.dst v) w') →
      wpOpIn Fence.wide n P ops (fun _ _ _ => False) i K (putAll ops vals (bf i) a0) w)
    (hend : ∀ (vals : Nat → Value) w, R w0 w → (∀ j ∈ pend, X j (vals j) w) → Q .normal (putAll ops vals pend a0) w) :
    ∀ (fuel : Nat) (p : Nat → Bool) (listed : Array Bool) (vals : Nat → Value) (w : World), (∀ i, listed.getD i true = (base.getD i true || p i)) → (∀ i, listed.getD i false = (base.getD i false || (p i && pend.contains i))) →
      (pend.filter fun i => !p i).length ≤ fuel → (∀ i ∈ pend, p i = true → ∀ j ∈ bf i, p j = true) → R w0 w → (∀ j ∈ pend, p j = true → X j (vals j) w) →
      wpAnyW P n md ops Q S fuel listed (putAll ops vals (pend.filter p) a0) w := by
  have hdone : ∀ (p : Nat → Bool) (vals : Nat → Value) (w : World), (∀ i ∈ pend, p i = true) → R w0 w → (∀ j ∈ pend, p j = true → X j (vals j) w) → Q .normal (putAll ops vals (pend.filter p) a0) w := fun p vals w hall hR hX => by
    have : pend.filter p = pend := List.filter_eq_self.2 hall
    rw [this]
    exact hend vals w hR (fun j hj => hX j hj (hall j hj))
  intro fuel
  induction fuel with
  | zero =>
    intro p listed vals w h1 h2 hf hcl hR hX
    have hall : ∀ i ∈ pend, p i = true := fun i hi => by
      cases hp : p i with
      | true => rfl
      | false =>
        have : i ∈ pend.filter fun i => !p i := List.mem_filter.2 ⟨hi, by simp [hp]⟩
        have h0 : (pend.filter fun i => !p i) = [] := List.eq_nil_of_length_eq_zero (by omega)
        rw [h0] at this
        cases this
    refine ⟨?_, hdone p vals w hall hR hX⟩
    rw [List.eq_nil_iff_forall_not_mem]
    intro i hi
    have h3 := (mem_ready.1 hi).1
    rw [h1] at h3
    simp only [Bool.or_eq_false_iff] at h3
    have := hall i ((hok.mem i).2 h3.1)
    rw [h3.2] at this
    cases this
  | succ fuel ih =>
    intro p listed vals w h1 h2 hf hcl hR hX
    refine ⟨fun h0 => hdone p vals w (fun i hi => ?_) hR hX, fun i hi => ?_⟩
    · -- what is still to come has a least one, which could come up
      induction i using Nat.strongRecOn with
      | _ i ihi =>
        cases hp : p i with
        | true => rfl
        | false =>
          exfalso
          obtain ⟨o, ho, _, _, hd⟩ := hok.op i hi
          have : i ∈ Region.ready md ops listed := by
            rw [mem_ready]
            refine ⟨by rw [h1, (hok.mem i).1 hi, hp]; rfl, o, ho, fun e he hb => ?_⟩
            rw [h2]
            rcases hd e he hb with h | ⟨hlt, hm, _⟩
            · rw [h]; rfl
            · have hmp : e.on ∈ pend := by
                rw [← hok.bfs i hi] at hm
                exact (List.mem_filter.1 hm).1
              have hpp := ihi e.on hlt hmp
              simp [hpp, hmp]
          rw [h0] at this
          cases this
    · obtain ⟨hl, o, ho, hdeps⟩ := mem_ready.1 hi
      have hl' := hl
      rw [h1] at hl'
      simp only [Bool.or_eq_false_iff] at hl'
      have hip : i ∈ pend := (hok.mem i).2 hl'.1
      obtain ⟨o', ho', hsel, hdf, _⟩ := hok.op i hip
      obtain rfl : o = o' := by rw [ho] at ho'; exact Option.some.inj ho'
      have hbp : ∀ k ∈ bf i, p k = true := fun k hk => by
        obtain ⟨o2, ho2, e, he, hb, hep, hk'⟩ := hok.from' i hip k hk
        obtain rfl : o = o2 := by rw [ho] at ho2; exact Option.some.inj ho2
        have h3 := hdeps e he hb
        rw [h2] at h3
        have h4 : base.getD e.on false = false := by
          have := (hok.mem e.on).1 hep
          rcases Nat.lt_or_ge e.on base.size with h' | h'
          · simp [h'] at this ⊢; exact this
          · simp [Array.getElem?_eq_none h'] at this
        rw [h4] at h3
        simp only [Bool.false_or, Bool.and_eq_true] at h3
        rcases hk' with rfl | hk'
        · exact h3.1
        · exact hcl e.on hep h3.1 k hk'
      have hsplit := putAll_split (ops := ops) (vals := vals) (M := fun j => (bf i).contains j) (pend.filter p) a0 (by
        refine List.Pairwise.imp_of_mem (R := fun a b => a ≠ b) (fun {a b} ha hb hne t ht => ?_) (hok.nodup.filter p)
        exact hok.dst a (List.mem_filter.1 ha).1 b (List.mem_filter.1 hb).1 (Ne.symm hne) t ht)
      have hfl : (pend.filter p).filter (fun j => (bf i).contains j) = bf i := by
        rw [← hok.bfs i hip, List.filter_filter]
        refine List.filter_congr fun j hj => ?_
        rw [hok.bfs i hip]
        cases hc : (bf i).contains j
        · simp
        · simp [hbp j (by simpa using hc)]
      rw [hfl] at hsplit
      obtain ⟨he, hw⟩ := execOp_putAll (ops := ops) o hsel (vals := vals) ((pend.filter p).filter fun j => !(bf i).contains j) (putAll ops vals (bf i) a0) (fun j hj t ht => by
        have hj1 := List.mem_filter.1 hj
        have hj2 := List.mem_filter.1 hj1.1
        have hji : j ≠ i := fun e => by rw [e, hl'.2] at hj2; exact absurd hj2.2 (by simp)
        refine hok.free i hip j hj2.1 hji (by simpa using hj1.2) (fun hib => ?_) o ho t ht
        have := hcl j hj2.1 hj2.2 i hib
        rw [hl'.2] at this
        cases this)
      rw [← hsplit] at he hw
      refine wpOpIn_move (G := fun v w' => R w w' ∧ X i v w') ho (fun _ => trivial) hdf (by rw [putAll_size, putAll_size]) he hw (hop i hip vals w hR (fun j hj => hX j (by rw [← hok.bfs i hip] at hj; exact (List.mem_filter.1 hj).1) (hbp j hj)) _ (fun o2 ho2 v w' h3 h4 => by
        obtain rfl : o = o2 := by rw [ho] at ho2; exact Option.some.inj ho2
        exact ⟨v, rfl, h3, h4⟩)) ?_
      rintro v w' ⟨h3, h4⟩
      have hilt : i < listed.size := by
        rcases Nat.lt_or_ge i listed.size with h' | h'
        · exact h'
        · simp [Array.getElem?_eq_none h'] at hl
      have hact : (putAll ops vals (pend.filter p) a0).put o.dst v = putAll ops (fun j => if j = i then v else vals j) (pend.filter fun j => p j || j == i) a0 := by
        rw [putAll_insert pend a0 hok.nodup hip hl'.2 (fun j hj hne t ht => hok.dst i hip j hj hne t ht)]
        rw [putAll_congr (vals := fun j => if j = i then v else vals j) (vals' := vals) (pend.filter p) a0 (fun j hj => by
          have := (List.mem_filter.1 hj).2
          have hji : j ≠ i := fun e => by rw [e, hl'.2] at this; cases this
          simp [hji])]
        simp [dstOf, ho]
      refine ⟨hRS _ (hRt hR h3), ?_⟩
      rw [hact]
      refine ih (fun j => p j || j == i) _ _ w' (fun k => ?_) (fun k => ?_) ?_ (fun j hj hpj k hk => ?_) (hRt hR h3) (fun j hj hpj => ?_)
      · by_cases hk : k = i
        · subst hk; simp [hilt]
        · have hki : (k == i) = false := by simpa using hk
          rw [getD_set_ne true (Ne.symm hk), h1, hki, Bool.or_false]
      · by_cases hk : k = i
        · subst hk; simp [hilt, hip]
        · have hki : (k == i) = false := by simpa using hk
          rw [getD_set_ne false (Ne.symm hk), h2, hki, Bool.or_false]
      · have e1 : (pend.filter fun j => !(p j || j == i)) = (pend.filter fun j => !p j).filter (fun j => !(j == i)) := by
          rw [List.filter_filter]
          refine List.filter_congr fun j _ => ?_
          cases p j <;> cases (j == i) <;> rfl
        rw [e1]
        have := (List.length_filter_lt_length_iff_exists (p := fun j => !(j == i)) (l := pend.filter fun j => !p j)).2 ⟨i, List.mem_filter.2 ⟨hip, by simp [hl'.2]⟩, by simp⟩
        omega
      · simp only [Bool.or_eq_true, beq_iff_eq] at hpj ⊢
        rcases hpj with hpj | rfl
        · exact .inl (hcl j hj hpj k hk)
        · exact .inl (hbp k hk)
      · simp only [Bool.or_eq_true, beq_iff_eq] at hpj
        by_cases hji : j = i
        · subst hji; simpa using h4
        · simp only [hji, if_false]
          exact hst j hj _ _ _ hR h3 (hX j hj (hpj.resolve_right hji))

/-- The law, begun. -/
theorem wpAnyW_rg' {S : World → Prop} {base : Array Bool} (pend : List Nat) (bf : List (List Nat)) (hok : rgOk md ops base pend bf = true) {a0 : Act} {w0 : World} (R : World → World → Prop) (X : Nat → Value → World → Prop)
    (hRt : ∀ {A B C}, R A B → R B C → R A C) (hR0 : R w0 w0) (hRS : ∀ w, R w0 w → S w) (hst : ∀ i ∈ pend, ∀ v A B, R w0 A → R A B → X i v A → X i v B)
    (hop : ∀ i ∈ pend, ∀ (vals : Nat → Value) w, R w0 w → (∀ j ∈ bf.getD i [], X j (vals j) w) → ∀ K : Act → World → Prop, (∀ o, ops[i]? = some o → ∀ v w', R w w' → X i v w' → K ((putAll ops vals (bf.getD i []) a0).put o.dst v) w') →
      wpOpIn Fence.wide n P ops (fun _ _ _ => False) i K (putAll ops vals (bf.getD i []) a0) w)
    (hend : ∀ (vals : Nat → Value) w, R w0 w → (∀ j ∈ pend, X j (vals j) w) → Q .normal (putAll ops vals pend a0) w) {fuel : Nat} (hfu : pend.length ≤ fuel) : wpAnyW P n md ops Q S fuel base a0 w0 := by
  have h := wpAnyW_rg (Q := Q) (S := S) (n := n) (P := P) (R := R) (X := X) (rgOk_spec hok) hRt hRS hst hop hend fuel (fun _ => false) base (fun _ => undef) w0 (fun i => by simp) (fun i => by simp) (Nat.le_trans (List.length_filter_le _ _) hfu) (fun i _ h => by cases h) hR0 (fun j _ h => by cases h)
  have e : (pend.filter fun _ => false) = [] := by simp
  rw [e] at h
  exact h

theorem rg_do {K : Act → World → Prop} {a : Act} {w : World} {i : Nat} (hg : ((ops[i]?).map fun o => Region.wanted o (yielded ops a.tmps)) = some true)
    (h : ∀ o, ops[i]? = some o → Oper.wpIn Fence.wide n P o a w K (fun _ _ _ => False)) : wpOpIn Fence.wide n P ops (fun _ _ _ => False) i K a w := by
  unfold wpOpIn
  cases ho : ops[i]? with
  | none => rw [ho] at hg; simp at hg
  | some o =>
    rw [ho] at hg
    simp at hg
    simp only [if_pos hg]
    exact h o ho
theorem rg_skip {K : Act → World → Prop} {a : Act} {w : World} {i : Nat} (hg : ((ops[i]?).map fun o => Region.wanted o (yielded ops a.tmps)) = some false)
    (h : ∀ o, ops[i]? = some o → K (a.put o.dst undef) w) : wpOpIn Fence.wide n P ops (fun _ _ _ => False) i K a w := by
  unfold wpOpIn
  cases ho : ops[i]? with
  | none => rw [ho] at hg; simp at hg
  | some o =>
    rw [ho] at hg
    simp at hg
    simp only [hg, Bool.false_eq_true, if_false]
    exact ⟨fun _ _ => trivial, h o ho⟩

/-- Where no operation panics. -/
def onNormal (Q : Exit → Act → World → Prop) : Exit → Act → World → Prop
  | .normal, a, w => Q .normal a w
  | _, _, _ => False
theorem onNormal_imp : ∀ (e : Exit) (a : Act) (w : World), onNormal Q e a w → Q e a w := fun e a w h => by
  cases e with
  | normal => exact h
  | _ => exact h.elim
theorem wpIn_region_Wn {S : World → Prop} {id : Nat} {a : Act} {w : World} (k : Nat) (hn : ops.size = k) (hm : P.follows .mixedOrders = true) (hS : S w.drew)
    (h : S w.drew → wpAnyW P n .any ops (onNormal Q) S k (Array.replicate k false) a w.drew) : (Code.region id ops true).wpIn Fence.wide n P Q a w :=
  wpIn_mono (wpIn_region_W k hn hm hS h) onNormal_imp
theorem wpIn_region_Vn {S : World → Prop} {B : List Nat} {id : Nat} {a : Act} {w : World} (k : Nat) (hn : ops.size = k) (hm : P.follows .mixedOrders = true) (hS : S w.drew)
    (h : S w.drew → wpAnyV P n .any ops (onNormal Q) S B k (Array.replicate k false) a w.drew) : (Code.region id ops true).wpIn Fence.wide n P Q a w :=
  wpIn_mono (wpIn_region_V k hn hm hS h) onNormal_imp
end
end Go.Proofs.Ytacioedolmaofaa
