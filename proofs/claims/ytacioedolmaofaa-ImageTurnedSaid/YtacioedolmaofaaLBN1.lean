/- The reference's ways, plain: from some trails on, by three numbers. Plain Lean: what the law ImageFew asks of the first way with the fewest flaws. Plain Lean: ways as sets of trails; which trails some way has; where a star is. Plain Lean: what the law ImageOpen asks. Plain Lean: what the law ImageMore asks. Plain Lean: sheets whose images are told in another order, and farther to one side: what is told of them. -/
import Derived.Test.YtacioedolmaofaaLBA13
import Derived.Test.YtacioedolmaofaaLBA20
import Derived.Test.YtacioedolmaofaaLBA21
import Derived.Test.YtacioedolmaofaaLBA24
import Derived.Test.YtacioedolmaofaaLBA23
namespace Go.Proofs.Ytacioedolmaofaa
set_option linter.unusedVariables false
set_option maxRecDepth 100000

/-- Does a trail not go on? -/
def bad14 (l : List ITr) (n : Nat) (t : ITr) : Bool := !t.ok n || usedIn l t.a || (decide (t.b ≠ -1) && usedIn l t.b) || (decide (t.c ≠ -1) && usedIn l t.c)
def wR (s : ISheet) (F : Int) (l : List ITr) (fr : Int) : List (List ITr) := (waysOf s.trails s.l.length F (s.l.length + 1) fr (ownAll l)).map (l ++ ·)
def wLeaf (s : ISheet) (F : Int) (l : List ITr) : List (List ITr) := if (flawN l s.l.length : Int) ≤ F then [l] else []
def wStep (s : ISheet) (F : Int) (l : List ITr) (t : ITr) : List (List ITr) := if bad14 l s.l.length t then [] else if (s.star t).isSome then wR s F (l ++ [t]) (t.a + 1) else []
def wC (s : ISheet) (F : Int) (l : List ITr) (a b : Int) (k : Nat) : List (List ITr) := (List.range k).flatMap fun (j : Nat) => wStep s F l ⟨a, b, (j : Int) - 1⟩
def wB (s : ISheet) (F : Int) (l : List ITr) (a : Int) (k : Nat) : List (List ITr) := (List.range k).flatMap fun (j : Nat) => wC s F l a ((j : Int) - 1) (s.l.length + 1)
def wA (s : ISheet) (F : Int) (l : List ITr) (fr : Int) (k : Nat) : List (List ITr) := (List.range k).flatMap fun (j : Nat) => if fr ≤ (j : Int) then wB s F l (j : Int) (s.l.length + 1) else []

theorem wC_succ (s : ISheet) (F : Int) (l : List ITr) (a b : Int) (k : Nat) : wC s F l a b (k + 1) = wC s F l a b k ++ wStep s F l ⟨a, b, (k : Int) - 1⟩ := by
  simp only [wC, List.range_succ, List.flatMap_append, List.flatMap_cons, List.flatMap_nil, List.append_nil]
theorem wB_succ (s : ISheet) (F : Int) (l : List ITr) (a : Int) (k : Nat) : wB s F l a (k + 1) = wB s F l a k ++ wC s F l a ((k : Int) - 1) (s.l.length + 1) := by
  simp only [wB, List.range_succ, List.flatMap_append, List.flatMap_cons, List.flatMap_nil, List.append_nil]
theorem wA_succ (s : ISheet) (F : Int) (l : List ITr) (fr : Int) (k : Nat) (h : fr ≤ (k : Int)) : wA s F l fr (k + 1) = wA s F l fr k ++ wB s F l (k : Int) (s.l.length + 1) := by
  simp only [wA, List.range_succ, List.flatMap_append, List.flatMap_cons, List.flatMap_nil, List.append_nil, if_pos h]
theorem wA_start (s : ISheet) (F : Int) (l : List ITr) (fr : Nat) : wA s F l (fr : Int) fr = [] := by
  unfold wA
  rw [List.flatMap_eq_nil_iff]
  intro j hj
  have := List.mem_range.1 hj
  rw [if_neg (by omega)]
theorem range_mono {α : Type} (f : Nat → List α) {i j : Nat} (h : i ≤ j) : ((List.range i).flatMap f).length ≤ ((List.range j).flatMap f).length := by
  induction j with
  | zero => have : i = 0 := by omega
            rw [this]; exact Nat.le_refl _
  | succ j ih =>
    by_cases e : i = j + 1
    · rw [e]; exact Nat.le_refl _
    · have := ih (by omega)
      rw [List.range_succ, List.flatMap_append, List.length_append]
      omega

theorem flawN_notIn {n : Nat} (l : List ITr) (h : ∀ t ∈ l, t.wf n) : ∀ k, flawN l k = notIn (ownAll l) k
  | 0 => rfl
  | k + 1 => by
    have e : flawN l (k + 1) = flawN l k + if usedIn l (k : Int) then 0 else 1 := rfl
    rw [e, notIn_succ, flawN_notIn l h k, usedIn_bit l h k]
theorem wleaf_eq (s : ISheet) (F : Int) (l : List ITr) (hn : s.l.length ≤ 9) (hl : ∀ t ∈ l, t.wf s.l.length) : (leafWays s.l.length F (ownAll l)).map (l ++ ·) = wLeaf s F l := by
  unfold leafWays wLeaf
  rw [flawN_notIn l hl, flaws_eq hn (ownAll_ltn l hl)]
  split
  · simp
  · rfl
theorem bad14_free {l : List ITr} {n : Nat} {t : ITr} (hl : ∀ t ∈ l, t.wf n) (ht : t.ok n = true) : bad14 l n t = !(t.own &&& ownAll l == 0) := by
  have hw := ITr.wf_of ht
  rw [free_iff hw]
  unfold bad14
  rw [ht]
  have hf : ∀ i : Int, (i = -1 ∨ (0 ≤ i ∧ i < n)) → freeOf (ownAll l) i = !(decide (i ≠ -1) && usedIn l i) := fun i hi => by
    unfold freeOf
    rcases hi with rfl | ⟨h0, _⟩
    · simp
    · obtain ⟨m, rfl⟩ := Int.eq_ofNat_of_zero_le h0
      rw [usedIn_bit l hl m]
      have : ((m : Int) ≠ -1) := by omega
      simp [this]
  rw [hf _ (.inr hw.a), hf _ hw.b, hf _ hw.c]
  have ha : (t.a ≠ -1) := by have := hw.a; omega
  rw [decide_eq_true ha, Bool.true_and]
  generalize usedIn l t.a = x
  generalize (decide (t.b ≠ -1) && usedIn l t.b) = y
  generalize (decide (t.c ≠ -1) && usedIn l t.c) = z
  cases x <;> cases y <;> cases z <;> rfl
theorem wstep_eq (s : ISheet) (F : Int) (l : List ITr) (hn : s.l.length ≤ 9) (hl : ∀ t ∈ l, t.wf s.l.length) (t : ITr) : (s.with' F s.l.length (ownAll l) t).map (l ++ ·) = wStep s F l t := by
  unfold ISheet.with' wStep ISheet.can
  cases ht : t.ok s.l.length
  · have hb : bad14 l s.l.length t = true := by unfold bad14; rw [ht]; rfl
    rw [if_pos hb, Bool.false_and, Bool.false_and, if_neg (by simp)]
    rfl
  · rw [bad14_free hl ht]
    cases hf : (t.own &&& ownAll l == 0)
    · simp
    · cases hs : (s.star t).isSome
      · simp
      · have hw := ITr.wf_of ht
        have h0 := hw.a
        rw [Bool.true_and, Bool.true_and, if_pos rfl, if_neg (by simp), if_pos rfl]
        unfold wR
        rw [ways_fuel F (fun t ht => (trails_wf t ht).a.2) s.l.length (s.l.length + 1) (t.a + 1) _ (by omega) (by omega), ownAll_snoc, List.map_map]
        refine List.map_congr_left fun w _ => ?_
        simp
theorem wR_eq (s : ISheet) (F : Int) (l : List ITr) (hn : s.l.length ≤ 9) (hl : ∀ t ∈ l, t.wf s.l.length) (fr : Int) : wR s F l fr = wLeaf s F l ++ wA s F l fr s.l.length := by
  unfold wR
  rw [ways_by, List.map_append, wleaf_eq s F l hn hl, List.map_flatMap]
  congr 1
  unfold wA List.flatMap
  congr 1
  refine List.map_congr_left fun j _ => ?_
  split
  · unfold wB fromNo
    show List.map _ (List.flatMap _ _) = List.flatMap _ _
    rw [List.map_flatMap, List.flatMap_map]
    unfold List.flatMap
    congr 1
    refine List.map_congr_left fun k _ => ?_
    unfold wC
    show List.map _ (List.flatMap _ _) = List.flatMap _ _
    rw [List.map_flatMap, List.flatMap_map]
    unfold List.flatMap
    congr 1
    refine List.map_congr_left fun m _ => ?_
    exact wstep_eq s F l hn hl _
  · rfl
theorem wR_len (s : ISheet) (F : Int) (l : List ITr) (hn : s.l.length ≤ 9) (fr : Int) (h0 : 0 ≤ fr) : (wR s F l fr).length ≤ 101 ^ ((s.l.length : Int) - fr).toNat := by
  have hT := trailsOk s hn
  unfold wR
  rw [List.length_map, ways_fuel F (fun t ht => (trails_wf t ht).a.2) (s.l.length + 1) s.l.length fr _ (by omega) (by omega), ← aggOf_many s.l.length (ownAll l), ← tell_agg s.trails s.l.length F (trails_own hn) s.l.length fr _ (Nat.le_refl _)]
  exact tell_many F (fun t ht => (hT.wf t ht).a.2) hT.cnt _ _ _
/-- What is gathered stays below all ways. -/
theorem w_next (s : ISheet) (F : Int) (l : List ITr) (hn : s.l.length ≤ 9) (hl : ∀ t ∈ l, t.wf s.l.length) (fr : Int) (k kb kc : Nat) (hf : fr ≤ (k : Int)) (hk : k < s.l.length) (hb : kb < s.l.length + 1) (hc : kc < s.l.length + 1) :
    (wLeaf s F l ++ wA s F l fr k ++ wB s F l k kb ++ wC s F l k ((kb : Int) - 1) kc).length + (wStep s F l ⟨(k : Int), (kb : Int) - 1, (kc : Int) - 1⟩).length ≤ (wR s F l fr).length := by
  rw [wR_eq s F l hn hl]
  have h1 : (wA s F l fr (k + 1)).length ≤ (wA s F l fr s.l.length).length := range_mono _ (by omega)
  have h2 : (wB s F l (k : Int) (kb + 1)).length ≤ (wB s F l (k : Int) (s.l.length + 1)).length := range_mono _ (by omega)
  have h3 : (wC s F l (k : Int) ((kb : Int) - 1) (kc + 1)).length ≤ (wC s F l (k : Int) ((kb : Int) - 1) (s.l.length + 1)).length := range_mono _ (by omega)
  rw [wA_succ s F l fr k hf, List.length_append] at h1
  rw [wB_succ, List.length_append] at h2
  rw [wC_succ, List.length_append] at h3
  rw [List.length_append, List.length_append, List.length_append, List.length_append]
  omega
end Go.Proofs.Ytacioedolmaofaa
namespace Go.Proofs.Ytacioedolmaofaa
set_option linter.unusedVariables false
set_option maxRecDepth 100000

/-- From which image on trails go on behind these. -/
def endOf : Int → List ITr → Int
  | fr, [] => fr
  | _, t::w => endOf (t.a + 1) w
theorem endOf_snoc (t : ITr) : ∀ (fr : Int) (w : List ITr), endOf fr (w ++ [t]) = t.a + 1
  | _, [] => rfl
  | _, u::w => endOf_snoc t (u.a + 1) w
theorem endOf_le {k : Int} : ∀ (fr : Int) (w : List ITr), fr ≤ k → (∀ t ∈ w, t.a < k) → endOf fr w ≤ k
  | _, [], h, _ => h
  | _, t::w, _, hw => endOf_le (t.a + 1) w (by have := hw t (by simp); omega) (fun x hx => hw x (by simp [hx]))
theorem ownAll_cons (t : ITr) (w : List ITr) : ownAll (t::w) = t.own ||| ownAll w := rfl
theorem goes_append (T : List ITr) (v : List ITr) : ∀ (u : List ITr) (fr : Int) (used : Nat), Goes T fr used (u ++ v) ↔ Goes T fr used u ∧ Goes T (endOf fr u) (used ||| ownAll u) v
  | [], fr, used => by
    show Goes T fr used v ↔ True ∧ Goes T fr (used ||| 0) v
    rw [Nat.or_zero]
    simp
  | t::u, fr, used => by
    show (t ∈ nextOf T fr used ∧ Goes T (t.a + 1) (used ||| t.own) (u ++ v)) ↔ (t ∈ nextOf T fr used ∧ Goes T (t.a + 1) (used ||| t.own) u) ∧ Goes T (endOf (t.a + 1) u) (used ||| ownAll (t::u)) v
    rw [goes_append T v u, ownAll_cons, Nat.or_assoc, and_assoc]
theorem goes_snoc {T : List ITr} {w : List ITr} {t : ITr} {fr : Int} {used : Nat} : Goes T fr used (w ++ [t]) ↔ Goes T fr used w ∧ t ∈ nextOf T (endOf fr w) (used ||| ownAll w) := by
  rw [goes_append]
  show _ ∧ (_ ∧ True) ↔ _
  rw [and_true]
theorem goes_get {T : List ITr} {w : List ITr} {fr : Int} {used : Nat} (h : Goes T fr used w) (i : Nat) (hi : i < w.length) : w[i] ∈ nextOf T (endOf fr (w.take i)) (used ||| ownAll (w.take i)) := by
  have e : w.take (i + 1) = w.take i ++ [w[i]] := List.take_succ_eq_append_getElem hi
  have h2 : Goes T fr used (w.take (i + 1) ++ w.drop (i + 1)) := by rw [List.take_append_drop]; exact h
  rw [goes_append, e, goes_snoc] at h2
  exact h2.1.2
theorem goes_mem {T : List ITr} : ∀ {w : List ITr} {fr : Int} {used : Nat}, Goes T fr used w → ∀ t ∈ w, t ∈ T
  | t::w, fr, used, h, x, hx => by
    rcases List.mem_cons.1 hx with rfl | hx
    · exact (mem_next.1 h.1).1
    · exact goes_mem h.2 x hx
theorem goes_rising {T : List ITr} {w : List ITr} {fr : Int} {used : Nat} (h : Goes T fr used w) (i : Nat) (hi : i + 1 < w.length) : w[i].a < w[i + 1].a := by
  have h2 := (mem_next.1 (goes_get h (i + 1) hi)).2.1
  rw [List.take_succ_eq_append_getElem (by omega), endOf_snoc] at h2
  omega
theorem goes_disj {T : List ITr} {n : Nat} (hT : ∀ t ∈ T, t.wf n) {w : List ITr} {fr : Int} (h : Goes T fr 0 w) (i : Nat) (hi : i < w.length) (m : Int) (hm : m = w[i].a ∨ m = w[i].b ∨ m = w[i].c) (h1 : m ≠ -1) : usedIn (w.take i) m = false := by
  obtain ⟨hin, _, h2⟩ := mem_next.1 (goes_get h i hi)
  have hw := hT _ hin
  rw [Nat.zero_or] at h2
  have h0 : 0 ≤ m := by
    rcases hm with e | e | e
    · rw [e]; exact hw.a.1
    · rw [e]; rcases hw.b with hb | hb
      · omega
      · exact hb.1
    · rw [e]; rcases hw.c with hb | hb
      · omega
      · exact hb.1
  obtain ⟨k, rfl⟩ := Int.eq_ofNat_of_zero_le h0
  rw [usedIn_bit (n := n) (w.take i) (fun t ht => hT t (goes_mem h t (List.mem_of_mem_take ht))) k]
  exact (and_zero_iff _ _).1 h2 k ((hw.own_bit k).2 (by rcases hm with e | e | e <;> simp [← e]))
theorem flawN_flawsW {n : Nat} (hn : n ≤ 9) (l : List ITr) (hl : ∀ t ∈ l, t.wf n) : (flawN l n : Int) = flawsW n 0 l := by
  unfold flawsW
  rw [flawN_notIn l hl, flaws_eq hn (ownAll_ltn l hl), Nat.zero_or]

theorem needs_all {T : List ITr} {n : Nat} (hT : TP T n) : (tellN T n n 0 0).many ≠ 0 := (many_iff (n : Int) hT 0 (by omega) 0).2 ⟨[], trivial, flawsW_le n 0 []⟩
/-- How many flaws there must be. -/
structure NeedsAre (s : ISheet) (m : Int) : Prop where
  ge : 0 ≤ m
  le : m ≤ s.l.length
  one : ∃ w, Goes s.trails 0 0 w ∧ flawsW s.l.length 0 w = m
  min : ∀ w, Goes s.trails 0 0 w → m ≤ flawsW s.l.length 0 w
theorem flawsW_ge {s : ISheet} (hn : s.l.length ≤ 9) {w : List ITr} (hw : ∀ t ∈ w, t ∈ s.trails) : 0 ≤ flawsW s.l.length 0 w := by
  rw [← flawN_flawsW hn w (fun t ht => trails_wf t (hw t ht))]
  omega
theorem needsAre {s : ISheet} (hn : s.l.length ≤ 9) : NeedsAre s (tellN s.trails s.l.length s.l.length 0 0).flaws := by
  obtain ⟨h1, h2, h3⟩ := flaws_min (s.l.length : Int) (tp_of hn) 0 (by omega) 0 (needs_all (tp_of hn))
  refine ⟨?_, h2, h1, h3⟩
  obtain ⟨w, hw, e⟩ := h1
  rw [← e]
  exact flawsW_ge hn (goes_mem hw)
theorem way_iff {s : ISheet} (hn : s.l.length ≤ 9) : (wayTold s).many ≠ 0 ↔ (tellN s.trails s.l.length s.l.length 0 0).flaws ≤ s.flaws := by
  have hN := needsAre hn
  unfold wayTold
  rw [many_iff s.flaws (tp_of hn) 0 (by omega) 0]
  constructor
  · rintro ⟨w, hw, hF⟩
    have := hN.min w hw
    omega
  · intro h
    obtain ⟨w, hw, e⟩ := hN.one
    exact ⟨w, hw, by rw [e]; exact h⟩
theorem way_flaws {s : ISheet} (hn : s.l.length ≤ 9) (h : (wayTold s).many ≠ 0) : (wayTold s).flaws = (tellN s.trails s.l.length s.l.length 0 0).flaws := by
  obtain ⟨⟨w, h1, e1⟩, h2, h3⟩ := flaws_min s.flaws (tp_of hn) 0 (by omega) 0 h
  obtain ⟨⟨u, h4, e4⟩, h5, h6⟩ := flaws_min (s.l.length : Int) (tp_of hn) 0 (by omega) 0 (needs_all (tp_of hn))
  have := h3 u h4
  have := h6 w h1
  unfold wayTold
  omega

/-- What ImageFew asks of the way that is told. -/
structure FewIs (s : ISheet) (l : List ITr) (m : Int) : Prop where
  goes : Goes s.trails 0 0 l
  flaws : (flawN l s.l.length : Int) = m
  other : ∀ w, Goes s.trails 0 0 w → m ≤ flawN w s.l.length ∧ ((flawN w s.l.length : Int) = m → before l w = true)
theorem fewIs {s : ISheet} (hn : s.l.length ≤ 9) (h : (wayTold s).many ≠ 0) : FewIs s (fewW s.trails s.l.length (wayTold s).flaws 10 0 0) (tellN s.trails s.l.length s.l.length 0 0).flaws := by
  have hN := needsAre hn
  rw [way_flaws hn h]
  generalize (tellN s.trails s.l.length s.l.length 0 0).flaws = m at hN
  obtain ⟨w, hw, e⟩ := hN.one
  obtain ⟨h1, h2, h3⟩ := few_spec (tp_of hn) (trails_sorted s) 9 0 0 (by omega) (by omega) ⟨w, hw, by omega⟩ hN.min
  have hf : ∀ w, Goes s.trails 0 0 w → (flawN w s.l.length : Int) = flawsW s.l.length 0 w := fun w hw => flawN_flawsW hn w (fun t ht => trails_wf t (goes_mem hw t ht))
  refine ⟨h1, by rw [hf _ h1]; exact h2, fun w hw => ?_⟩
  rw [hf _ hw]
  exact ⟨hN.min w hw, h3 w hw⟩
theorem mem_trails {s : ISheet} {t : ITr} : t ∈ s.trails ↔ t.ok s.l.length = true ∧ (s.star t).isSome = true := by
  constructor
  · intro ht
    unfold ISheet.trails at ht
    rw [List.mem_flatMap] at ht
    obtain ⟨a, _, ht⟩ := ht
    rw [List.mem_flatMap] at ht
    obtain ⟨b, _, ht⟩ := ht
    have := (List.mem_filter.1 ht).2
    rwa [Bool.and_eq_true] at this
  · rintro ⟨h1, h2⟩
    have hw := ITr.wf_of h1
    obtain ⟨a, b, c⟩ := t
    have hno : ∀ i : Int, (i = -1 ∨ (0 ≤ i ∧ i < s.l.length)) → i ∈ fromNo s.l.length := fun i hi => by
      unfold fromNo
      rw [List.mem_map]
      refine ⟨(i + 1).toNat, List.mem_range.2 (by omega), by omega⟩
    obtain ⟨k, hk⟩ := Int.eq_ofNat_of_zero_le hw.a.1
    have hka := hw.a.2
    simp only at hk hka
    unfold ISheet.trails
    rw [List.mem_flatMap]
    refine ⟨k, List.mem_range.2 (by omega), ?_⟩
    rw [List.mem_flatMap]
    refine ⟨b, hno b hw.b, ?_⟩
    rw [List.mem_filter]
    refine ⟨List.mem_map.2 ⟨c, hno c hw.c, by rw [hk]⟩, ?_⟩
    rw [Bool.and_eq_true]
    exact ⟨h1, h2⟩
/-- One trail more, of images that are free. -/
theorem goes_more {s : ISheet} {w : List ITr} {t : ITr} (hw : Goes s.trails 0 0 w) (hlt : ∀ u ∈ w, u.a < t.a) (hok : t.ok s.l.length = true) (hst : (s.star t).isSome = true) (hu : usedIn w t.a = false) (hb : t.b = -1 ∨ usedIn w t.b = false) (hc : t.c = -1 ∨ usedIn w t.c = false) : Goes s.trails 0 0 (w ++ [t]) := by
  have hwf := ITr.wf_of hok
  have hl : ∀ t ∈ w, t.wf s.l.length := fun t ht => trails_wf t (goes_mem hw t ht)
  refine goes_snoc.2 ⟨hw, mem_next.2 ⟨mem_trails.2 ⟨hok, hst⟩, endOf_le 0 w hwf.a.1 hlt, ?_⟩⟩
  rw [Nat.zero_or]
  have hbad : bad14 w s.l.length t = false := by
    unfold bad14
    rw [hok, hu]
    rcases hb with hb | hb <;> rcases hc with hc | hc <;> simp [hb, hc]
  rw [bad14_free hl hok] at hbad
  simpa using hbad
end Go.Proofs.Ytacioedolmaofaa
namespace Go.Proofs.Ytacioedolmaofaa
set_option linter.unusedVariables false
set_option maxRecDepth 100000

theorem own_zero_comm {a b : Nat} : a &&& b = 0 ↔ b &&& a = 0 := by rw [Nat.and_comm]
theorem own_or {a b c : Nat} : a &&& (b ||| c) = 0 ↔ a &&& b = 0 ∧ a &&& c = 0 := by
  rw [and_zero_iff, and_zero_iff, and_zero_iff]
  constructor
  · intro h
    refine ⟨fun k hk => ?_, fun k hk => ?_⟩
    · have := h k hk; rw [Nat.testBit_or] at this; cases hb : b.testBit k <;> simp_all
    · have := h k hk; rw [Nat.testBit_or] at this; cases hb : c.testBit k <;> simp_all
  · rintro ⟨h1, h2⟩ k hk
    rw [Nat.testBit_or, h1 k hk, h2 k hk]; rfl
/-- Ways, as sets. -/
theorem goes_set {T : List ITr} : ∀ (w : List ITr) (fr : Int) (used : Nat), Goes T fr used w ↔ (∀ t ∈ w, t ∈ T ∧ fr ≤ t.a ∧ t.own &&& used = 0) ∧ w.Pairwise (fun t u => t.a < u.a ∧ u.own &&& t.own = 0)
  | [], fr, used => by simp [Goes]
  | t::w, fr, used => by
    show (t ∈ nextOf T fr used ∧ Goes T (t.a + 1) (used ||| t.own) w) ↔ _
    rw [goes_set w, mem_next, List.pairwise_cons]
    constructor
    · rintro ⟨h1, h2, h3⟩
      refine ⟨fun u hu => ?_, fun u hu => ?_, h3⟩
      · rcases List.mem_cons.1 hu with rfl | hu
        · exact h1
        · obtain ⟨k1, k2, k3⟩ := h2 u hu
          exact ⟨k1, by omega, (own_or.1 k3).1⟩
      · obtain ⟨k1, k2, k3⟩ := h2 u hu
        exact ⟨by omega, (own_or.1 k3).2⟩
    · rintro ⟨h1, h2, h3⟩
      refine ⟨h1 t (by simp), fun u hu => ?_, h3⟩
      obtain ⟨k1, k2, k3⟩ := h1 u (by simp [hu])
      obtain ⟨k4, k5⟩ := h2 u hu
      exact ⟨k1, by omega, own_or.2 ⟨k3, k5⟩⟩
theorem ownAll_bit : ∀ (w : List ITr) (k : Nat), (ownAll w).testBit k = w.any fun t => t.own.testBit k
  | [], k => by simp [ownAll]
  | t::w, k => by rw [ownAll_cons, Nat.testBit_or, ownAll_bit w k, List.any_cons]
theorem ownAll_set {w w' : List ITr} (h : ∀ t, t ∈ w ↔ t ∈ w') : ownAll w = ownAll w' := by
  refine Nat.eq_of_testBit_eq fun k => ?_
  rw [ownAll_bit, ownAll_bit, Bool.eq_iff_iff, List.any_eq_true, List.any_eq_true]
  constructor
  · rintro ⟨t, h1, h2⟩; exact ⟨t, (h t).1 h1, h2⟩
  · rintro ⟨t, h1, h2⟩; exact ⟨t, (h t).2 h1, h2⟩
theorem own_self {n : Nat} {t u : ITr} (ht : t.wf n) (h : t.own &&& u.own = 0) (hu : u.wf n) : t.a ≠ u.a := by
  intro e
  obtain ⟨k, hk⟩ := Int.eq_ofNat_of_zero_le ht.a.1
  have h1 := (and_zero_iff _ _).1 h k ((ht.own_bit k).2 (.inl hk))
  have h2 := (hu.own_bit k).2 (.inl (by rw [← e]; exact hk))
  rw [h1] at h2
  cases h2
/-- A trail put among others. -/
def insTr (t : ITr) (w : List ITr) : List ITr := w.filter (fun u => decide (u.a < t.a)) ++ t::w.filter (fun u => decide (t.a < u.a))
theorem mem_insTr {t u : ITr} {w : List ITr} (h : ∀ u ∈ w, u.a ≠ t.a) : u ∈ insTr t w ↔ u = t ∨ u ∈ w := by
  unfold insTr
  rw [List.mem_append, List.mem_cons, List.mem_filter, List.mem_filter]
  constructor
  · rintro (⟨h1, _⟩ | h1 | ⟨h1, _⟩)
    · exact .inr h1
    · exact .inl h1
    · exact .inr h1
  · rintro (h1 | h1)
    · exact .inr (.inl h1)
    · have := h u h1
      rcases Int.lt_or_gt_of_ne this with h2 | h2
      · exact .inl ⟨h1, by simpa using h2⟩
      · exact .inr (.inr ⟨h1, by simpa using h2⟩)
theorem insTr_pairwise {t : ITr} {w : List ITr} (hp : w.Pairwise (fun t u => t.a < u.a ∧ u.own &&& t.own = 0)) (h : ∀ u ∈ w, u.own &&& t.own = 0) : (insTr t w).Pairwise (fun t u => t.a < u.a ∧ u.own &&& t.own = 0) := by
  unfold insTr
  rw [List.pairwise_append]
  refine ⟨hp.filter _, List.pairwise_cons.2 ⟨fun u hu => ?_, hp.filter _⟩, fun u hu v hv => ?_⟩
  · obtain ⟨h1, h2⟩ := List.mem_filter.1 hu
    exact ⟨by simpa using h2, h u h1⟩
  · obtain ⟨h1, h2⟩ := List.mem_filter.1 hu
    have h2' : u.a < t.a := by simpa using h2
    rcases List.mem_cons.1 hv with rfl | hv
    · exact ⟨h2', own_zero_comm.1 (h u h1)⟩
    · obtain ⟨h3, h4⟩ := List.mem_filter.1 hv
      have h4' : t.a < v.a := by simpa using h4
      refine ⟨by omega, ?_⟩
      obtain ⟨i, hi, rfl⟩ := List.getElem_of_mem h1
      obtain ⟨j, hj, rfl⟩ := List.getElem_of_mem h3
      rcases Nat.lt_trichotomy i j with h5 | h5 | h5
      · exact (List.pairwise_iff_getElem.1 hp i j hi hj h5).2
      · subst h5; omega
      · have := (List.pairwise_iff_getElem.1 hp j i hj hi h5).1; omega

/-- Which trails some way has. -/
theorem hasP_iff {s : ISheet} (hn : s.l.length ≤ 9) (F : Int) {t : ITr} (ht : t ∈ s.trails) : hasP s.trails s.l.length F t = true ↔ ∃ w, Goes s.trails 0 0 w ∧ flawsW s.l.length 0 w ≤ F ∧ t ∈ w := by
  unfold hasP
  rw [decide_eq_true_iff, many_iff F ((tp_of hn).filter _) 0 (by omega) t.own]
  constructor
  · rintro ⟨w, h1, h2⟩
    obtain ⟨h3, h4⟩ := (goes_set w 0 t.own).1 h1
    have hwf : ∀ u ∈ w, u.wf s.l.length := fun u hu => trails_wf u (List.mem_filter.1 (h3 u hu).1).1
    have hne : ∀ u ∈ w, u.a ≠ t.a := fun u hu => own_self (hwf u hu) (h3 u hu).2.2 (trails_wf t ht)
    refine ⟨insTr t w, (goes_set _ 0 0).2 ⟨fun u hu => ?_, insTr_pairwise h4 (fun u hu => (h3 u hu).2.2)⟩, ?_, (mem_insTr hne).2 (.inl rfl)⟩
    · rcases (mem_insTr hne).1 hu with rfl | hu
      · exact ⟨ht, (trails_wf u ht).a.1, Nat.and_zero _⟩
      · exact ⟨(List.mem_filter.1 (h3 u hu).1).1, (h3 u hu).2.1, Nat.and_zero _⟩
    · have e : ownAll (insTr t w) = t.own ||| ownAll w := by
        rw [← ownAll_cons]
        exact ownAll_set fun u => by rw [mem_insTr hne, List.mem_cons]
      unfold flawsW at h2 ⊢
      rw [e, Nat.zero_or]
      exact h2
  · rintro ⟨w, h1, h2, h3⟩
    obtain ⟨h4, h5⟩ := (goes_set w 0 0).1 h1
    have hd : ∀ u ∈ w, u ≠ t → u.own &&& t.own = 0 := fun u hu hne => by
      obtain ⟨i, hi, rfl⟩ := List.getElem_of_mem hu
      obtain ⟨j, hj, rfl⟩ := List.getElem_of_mem h3
      rcases Nat.lt_trichotomy i j with h6 | h6 | h6
      · exact own_zero_comm.1 (List.pairwise_iff_getElem.1 h5 i j hi hj h6).2
      · subst h6; exact absurd rfl hne
      · exact (List.pairwise_iff_getElem.1 h5 j i hj hi h6).2
    refine ⟨w.filter fun u => u.own &&& t.own == 0, (goes_set _ 0 t.own).2 ⟨fun u hu => ?_, h5.filter _⟩, ?_⟩
    · obtain ⟨k1, k2⟩ := List.mem_filter.1 hu
      have := h4 u k1
      exact ⟨List.mem_filter.2 ⟨this.1, k2⟩, this.2.1, by simpa using k2⟩
    · have e : t.own ||| ownAll (w.filter fun u => u.own &&& t.own == 0) = ownAll w := by
        rw [← ownAll_cons]
        refine Nat.eq_of_testBit_eq fun k => ?_
        rw [ownAll_bit, ownAll_bit, Bool.eq_iff_iff, List.any_eq_true, List.any_eq_true]
        constructor
        · rintro ⟨u, k1, k2⟩
          rcases List.mem_cons.1 k1 with rfl | k1
          · exact ⟨u, h3, k2⟩
          · exact ⟨u, (List.mem_filter.1 k1).1, k2⟩
        · rintro ⟨u, k1, k2⟩
          by_cases e : u = t
          · exact ⟨t, by simp, by rw [← e]; exact k2⟩
          · exact ⟨u, List.mem_cons.2 (.inr (List.mem_filter.2 ⟨k1, by simpa using hd u k1 e⟩)), k2⟩
      unfold flawsW at h2 ⊢
      rw [e]
      rwa [Nat.zero_or] at h2

/-- Is a star within what is told? -/
structure SWithin (v u : IStar) : Prop where
  xl : u.x.lo ≤ v.x.lo
  xh : v.x.hi ≤ u.x.hi
  yl : u.y.lo ≤ v.y.lo
  yh : v.y.hi ≤ u.y.hi
  sl : u.s.lo ≤ v.s.lo
  sh : v.s.hi ≤ u.s.hi
/-- The least that holds all of them. -/
structure JoinOf (S : IStar → Prop) (u : IStar) : Prop where
  all : ∀ v, S v → SWithin v u
  xl : ∃ v, S v ∧ v.x.lo = u.x.lo
  xh : ∃ v, S v ∧ v.x.hi = u.x.hi
  yl : ∃ v, S v ∧ v.y.lo = u.y.lo
  yh : ∃ v, S v ∧ v.y.hi = u.y.hi
  sl : ∃ v, S v ∧ v.s.lo = u.s.lo
  sh : ∃ v, S v ∧ v.s.hi = u.s.hi
theorem joinOf_within {S S' : IStar → Prop} {u u' : IStar} (h : JoinOf S u) (h' : JoinOf S' u') (hs : ∀ v, S v → S' v) : SWithin u u' := by
  obtain ⟨v1, a1, e1⟩ := h.xl
  obtain ⟨v2, a2, e2⟩ := h.xh
  obtain ⟨v3, a3, e3⟩ := h.yl
  obtain ⟨v4, a4, e4⟩ := h.yh
  obtain ⟨v5, a5, e5⟩ := h.sl
  obtain ⟨v6, a6, e6⟩ := h.sh
  exact ⟨by rw [← e1]; exact (h'.all v1 (hs _ a1)).xl, by rw [← e2]; exact (h'.all v2 (hs _ a2)).xh, by rw [← e3]; exact (h'.all v3 (hs _ a3)).yl, by rw [← e4]; exact (h'.all v4 (hs _ a4)).yh, by rw [← e5]; exact (h'.all v5 (hs _ a5)).sl, by rw [← e6]; exact (h'.all v6 (hs _ a6)).sh⟩
theorem within_antisymm {u v : IStar} (h : SWithin u v) (h' : SWithin v u) : u = v := by
  obtain ⟨⟨a, b⟩, ⟨c, d⟩, ⟨e, f⟩⟩ := u
  obtain ⟨⟨a', b'⟩, ⟨c', d'⟩, ⟨e', f'⟩⟩ := v
  obtain ⟨h1, h2, h3, h4, h5, h6⟩ := h
  obtain ⟨k1, k2, k3, k4, k5, k6⟩ := h'
  dsimp only at *
  rw [show a = a' by omega, show b = b' by omega, show c = c' by omega, show d = d' by omega, show e = e' by omega, show f = f' by omega]
theorem joinOf_one (S : IStar → Prop) (u : IStar) (h : S u) (hS : ∀ v, S v → v = u) : JoinOf S u :=
  ⟨fun v hv => by rw [hS v hv]; exact ⟨Int.le_refl _, Int.le_refl _, Int.le_refl _, Int.le_refl _, Int.le_refl _, Int.le_refl _⟩, ⟨u, h, rfl⟩, ⟨u, h, rfl⟩, ⟨u, h, rfl⟩, ⟨u, h, rfl⟩, ⟨u, h, rfl⟩, ⟨u, h, rfl⟩⟩
theorem joinOf_more {S S' : IStar → Prop} {u v : IStar} (h : JoinOf S u) (hS : ∀ x, S' x ↔ S x ∨ x = v) : JoinOf S' (joinTo u v 3) := by
  have e : joinTo u v 3 = ⟨u.x.join v.x, u.y.join v.y, u.s.join v.s⟩ := rfl
  rw [e]
  obtain ⟨w1, a1, e1⟩ := h.xl
  obtain ⟨w2, a2, e2⟩ := h.xh
  obtain ⟨w3, a3, e3⟩ := h.yl
  obtain ⟨w4, a4, e4⟩ := h.yh
  obtain ⟨w5, a5, e5⟩ := h.sl
  obtain ⟨w6, a6, e6⟩ := h.sh
  have hv : S' v := (hS v).2 (.inr rfl)
  refine ⟨fun x hx => ?_, ?_, ?_, ?_, ?_, ?_, ?_⟩
  · rcases (hS x).1 hx with hx | rfl
    · obtain ⟨b1, b2, b3, b4, b5, b6⟩ := h.all x hx
      refine ⟨?_, ?_, ?_, ?_, ?_, ?_⟩ <;> dsimp only [Sp.join] <;> omega
    · refine ⟨?_, ?_, ?_, ?_, ?_, ?_⟩ <;> dsimp only [Sp.join] <;> omega
  · rcases Int.le_total u.x.lo v.x.lo with hh | hh
    · exact ⟨w1, (hS _).2 (.inl a1), by dsimp only [Sp.join]; omega⟩
    · exact ⟨v, hv, by dsimp only [Sp.join]; omega⟩
  · rcases Int.le_total v.x.hi u.x.hi with hh | hh
    · exact ⟨w2, (hS _).2 (.inl a2), by dsimp only [Sp.join]; omega⟩
    · exact ⟨v, hv, by dsimp only [Sp.join]; omega⟩
  · rcases Int.le_total u.y.lo v.y.lo with hh | hh
    · exact ⟨w3, (hS _).2 (.inl a3), by dsimp only [Sp.join]; omega⟩
    · exact ⟨v, hv, by dsimp only [Sp.join]; omega⟩
  · rcases Int.le_total v.y.hi u.y.hi with hh | hh
    · exact ⟨w4, (hS _).2 (.inl a4), by dsimp only [Sp.join]; omega⟩
    · exact ⟨v, hv, by dsimp only [Sp.join]; omega⟩
  · rcases Int.le_total u.s.lo v.s.lo with hh | hh
    · exact ⟨w5, (hS _).2 (.inl a5), by dsimp only [Sp.join]; omega⟩
    · exact ⟨v, hv, by dsimp only [Sp.join]; omega⟩
  · rcases Int.le_total v.s.hi u.s.hi with hh | hh
    · exact ⟨w6, (hS _).2 (.inl a6), by dsimp only [Sp.join]; omega⟩
    · exact ⟨v, hv, by dsimp only [Sp.join]; omega⟩

/-- The stars that an image can be the first one of. -/
def StarsAt (s : ISheet) (T : List ITr) (i : Int) (v : IStar) : Prop := ∃ t ∈ T, t.a = i ∧ hasP s.trails s.l.length s.flaws t = true ∧ s.star t = some v
def WhereIs (s : ISheet) (T : List ITr) (i : Int) : Option IStar → Prop
  | none => ∀ t ∈ T, t.a = i → hasP s.trails s.l.length s.flaws t = false
  | some u => JoinOf (StarsAt s T i) u
theorem where_fold (s : ISheet) (i : Int) : ∀ k, k ≤ s.trails.length → WhereIs s (s.trails.take k) i (whereTo s i k) := by
  intro k
  induction k with
  | zero => intro _ t ht; simp at ht
  | succ k ih =>
    intro hk
    have ih := ih (by omega)
    rw [whereTo_succ s i k (by omega), List.take_succ_eq_append_getElem (by omega)]
    have hin : s.trails[k] ∈ s.trails := List.getElem_mem (by omega)
    generalize s.trails[k] = t at hin
    obtain ⟨v, hv⟩ := trails_star hin
    generalize whereTo s i k = o at ih
    generalize s.trails.take k = T at ih
    unfold whereStep
    by_cases hc : (decide (t.a = i) && hasP s.trails s.l.length s.flaws t) = true
    · rw [if_pos hc]
      rw [Bool.and_eq_true, decide_eq_true_iff] at hc
      rw [hv]
      have hSv : StarsAt s (T ++ [t]) i v := ⟨t, by simp, hc.1, hc.2, hv⟩
      cases o with
      | none =>
        refine joinOf_one _ v hSv ?_
        rintro x ⟨u, hu, h1, h2, h3⟩
        rcases List.mem_append.1 hu with hu | hu
        · have := ih u hu h1; rw [h2] at this; cases this
        · rw [List.mem_singleton] at hu; subst hu; rw [hv] at h3; cases h3; rfl
      | some u =>
        refine joinOf_more (S := StarsAt s T i) ih (fun x => ?_)
        constructor
        · rintro ⟨y, hy, h1, h2, h3⟩
          rcases List.mem_append.1 hy with hy | hy
          · exact .inl ⟨y, hy, h1, h2, h3⟩
          · rw [List.mem_singleton] at hy; subst hy; rw [hv] at h3; cases h3; exact .inr rfl
        · rintro (⟨y, hy, h1, h2, h3⟩ | rfl)
          · exact ⟨y, by simp [hy], h1, h2, h3⟩
          · exact hSv
    · rw [if_neg hc]
      have hno : t.a = i → hasP s.trails s.l.length s.flaws t = false := fun e => by
        cases hh : hasP s.trails s.l.length s.flaws t
        · rfl
        · exact absurd (by rw [hh, e]; simp) hc
      cases o with
      | none =>
        intro u hu e
        rcases List.mem_append.1 hu with hu | hu
        · exact ih u hu e
        · rw [List.mem_singleton] at hu; subst hu; exact hno e
      | some u =>
        have hS : StarsAt s (T ++ [t]) i = StarsAt s T i := by
          funext x
          refine propext ⟨?_, ?_⟩
          · rintro ⟨y, hy, h1, h2, h3⟩
            rcases List.mem_append.1 hy with hy | hy
            · exact ⟨y, hy, h1, h2, h3⟩
            · rw [List.mem_singleton] at hy; subst hy; rw [hno h1] at h2; cases h2
          · rintro ⟨y, hy, h1, h2, h3⟩
            exact ⟨y, by simp [hy], h1, h2, h3⟩
        show JoinOf (StarsAt s (T ++ [t]) i) u
        rw [hS]
        exact ih
theorem where_all (s : ISheet) (i : Int) : WhereIs s s.trails i (whereTo s i s.trails.length) := by
  have := where_fold s i s.trails.length (Nat.le_refl _)
  rwa [List.take_length] at this
end Go.Proofs.Ytacioedolmaofaa
namespace Go.Proofs.Ytacioedolmaofaa
set_option linter.unusedVariables false
set_option maxRecDepth 100000

/-- What is told of all ways, by the ways. -/
structure AggIs (n used : Nat) (L : List (List ITr)) (o : ITold) : Prop where
  some : ∀ k, o.some.testBit k = L.any fun w => (ownAll w).testBit k
  all : ∀ k, k < 64 → o.all.testBit k = L.all fun w => (ownAll w).testBit k
  lo : ∀ w ∈ L, o.lo ≤ w.length
  hi : ∀ w ∈ L, (w.length : Int) ≤ o.hi
theorem agg_is (n used : Nat) : ∀ (m : Nat) (L : List (List ITr)), L.length = m → AggIs n used L (aggOf n used L) := by
  intro m
  induction m with
  | zero =>
    intro L hL
    obtain rfl := List.eq_nil_of_length_eq_zero hL
    refine ⟨fun k => ?_, fun k hk => ?_, fun w hw => absurd hw (List.not_mem_nil), fun w hw => absurd hw (List.not_mem_nil)⟩
    · show (0 : Nat).testBit k = _
      simp
    · show (18446744073709551615 : Nat).testBit k = _
      rw [show (18446744073709551615 : Nat) = 2 ^ 64 - 1 from rfl, Nat.testBit_two_pow_sub_one]
      simpa using hk
  | succ m ih =>
    intro L hL
    obtain ⟨M, w, rfl⟩ : ∃ M w, L = M ++ [w] := ⟨L.dropLast, L.getLast (fun e => by subst e; cases hL), (List.dropLast_concat_getLast _).symm⟩
    obtain ⟨h1, h2, h3, h4⟩ := ih M (by simpa using hL)
    rw [aggOf_snoc]
    refine ⟨fun k => ?_, fun k hk => ?_, fun u hu => ?_, fun u hu => ?_⟩
    · show Nat.testBit (_ ||| _) k = _
      rw [Nat.testBit_or, h1 k, List.any_append]
      simp
    · show Nat.testBit (_ &&& _) k = _
      rw [Nat.testBit_and, h2 k hk, List.all_append]
      simp
    · show min _ _ ≤ _
      rcases List.mem_append.1 hu with hu | hu
      · have := h3 u hu; omega
      · rw [List.mem_singleton] at hu; subst hu; omega
    · show _ ≤ max _ _
      rcases List.mem_append.1 hu with hu | hu
      · have := h4 u hu; omega
      · rw [List.mem_singleton] at hu; subst hu; omega
/-- How many trails: the least and the greatest numbers are reached. -/
theorem agg_len (n used : Nat) (hb : n ≤ 9) : ∀ (m : Nat) (L : List (List ITr)), L.length = m → (∀ w ∈ L, w.length ≤ n) → L ≠ [] → (∃ w ∈ L, (w.length : Int) = (aggOf n used L).lo) ∧ ∃ w ∈ L, (w.length : Int) = (aggOf n used L).hi := by
  intro m
  induction m with
  | zero => intro L hL _ h; exact absurd (List.eq_nil_of_length_eq_zero hL) h
  | succ m ih =>
    intro L hL hn _
    obtain ⟨M, w, rfl⟩ : ∃ M w, L = M ++ [w] := ⟨L.dropLast, L.getLast (fun e => by subst e; cases hL), (List.dropLast_concat_getLast _).symm⟩
    have hw := hn w (by simp)
    rw [aggOf_snoc]
    have e1 : (wayMore n used (aggOf n used M) w).lo = min (aggOf n used M).lo w.length := rfl
    have e2 : (wayMore n used (aggOf n used M) w).hi = max (aggOf n used M).hi w.length := rfl
    rw [e1, e2]
    by_cases hM : M = []
    · subst hM
      have e3 : (aggOf n used []).lo = n + 1 := rfl
      have e4 : (aggOf n used []).hi = -1 := rfl
      rw [e3, e4]
      exact ⟨⟨w, by simp, by omega⟩, ⟨w, by simp, by omega⟩⟩
    · obtain ⟨⟨u, hu, eu⟩, ⟨v, hv, ev⟩⟩ := ih M (by simpa using hL) (fun w hw => hn w (by simp [hw])) hM
      constructor
      · rcases Int.le_total (aggOf n used M).lo w.length with h | h
        · exact ⟨u, by simp [hu], by omega⟩
        · exact ⟨w, by simp, by omega⟩
      · rcases Int.le_total (w.length : Int) (aggOf n used M).hi with h | h
        · exact ⟨v, by simp [hv], by omega⟩
        · exact ⟨w, by simp, by omega⟩

/-- Is a list of trails a way? -/
def IsWay (s : ISheet) (w : List ITr) : Prop := Goes s.trails 0 0 w ∧ flawsW s.l.length 0 w ≤ s.flaws
/-- The images that surely are of stars, and those that are flaws. -/
def tStars (s : ISheet) : Nat := (wayTold s).all &&& (2 ^ s.l.length - 1)
def tFlaws (s : ISheet) : Nat := iandN (2 ^ s.l.length - 1) (wayTold s).some
theorem goes_len {T : List ITr} {n : Nat} (hT : ∀ t ∈ T, t.a < n) : ∀ (w : List ITr) (fr : Int) (used : Nat), fr ≤ n → Goes T fr used w → (w.length : Int) ≤ n - fr
  | [], fr, used, h, _ => by simp; omega
  | t::w, fr, used, h, hg => by
    have h1 := mem_next.1 hg.1
    have := hT t h1.1
    have := goes_len hT w (t.a + 1) _ (by omega) hg.2
    simp only [List.length_cons]
    omega
/-- What is told of all ways of a sheet. -/
structure TellIs (s : ISheet) : Prop where
  stars : ∀ k, (tStars s).testBit k = true ↔ k < s.l.length ∧ ∀ w, IsWay s w → usedIn w (k : Int) = true
  flaws : ∀ k, (tFlaws s).testBit k = true ↔ k < s.l.length ∧ ∀ w, IsWay s w → usedIn w (k : Int) = false
  lo : ∀ w, IsWay s w → (wayTold s).lo ≤ w.length
  hi : ∀ w, IsWay s w → (w.length : Int) ≤ (wayTold s).hi
  lo' : ∃ w, IsWay s w ∧ (w.length : Int) = (wayTold s).lo
  hi' : ∃ w, IsWay s w ∧ (w.length : Int) = (wayTold s).hi
theorem way_mem {s : ISheet} (hn : s.l.length ≤ 9) (w : List ITr) : w ∈ waysOf s.trails s.l.length s.flaws s.l.length 0 0 ↔ IsWay s w := mem_ways s.flaws (tp_of hn).lt s.l.length 0 0 w (by omega)
theorem way_wf {s : ISheet} {w : List ITr} (h : IsWay s w) : ∀ t ∈ w, t.wf s.l.length := fun t ht => trails_wf t (goes_mem h.1 t ht)
theorem way_len {s : ISheet} {w : List ITr} (h : IsWay s w) : w.length ≤ s.l.length := by
  have := goes_len (T := s.trails) (n := s.l.length) (fun t ht => (trails_wf t ht).a.2) w 0 0 (by omega) h.1
  omega
theorem iandN_bit {n a : Nat} (hn : n ≤ 9) (ha : a < 2 ^ 64) (k : Nat) : (iandN (2 ^ n - 1) a).testBit k = (decide (k < n) && !a.testBit k) := by
  unfold iandN
  rw [Nat.testBit_and, Nat.testBit_two_pow_sub_one]
  by_cases hk : k < n
  · have e : 18446744073709551615 - a = 2 ^ 64 - (a + 1) := by omega
    rw [e, Nat.testBit_two_pow_sub_succ ha]
    have : k < 64 := by omega
    simp [this]
  · simp [hk]
theorem tellIs {s : ISheet} (hok : s.ok = true) (h : (wayTold s).many ≠ 0) : TellIs s := by
  have hn : s.l.length ≤ 9 := ((iok_iff s).1 hok).2.2.2.2.2.2.2.2.2
  have hb := (way_told_b s hok).some
  have e : wayTold s = aggOf s.l.length 0 (waysOf s.trails s.l.length s.flaws s.l.length 0 0) := tellN_ways s.flaws (tp_of hn) 0 (by omega) 0
  have hA := agg_is s.l.length 0 _ (waysOf s.trails s.l.length s.flaws s.l.length 0 0) rfl
  have hW := way_mem (s := s) hn
  have hne : waysOf s.trails s.l.length s.flaws s.l.length 0 0 ≠ [] := by
    intro e2
    rw [e, e2] at h
    exact h rfl
  have hL := agg_len s.l.length 0 hn _ (waysOf s.trails s.l.length s.flaws s.l.length 0 0) rfl (fun w hw => way_len ((hW w).1 hw)) hne
  rw [← e] at hA hL
  have hbit : ∀ w, IsWay s w → ∀ k : Nat, usedIn w (k : Int) = (ownAll w).testBit k := fun w hw k => usedIn_bit (n := s.l.length) w (way_wf hw) k
  refine ⟨fun k => ?_, fun k => ?_, fun w hw => hA.lo w ((hW w).2 hw), fun w hw => hA.hi w ((hW w).2 hw), ?_, ?_⟩
  · unfold tStars
    rw [Nat.testBit_and, Nat.testBit_two_pow_sub_one, Bool.and_eq_true, decide_eq_true_iff, and_comm]
    refine and_congr_right fun hk => ?_
    rw [hA.all k (by omega), List.all_eq_true]
    constructor
    · intro h2 w hw; rw [hbit w hw]; exact h2 w ((hW w).2 hw)
    · intro h2 w hw; rw [← hbit w ((hW w).1 hw)]; exact h2 w ((hW w).1 hw)
  · unfold tFlaws
    rw [iandN_bit hn (Nat.lt_trans hb (by decide)), Bool.and_eq_true, decide_eq_true_iff]
    refine and_congr_right fun hk => ?_
    rw [hA.some k, Bool.not_eq_true', List.any_eq_false]
    constructor
    · intro h2 w hw; rw [hbit w hw]; simpa using h2 w ((hW w).2 hw)
    · intro h2 w hw; rw [← hbit w ((hW w).1 hw), h2 w ((hW w).1 hw)]; simp
  · obtain ⟨w, hw, e2⟩ := hL.1
    exact ⟨w, (hW w).1 hw, e2⟩
  · obtain ⟨w, hw, e2⟩ := hL.2
    exact ⟨w, (hW w).1 hw, e2⟩

/-- Where the star of a trail lies, by its first image. -/
structure StarIn (s : ISheet) (i : Int) (u : IStar) : Prop where
  x : (s.at' i).x.lo ≤ u.x.lo ∧ u.x.lo ≤ u.x.hi ∧ u.x.hi ≤ (s.at' i).x.hi
  y : (s.at' i).y.lo ≤ u.y.lo ∧ u.y.lo ≤ u.y.hi ∧ u.y.hi ≤ (s.at' i).y.hi
  s : s.limit ≤ u.s.lo ∧ (s.at' i).s.lo ≤ u.s.lo ∧ u.s.lo ≤ u.s.hi ∧ u.s.hi ≤ (s.at' i).s.hi
theorem starStep_in {s : ISheet} {o o' : IStar} {i : Int} {sx sy fd : Sp} (h : starStep s o i sx sy fd = some o') : o.x.lo ≤ o'.x.lo ∧ o'.x.hi ≤ o.x.hi ∧ o.y.lo ≤ o'.y.lo ∧ o'.y.hi ≤ o.y.hi ∧ o.s.lo ≤ o'.s.lo ∧ o'.s.hi ≤ o.s.hi := by
  unfold starStep at h
  split at h
  · cases h
    dsimp only [Sp.meet]
    omega
  · dsimp only at h
    split at h
    · cases h
    · cases h
      dsimp only [Sp.meet]
      omega
theorem star_in {s : ISheet} {t : ITr} {u : IStar} (h : s.star t = some u) : StarIn s t.a u := by
  unfold ISheet.star at h
  dsimp only at h
  rw [Option.bind_eq_some_iff] at h
  obtain ⟨o1, h1, h⟩ := h
  rw [Option.bind_eq_some_iff] at h
  obtain ⟨o2, h2, h3⟩ := h
  have k1 := starStep_in h1
  have k2 := starStep_in h2
  have h4 : o2 = u ∧ ¬ (o2.x.hi < o2.x.lo ∨ o2.y.hi < o2.y.lo ∨ o2.s.hi < o2.s.lo) := by
    refine ⟨?_, fun hh => ?_⟩
    · unfold starEnd at h3
      split at h3
      · cases h3
      · cases h3; rfl
    · rw [(starEnd_none o2).2 hh] at h3
      cases h3
  obtain ⟨rfl, h4⟩ := h4
  dsimp only [Sp.meet] at k1
  refine ⟨?_, ?_, ?_⟩ <;> omega
theorem joinOf_in {s : ISheet} {i : Int} {S : IStar → Prop} {u : IStar} (h : JoinOf S u) (hS : ∀ v, S v → StarIn s i v) : StarIn s i u := by
  obtain ⟨w1, a1, e1⟩ := h.xl
  obtain ⟨w2, a2, e2⟩ := h.xh
  obtain ⟨w3, a3, e3⟩ := h.yl
  obtain ⟨w4, a4, e4⟩ := h.yh
  obtain ⟨w5, a5, e5⟩ := h.sl
  obtain ⟨w6, a6, e6⟩ := h.sh
  have k1 := (hS _ a1).x
  have k2 := (hS _ a2).x
  have k3 := (hS _ a3).y
  have k4 := (hS _ a4).y
  have k5 := (hS _ a5).s
  have k6 := (hS _ a6).s
  have j1 := h.all _ a1
  have j3 := h.all _ a3
  have j5 := h.all _ a5
  have := j1.xl; have := j1.xh; have := j3.yl; have := j3.yh; have := j5.sl; have := j5.sh
  refine ⟨?_, ?_, ?_⟩ <;> omega
/-- Where the star of an image is told to be. -/
theorem where_way {s : ISheet} (hok : s.ok = true) {i : Int} {w : List ITr} (hw : IsWay s w) {t : ITr} (ht : t ∈ w) (hi : t.a = i) : ∃ u v, whereTo s i s.trails.length = some u ∧ s.star t = some v ∧ SWithin v u := by
  have hn : s.l.length ≤ 9 := ((iok_iff s).1 hok).2.2.2.2.2.2.2.2.2
  have htr := goes_mem hw.1 t ht
  obtain ⟨v, hv⟩ := trails_star htr
  have hh : hasP s.trails s.l.length s.flaws t = true := (hasP_iff hn s.flaws htr).2 ⟨w, hw.1, hw.2, ht⟩
  have hA := where_all s i
  cases hu : whereTo s i s.trails.length with
  | none =>
    rw [hu] at hA
    have := hA t htr hi
    rw [hh] at this
    cases this
  | some u =>
    rw [hu] at hA
    exact ⟨u, v, rfl, hv, hA.all v ⟨t, htr, hi, hh, hv⟩⟩
theorem where_some {s : ISheet} (hok : s.ok = true) {i : Int} {u : IStar} (hu : whereTo s i s.trails.length = some u) : StarIn s i u ∧ ∃ w, IsWay s w ∧ usedIn w i = true := by
  have hn : s.l.length ≤ 9 := ((iok_iff s).1 hok).2.2.2.2.2.2.2.2.2
  have hA := where_all s i
  rw [hu] at hA
  refine ⟨joinOf_in hA (fun v hv => ?_), ?_⟩
  · obtain ⟨t, h1, h2, h3, h4⟩ := hv
    rw [← h2]
    exact star_in h4
  · obtain ⟨v, ⟨t, h1, h2, h3, h4⟩, _⟩ := hA.xl
    obtain ⟨w, h5, h6, h7⟩ := (hasP_iff hn s.flaws h1).1 h3
    refine ⟨w, ⟨h5, h6⟩, ?_⟩
    unfold usedIn
    rw [List.any_eq_true]
    exact ⟨t, h7, by simp [h2]⟩
theorem goes_wf {s : ISheet} {w : List ITr} (hw : Goes s.trails 0 0 w) : ∀ t ∈ w, t.wf s.l.length := fun t ht => trails_wf t (goes_mem hw t ht)
end Go.Proofs.Ytacioedolmaofaa
namespace Go.Proofs.Ytacioedolmaofaa
set_option linter.unusedVariables false
set_option maxRecDepth 100000

/-- A sheet with other Flaws. -/
def ISheet.withF (s : ISheet) (F : Int) : ISheet := { s with flaws := F }
theorem withF_trails (s : ISheet) (F : Int) : (s.withF F).trails = s.trails := rfl
theorem withF_ok {s : ISheet} (hok : s.ok = true) {F : Int} (h0 : 0 ≤ F) (h9 : F ≤ 9) : (s.withF F).ok = true := by
  obtain ⟨h1, h2, h3, h4, h5, h6, h7, h8, _, h10⟩ := (iok_iff s).1 hok
  exact (iok_iff _).2 ⟨h1, h2, h3, h4, h5, h6, h7, h8, ⟨h0, h9⟩, h10⟩
theorem withF_way {s : ISheet} {F : Int} (hF : s.flaws ≤ F) {w : List ITr} (h : IsWay s w) : IsWay (s.withF F) w := ⟨h.1, Int.le_trans h.2 hF⟩
theorem withF_count {s : ISheet} (hn : s.l.length ≤ 9) {F : Int} (hF : s.flaws ≤ F) : (wayTold s).many ≤ (wayTold (s.withF F)).many := by
  unfold wayTold
  rw [tellN_many s.flaws (tp_of hn) 0 (by omega), tellN_many (s.withF F).flaws (tp_of (s := s.withF F) hn) 0 (by omega), ways_filter s.trails s.l.length hF]
  exact List.length_filter_le _ _
theorem withF_tell {s : ISheet} (hok : s.ok = true) {F : Int} (hF : s.flaws ≤ F) (h9 : F ≤ 9) (hm : (wayTold s).many ≠ 0) : (∀ k, (tStars (s.withF F)).testBit k = true → (tStars s).testBit k = true) ∧ (∀ k, (tFlaws (s.withF F)).testBit k = true → (tFlaws s).testBit k = true) := by
  have h0 := ((iok_iff s).1 hok).2.2.2.2.2.2.2.2.1
  have hn := ((iok_iff s).1 hok).2.2.2.2.2.2.2.2.2
  have h1 := tellIs hok hm
  have h2 := tellIs (withF_ok hok (by omega) h9) (by have := withF_count hn hF; omega)
  refine ⟨fun k hk => ?_, fun k hk => ?_⟩
  · obtain ⟨a, b⟩ := (h2.stars k).1 hk
    exact (h1.stars k).2 ⟨a, fun w hw => b w (withF_way hF hw)⟩
  · obtain ⟨a, b⟩ := (h2.flaws k).1 hk
    exact (h1.flaws k).2 ⟨a, fun w hw => b w (withF_way hF hw)⟩
theorem withF_where {s : ISheet} (hok : s.ok = true) {F : Int} (hF : s.flaws ≤ F) {i : Int} {u : IStar} (hu : whereTo s i s.trails.length = some u) : ∃ v, whereTo (s.withF F) i s.trails.length = some v ∧ SWithin u v := by
  have hn : s.l.length ≤ 9 := ((iok_iff s).1 hok).2.2.2.2.2.2.2.2.2
  have hA := where_all s i
  have hB := where_all (s.withF F) i
  rw [hu] at hA
  have hS : ∀ v, StarsAt s s.trails i v → StarsAt (s.withF F) s.trails i v := by
    rintro v ⟨t, h1, h2, h3, h4⟩
    refine ⟨t, h1, h2, ?_, h4⟩
    obtain ⟨w, k1, k2, k3⟩ := (hasP_iff hn s.flaws h1).1 h3
    exact (hasP_iff (s := s.withF F) hn F h1).2 ⟨w, k1, Int.le_trans k2 hF, k3⟩
  rw [withF_trails] at hB
  cases hv : whereTo (s.withF F) i s.trails.length with
  | none =>
    rw [hv] at hB
    obtain ⟨v, hv2, _⟩ := hA.xl
    obtain ⟨t, h1, h2, h3, h4⟩ := hS v hv2
    have := hB t h1 h2
    rw [h3] at this
    cases this
  | some v =>
    rw [hv] at hB
    exact ⟨v, rfl, joinOf_within hA hB hS⟩

/-- Is an image known no better? -/
structure SpotSub (p q : ISpot) : Prop where
  x : q.x.lo ≤ p.x.lo ∧ p.x.hi ≤ q.x.hi
  y : q.y.lo ≤ p.y.lo ∧ p.y.hi ≤ q.y.hi
  s : q.s.lo ≤ p.s.lo ∧ p.s.hi ≤ q.s.hi
theorem SpotSub.refl (p : ISpot) : SpotSub p p := ⟨⟨Int.le_refl _, Int.le_refl _⟩, ⟨Int.le_refl _, Int.le_refl _⟩, ⟨Int.le_refl _, Int.le_refl _⟩⟩
/-- A sheet whose images are known no better. -/
structure Wider (s r : ISheet) : Prop where
  ax : r.ax = s.ax
  ay : r.ay = s.ay
  bx : r.bx = s.bx
  by' : r.by' = s.by'
  f : r.f = s.f
  g : r.g = s.g
  limit : r.limit = s.limit
  len : r.l.length = s.l.length
  sub : ∀ i, SpotSub (s.at' i) (r.at' i)
theorem starStep_wider {s r : ISheet} (h : Wider s r) {o p o' : IStar} (ho : SWithin o p) {i : Int} {sx sy fd : Sp} (he : starStep s o i sx sy fd = some o') : ∃ p', starStep r p i sx sy fd = some p' ∧ SWithin o' p' := by
  obtain ⟨h1, h2, h3, h4, h5, h6⟩ := ho
  unfold starStep at he ⊢
  by_cases hi : i = -1
  · rw [if_pos hi] at he ⊢
    cases he
    refine ⟨_, rfl, ?_⟩
    rw [h.limit]
    refine ⟨?_, ?_, ?_, ?_, ?_, ?_⟩ <;> dsimp only [Sp.meet] <;> omega
  · rw [if_neg hi] at he ⊢
    obtain ⟨⟨x1, x2⟩, ⟨y1, y2⟩, ⟨z1, z2⟩⟩ := h.sub i
    rw [h.limit]
    generalize s.at' i = a at *
    generalize r.at' i = b at *
    dsimp only [Sp.meet, Sp.less] at he ⊢
    have hnone : ∀ lo hi : Int, (Sp.none ⟨lo, hi⟩ = true) ↔ (hi < lo) := by simp [Sp.none]
    by_cases hne : Sp.none ⟨max a.s.lo s.limit, min a.s.hi 1000⟩ = true
    · rw [if_pos hne] at he
      cases he
    · rw [if_neg hne] at he
      cases he
      rw [hnone] at hne
      rw [if_neg (by rw [hnone]; omega)]
      refine ⟨_, rfl, ?_⟩
      refine ⟨?_, ?_, ?_, ?_, ?_, ?_⟩ <;> dsimp only <;> omega
theorem starEnd_some {o u : IStar} : starEnd o = some u ↔ o = u ∧ o.x.lo ≤ o.x.hi ∧ o.y.lo ≤ o.y.hi ∧ o.s.lo ≤ o.s.hi := by
  unfold starEnd Sp.none
  split
  · rename_i h; simp at h; simp; omega
  · rename_i h; simp at h; simp; omega
theorem star_wider {s r : ISheet} (h : Wider s r) {t : ITr} {u : IStar} (hu : s.star t = some u) : ∃ v, r.star t = some v ∧ SWithin u v := by
  unfold ISheet.star at hu ⊢
  dsimp only at hu ⊢
  rw [Option.bind_eq_some_iff] at hu
  obtain ⟨o1, h1, hu⟩ := hu
  rw [Option.bind_eq_some_iff] at hu
  obtain ⟨o2, h2, h3⟩ := hu
  have h0 : SWithin ⟨(s.at' t.a).x, (s.at' t.a).y, (s.at' t.a).s.meet ⟨s.limit, 1000⟩⟩ ⟨(r.at' t.a).x, (r.at' t.a).y, (r.at' t.a).s.meet ⟨r.limit, 1000⟩⟩ := by
    obtain ⟨⟨x1, x2⟩, ⟨y1, y2⟩, ⟨z1, z2⟩⟩ := h.sub t.a
    rw [h.limit]
    refine ⟨?_, ?_, ?_, ?_, ?_, ?_⟩ <;> dsimp only [Sp.meet] <;> omega
  obtain ⟨p1, k1, j1⟩ := starStep_wider h h0 h1
  obtain ⟨p2, k2, j2⟩ := starStep_wider h j1 h2
  obtain ⟨rfl, e1, e2, e3⟩ := starEnd_some.1 h3
  have := j2.xl; have := j2.xh; have := j2.yl; have := j2.yh; have := j2.sl; have := j2.sh
  rw [h.ax, h.ay, h.f, h.bx, h.by', h.g, k1, Option.bind_some, k2, Option.bind_some]
  exact ⟨p2, starEnd_some.2 ⟨rfl, by omega, by omega, by omega⟩, j2⟩
theorem wider_trails {s r : ISheet} (h : Wider s r) {t : ITr} (ht : t ∈ s.trails) : t ∈ r.trails := by
  obtain ⟨h1, h2⟩ := mem_trails.1 ht
  obtain ⟨u, hu⟩ := Option.isSome_iff_exists.1 h2
  obtain ⟨v, hv, _⟩ := star_wider h hu
  exact mem_trails.2 ⟨by rw [h.len]; exact h1, by rw [hv]; rfl⟩
theorem wider_goes {s r : ISheet} (h : Wider s r) {w : List ITr} (hw : Goes s.trails 0 0 w) : Goes r.trails 0 0 w := by
  obtain ⟨h1, h2⟩ := (goes_set w 0 0).1 hw
  exact (goes_set w 0 0).2 ⟨fun t ht => ⟨wider_trails h (h1 t ht).1, (h1 t ht).2⟩, h2⟩
theorem wider_needs {s r : ISheet} (hn : s.l.length ≤ 9) (h : Wider s r) : (tellN r.trails r.l.length r.l.length 0 0).flaws ≤ (tellN s.trails s.l.length s.l.length 0 0).flaws := by
  have h1 := needsAre (s := s) hn
  have h2 := needsAre (s := r) (by rw [h.len]; exact hn)
  obtain ⟨w, hw, e⟩ := h1.one
  have := h2.min w (wider_goes h hw)
  rw [h.len] at this ⊢
  omega
theorem wider_fits {s r : ISheet} (hs : s.ok = true) (hr : r.ok = true) (h : Wider s r) (t : ITr) : (itFits s t).2 = (itFits r t).2 ∧ ((itFits s t).1 = true → (itFits r t).1 = true) := by
  unfold itFits
  rw [hs, hr, if_pos rfl, if_pos rfl, h.len]
  split
  · refine ⟨rfl, fun hh => ?_⟩
    obtain ⟨u, hu⟩ := Option.isSome_iff_exists.1 (show (s.star t).isSome = true from hh)
    obtain ⟨v, hv, _⟩ := star_wider h hu
    show (r.star t).isSome = true
    rw [hv]; rfl
  · exact ⟨rfl, fun hh => hh⟩

/-- The image k is known less well. -/
def widenP (p : ISpot) (b : Nat) : ISpot := ⟨⟨max 0 (p.x.lo - (b % 4 : Nat)), min 1048576 (p.x.hi + (b / 4 % 4 : Nat))⟩, p.y, ⟨p.s.lo, min 1000 (p.s.hi + (b / 16 % 4 : Nat))⟩⟩
def widenS (s : ISheet) (k b : Nat) : ISheet := { s with l := s.l.set k (widenP (s.l.getD k noSpot) b) }
theorem widenP_sub {p : ISpot} (hp : p.ok = true) (b : Nat) : SpotSub p (widenP p b) ∧ (widenP p b).ok = true := by
  have h := (spot_iff p).1 hp
  unfold widenP
  refine ⟨⟨?_, ?_, ?_⟩, (spot_iff _).2 ?_⟩ <;> dsimp only <;> omega
theorem widenS_wider {s : ISheet} (hok : s.ok = true) (k b : Nat) : Wider s (widenS s k b) := by
  refine ⟨rfl, rfl, rfl, rfl, rfl, rfl, rfl, by simp [widenS], fun i => ?_⟩
  unfold ISheet.at' widenS
  rw [List.getD_eq_getElem?_getD, List.getD_eq_getElem?_getD]
  show SpotSub _ ((s.l.set k _)[i.toNat]?.getD noSpot)
  by_cases e : k = i.toNat
  · subst e
    by_cases hk : i.toNat < s.l.length
    · rw [List.getElem?_set_self hk]
      have : s.l.getD i.toNat noSpot = s.l[i.toNat]?.getD noSpot := List.getD_eq_getElem?_getD
      rw [this]
      exact (widenP_sub (by have := at_ok hok i; unfold ISheet.at' at this; rwa [List.getD_eq_getElem?_getD] at this) b).1
    · rw [List.getElem?_eq_none (by simpa using hk), List.getElem?_eq_none (by simpa using hk)]
      exact SpotSub.refl _
  · rw [List.getElem?_set_ne e]
    exact SpotSub.refl _
theorem widenS_ok {s : ISheet} (hok : s.ok = true) (k b : Nat) (hk : k < s.l.length) : (widenS s k b).ok = true := by
  obtain ⟨h1, h2, h3, h4, h5, h6, h7, h8, h9, h10⟩ := (iok_iff s).1 hok
  refine (iok_iff _).2 ⟨h1, h2, h3, h4, h5, h6, ?_, h8, h9, by simpa [widenS] using h10⟩
  rw [List.all_eq_true] at h7 ⊢
  intro p hp
  rcases List.mem_or_eq_of_mem_set hp with hp | rfl
  · exact h7 p hp
  · refine (widenP_sub (h7 _ ?_) b).2
    rw [List.getD_eq_getElem?_getD, List.getElem?_eq_getElem hk]
    exact List.getElem_mem hk
end Go.Proofs.Ytacioedolmaofaa
namespace Go.Proofs.Ytacioedolmaofaa
set_option linter.unusedVariables false
set_option maxRecDepth 100000

def shiftP (far : Int) (p : ISpot) : ISpot := ⟨⟨p.x.lo + far, p.x.hi + far⟩, p.y, p.s⟩
def shiftS (far : Int) (u : IStar) : IStar := ⟨⟨u.x.lo + far, u.x.hi + far⟩, u.y, u.s⟩
/-- A sheet is another one, with its images in another order, and farther. -/
structure Ren (s x : ISheet) (σ τ : Nat → Nat) (far : Int) : Prop where
  ax : x.ax = s.ax
  ay : x.ay = s.ay
  bx : x.bx = s.bx
  by' : x.by' = s.by'
  f : x.f = s.f
  g : x.g = s.g
  limit : x.limit = s.limit
  flaws : x.flaws = s.flaws
  len : x.l.length = s.l.length
  slt : ∀ i, i < s.l.length → σ i < s.l.length
  tlt : ∀ i, i < s.l.length → τ i < s.l.length
  ts : ∀ i, i < s.l.length → τ (σ i) = i
  st : ∀ i, i < s.l.length → σ (τ i) = i
  im : ∀ i : Nat, i < s.l.length → x.at' (σ i : Nat) = shiftP far (s.at' (i : Nat))
theorem shiftP_back (far : Int) (p : ISpot) : shiftP (-far) (shiftP far p) = p := by
  obtain ⟨⟨a, b⟩, y, z⟩ := p
  simp [shiftP]
  omega
theorem Ren.symm {s x : ISheet} {σ τ : Nat → Nat} {far : Int} (h : Ren s x σ τ far) : Ren x s τ σ (-far) :=
  ⟨h.ax.symm, h.ay.symm, h.bx.symm, h.by'.symm, h.f.symm, h.g.symm, h.limit.symm, h.flaws.symm, h.len.symm, fun i hi => by rw [h.len] at hi ⊢; exact h.tlt i hi, fun i hi => by rw [h.len] at hi ⊢; exact h.slt i hi, fun i hi => h.st i (by rw [← h.len]; exact hi), fun i hi => h.ts i (by rw [← h.len]; exact hi),
    fun i hi => by
      rw [h.len] at hi
      have := h.im (τ i) (h.tlt i hi)
      rw [h.st i hi] at this
      rw [this, shiftP_back]⟩
def mapI (σ : Nat → Nat) (i : Int) : Int := if i = -1 then -1 else (σ i.toNat : Nat)
def mapT (σ : Nat → Nat) (t : ITr) : ITr := ⟨mapI σ t.a, mapI σ t.b, mapI σ t.c⟩
theorem mapI_no (σ : Nat → Nat) : mapI σ (-1) = -1 := rfl
theorem mapI_nat (σ : Nat → Nat) (i : Nat) : mapI σ (i : Int) = (σ i : Nat) := by
  unfold mapI
  rw [if_neg (by omega)]
  rfl
section
variable {s x : ISheet} {σ τ : Nat → Nat} {far : Int}
theorem Ren.inj (h : Ren s x σ τ far) {i j : Nat} (hi : i < s.l.length) (hj : j < s.l.length) (e : σ i = σ j) : i = j := by rw [← h.ts i hi, ← h.ts j hj, e]
theorem Ren.mapI_in (h : Ren s x σ τ far) {i : Int} (hi : 0 ≤ i ∧ i < s.l.length) : 0 ≤ mapI σ i ∧ mapI σ i < x.l.length := by
  obtain ⟨k, rfl⟩ := Int.eq_ofNat_of_zero_le hi.1
  rw [mapI_nat, h.len]
  have := h.slt k (by omega)
  omega
theorem Ren.mapI_inj (h : Ren s x σ τ far) {i j : Int} (hi : i = -1 ∨ (0 ≤ i ∧ i < s.l.length)) (hj : j = -1 ∨ (0 ≤ j ∧ j < s.l.length)) (e : mapI σ i = mapI σ j) : i = j := by
  rcases hi with rfl | hi
  · rcases hj with rfl | hj
    · rfl
    · have := (h.mapI_in hj).1; rw [← e, mapI_no] at this; omega
  · rcases hj with rfl | hj
    · have := (h.mapI_in hi).1; rw [e, mapI_no] at this; omega
    · obtain ⟨k, rfl⟩ := Int.eq_ofNat_of_zero_le hi.1
      obtain ⟨m, rfl⟩ := Int.eq_ofNat_of_zero_le hj.1
      rw [mapI_nat, mapI_nat] at e
      rw [h.inj (i := k) (j := m) (by omega) (by omega) (by omega)]
theorem Ren.mapI_back (h : Ren s x σ τ far) {i : Int} (hi : i = -1 ∨ (0 ≤ i ∧ i < s.l.length)) : mapI τ (mapI σ i) = i := by
  rcases hi with rfl | hi
  · rfl
  · obtain ⟨k, rfl⟩ := Int.eq_ofNat_of_zero_le hi.1
    rw [mapI_nat, mapI_nat, h.ts k (by omega)]
theorem Ren.wf (h : Ren s x σ τ far) {t : ITr} (ht : t.wf s.l.length) : (mapT σ t).wf x.l.length :=
  ⟨h.mapI_in ht.a, ht.b.imp (fun e => by show mapI σ t.b = -1; rw [e]; rfl) h.mapI_in, ht.c.imp (fun e => by show mapI σ t.c = -1; rw [e]; rfl) h.mapI_in⟩
theorem Ren.back (h : Ren s x σ τ far) {t : ITr} (ht : t.wf s.l.length) : mapT τ (mapT σ t) = t := by
  obtain ⟨a, b, c⟩ := t
  unfold mapT
  simp only
  rw [h.mapI_back (.inr ht.a), h.mapI_back ht.b, h.mapI_back ht.c]
theorem Ren.no_iff (h : Ren s x σ τ far) {i : Int} (hi : i = -1 ∨ (0 ≤ i ∧ i < s.l.length)) : mapI σ i = -1 ↔ i = -1 :=
  ⟨fun e => h.mapI_inj hi (.inl rfl) e, fun e => by rw [e]; rfl⟩
theorem ok_iff_wf {t : ITr} {n : Nat} : t.ok n = true ↔ t.wf n ∧ (t.b ≠ -1 → t.b ≠ t.a) ∧ (t.c ≠ -1 → t.c ≠ t.a ∧ t.c ≠ t.b) := by
  constructor
  · intro h
    refine ⟨ITr.wf_of h, ?_, ?_⟩
    · intro hb
      unfold ITr.ok isIm at h
      simp only [Bool.and_eq_true, Bool.or_eq_true, decide_eq_true_eq] at h
      exact (h.1.2.resolve_left hb).2
    · intro hc
      unfold ITr.ok isIm at h
      simp only [Bool.and_eq_true, Bool.or_eq_true, decide_eq_true_eq] at h
      have := h.2.resolve_left hc
      exact ⟨this.1.2, this.2⟩
  · rintro ⟨h1, h2, h3⟩
    unfold ITr.ok isIm
    simp only [Bool.and_eq_true, Bool.or_eq_true, decide_eq_true_eq]
    refine ⟨⟨h1.a, ?_⟩, ?_⟩
    · by_cases e : t.b = -1
      · exact .inl e
      · exact .inr ⟨h1.b.resolve_left e, h2 e⟩
    · by_cases e : t.c = -1
      · exact .inl e
      · exact .inr ⟨⟨h1.c.resolve_left e, (h3 e).1⟩, (h3 e).2⟩
theorem Ren.ok (h : Ren s x σ τ far) {t : ITr} (ht : t.ok s.l.length = true) : (mapT σ t).ok x.l.length = true := by
  obtain ⟨h1, h2, h3⟩ := ok_iff_wf.1 ht
  refine ok_iff_wf.2 ⟨h.wf h1, fun hb => ?_, fun hc => ?_⟩
  · have e : t.b ≠ -1 := fun e => hb ((h.no_iff h1.b).2 e)
    exact fun e2 => h2 e (h.mapI_inj h1.b (.inr h1.a) e2)
  · have e : t.c ≠ -1 := fun e => hc ((h.no_iff h1.c).2 e)
    exact ⟨fun e2 => (h3 e).1 (h.mapI_inj h1.c (.inr h1.a) e2), fun e2 => (h3 e).2 (h.mapI_inj h1.c h1.b e2)⟩
theorem Ren.at' (h : Ren s x σ τ far) {i : Int} (hi : 0 ≤ i ∧ i < s.l.length) : x.at' (mapI σ i) = shiftP far (s.at' i) := by
  obtain ⟨k, rfl⟩ := Int.eq_ofNat_of_zero_le hi.1
  rw [mapI_nat]
  exact h.im k (by omega)
theorem starStep_ren (h : Ren s x σ τ far) (o : IStar) {i : Int} (hi : i = -1 ∨ (0 ≤ i ∧ i < s.l.length)) (sx sy fd : Sp) : starStep x (shiftS far o) (mapI σ i) sx sy fd = (starStep s o i sx sy fd).map (shiftS far) := by
  unfold starStep
  rcases hi with rfl | hi
  · rw [if_pos rfl, mapI_no, if_pos rfl, h.limit]
    rfl
  · have h1 := h.mapI_in hi
    rw [if_neg (show ¬ i = -1 by omega), if_neg (show ¬ mapI σ i = -1 by omega), h.at' hi, h.limit]
    generalize s.at' i = p
    have e : (shiftP far p).s = p.s := rfl
    dsimp only
    rw [e]
    split
    · rfl
    · rw [Option.map_some]
      congr 1
      show IStar.mk _ _ _ = IStar.mk _ _ _
      congr 1
      simp only [shiftS, shiftP, Sp.meet, Sp.less]
      congr 1 <;> omega
theorem starEnd_ren (far : Int) (o : IStar) : starEnd (shiftS far o) = (starEnd o).map (shiftS far) := by
  have e1 : (shiftS far o).x.none = o.x.none := by
    unfold Sp.none
    rw [decide_eq_decide]
    simp only [shiftS]
    omega
  unfold starEnd
  rw [e1]
  show (if (o.x.none || o.y.none || o.s.none) = true then none else some (shiftS far o)) = _
  split
  · rfl
  · rfl
theorem Ren.star (h : Ren s x σ τ far) {t : ITr} (ht : t.wf s.l.length) : x.star (mapT σ t) = (s.star t).map (shiftS far) := by
  unfold ISheet.star
  dsimp only
  have e : x.at' (mapT σ t).a = shiftP far (s.at' t.a) := h.at' ht.a
  rw [e, h.limit, h.ax, h.ay, h.bx, h.by', h.f, h.g]
  have e1 := starStep_ren h ⟨(s.at' t.a).x, (s.at' t.a).y, (s.at' t.a).s.meet ⟨s.limit, 1000⟩⟩ ht.b s.ax s.ay s.f
  have e2 : (⟨(shiftP far (s.at' t.a)).x, (shiftP far (s.at' t.a)).y, (shiftP far (s.at' t.a)).s.meet ⟨s.limit, 1000⟩⟩ : IStar) = shiftS far ⟨(s.at' t.a).x, (s.at' t.a).y, (s.at' t.a).s.meet ⟨s.limit, 1000⟩⟩ := rfl
  rw [e2, show (mapT σ t).b = mapI σ t.b from rfl, e1]
  cases h1 : starStep s ⟨(s.at' t.a).x, (s.at' t.a).y, (s.at' t.a).s.meet ⟨s.limit, 1000⟩⟩ t.b s.ax s.ay s.f with
  | none => rfl
  | some o1 =>
    rw [Option.map_some, Option.bind_some, Option.bind_some, show (mapT σ t).c = mapI σ t.c from rfl, starStep_ren h o1 ht.c]
    cases h2 : starStep s o1 t.c s.bx s.by' s.g with
    | none => rfl
    | some o2 => exact starEnd_ren far o2
theorem Ren.trails (h : Ren s x σ τ far) {t : ITr} (ht : t ∈ s.trails) : mapT σ t ∈ x.trails := by
  obtain ⟨h1, h2⟩ := mem_trails.1 ht
  refine mem_trails.2 ⟨h.ok h1, ?_⟩
  rw [h.star (ITr.wf_of h1)]
  simpa using h2
theorem Ren.bit (h : Ren s x σ τ far) {t : ITr} (ht : t.wf s.l.length) {k : Nat} (hk : k < s.l.length) : (mapT σ t).own.testBit (σ k) = t.own.testBit k := by
  rw [Bool.eq_iff_iff, (h.wf ht).own_bit, ht.own_bit]
  have hf : ∀ i : Int, (i = -1 ∨ (0 ≤ i ∧ i < s.l.length)) → (mapI σ i = ((σ k : Nat) : Int) ↔ i = (k : Int)) := fun i hi => by
    rw [← mapI_nat]
    exact ⟨fun e => h.mapI_inj hi (.inr ⟨by omega, by omega⟩) e, fun e => by rw [e]⟩
  show mapI σ t.a = _ ∨ mapI σ t.b = _ ∨ mapI σ t.c = _ ↔ _
  rw [hf _ (.inr ht.a), hf _ ht.b, hf _ ht.c]
theorem own_high {t : ITr} {n : Nat} (ht : t.wf n) {k : Nat} (hk : n ≤ k) : t.own.testBit k = false := Nat.testBit_lt_two_pow (Nat.lt_of_lt_of_le (own_ltn ht) (Nat.pow_le_pow_right (by omega) hk))
theorem Ren.disj (h : Ren s x σ τ far) {t u : ITr} (ht : t.wf s.l.length) (hu : u.wf s.l.length) (hd : t.own &&& u.own = 0) : (mapT σ t).own &&& (mapT σ u).own = 0 := by
  rw [and_zero_iff] at hd ⊢
  intro k hk
  by_cases hlt : k < s.l.length
  · have e := h.st k hlt
    rw [← e] at hk ⊢
    rw [h.bit ht (h.tlt k hlt)] at hk
    rw [h.bit hu (h.tlt k hlt)]
    exact hd _ hk
  · rw [own_high (h.wf ht) (by rw [h.len]; omega)] at hk
    cases hk
end

/-- Trails in their order. -/
def sortT (w : List ITr) : List ITr := w.foldr insTr []
theorem insTr_perm {t : ITr} {w : List ITr} (h : ∀ u ∈ w, u.a ≠ t.a) : (insTr t w).length = w.length + 1 := by
  unfold insTr
  rw [List.length_append, List.length_cons]
  induction w with
  | nil => rfl
  | cons u w ih =>
    have ih := ih (fun x hx => h x (by simp [hx]))
    have hu := h u (by simp)
    rw [List.filter_cons, List.filter_cons]
    rcases Int.lt_or_gt_of_ne hu with h1 | h1
    · rw [if_pos (by simpa using h1), if_neg (by simp; omega)]
      simp only [List.length_cons]; omega
    · rw [if_neg (by simp; omega), if_pos (by simpa using h1)]
      simp only [List.length_cons]; omega
/-- All different first images, no image twice. -/
def Apart (w : List ITr) : Prop := w.Pairwise fun t u => t.a ≠ u.a ∧ u.own &&& t.own = 0
theorem sortT_spec : ∀ (w : List ITr), Apart w → (∀ t, t ∈ sortT w ↔ t ∈ w) ∧ (sortT w).length = w.length ∧ (sortT w).Pairwise (fun t u => t.a < u.a ∧ u.own &&& t.own = 0)
  | [], _ => ⟨fun t => Iff.rfl, rfl, List.Pairwise.nil⟩
  | t::w, h => by
    obtain ⟨h1, h2⟩ := List.pairwise_cons.1 h
    obtain ⟨k1, k2, k3⟩ := sortT_spec w h2
    have hne : ∀ u ∈ sortT w, u.a ≠ t.a := fun u hu e => (h1 u ((k1 u).1 hu)).1 e.symm
    have e : sortT (t::w) = insTr t (sortT w) := rfl
    rw [e]
    refine ⟨fun u => ?_, ?_, insTr_pairwise k3 (fun u hu => (h1 u ((k1 u).1 hu)).2)⟩
    · rw [mem_insTr hne, k1, List.mem_cons]
    · rw [insTr_perm hne, k2, List.length_cons]
theorem sorted_ext : ∀ (w v : List ITr), w.Pairwise (fun t u : ITr => t.a < u.a) → v.Pairwise (fun t u : ITr => t.a < u.a) → (∀ t, t ∈ w ↔ t ∈ v) → w = v
  | [], [], _, _, _ => rfl
  | [], u::v, _, _, h => absurd ((h u).2 (by simp)) (List.not_mem_nil)
  | t::w, [], _, _, h => absurd ((h t).1 (by simp)) (List.not_mem_nil)
  | t::w, u::v, h1, h2, h => by
    obtain ⟨a1, a2⟩ := List.pairwise_cons.1 h1
    obtain ⟨b1, b2⟩ := List.pairwise_cons.1 h2
    have e : t = u := by
      rcases List.mem_cons.1 ((h t).1 (by simp)) with e | e
      · exact e
      · rcases List.mem_cons.1 ((h u).2 (by simp)) with e2 | e2
        · exact e2.symm
        · have := b1 t e; have := a1 u e2; omega
    subst e
    rw [sorted_ext w v a2 b2 (fun y => ?_)]
    constructor
    · intro hy
      rcases List.mem_cons.1 ((h y).1 (by simp [hy])) with e | e
      · subst e; have := a1 y hy; omega
      · exact e
    · intro hy
      rcases List.mem_cons.1 ((h y).2 (by simp [hy])) with e | e
      · subst e; have := b1 y hy; omega
      · exact e
theorem len_le_sub {α : Type} [DecidableEq α] : ∀ (L M : List α), L.Nodup → (∀ a ∈ L, a ∈ M) → L.length ≤ M.length
  | [], _, _, _ => Nat.zero_le _
  | a::L, M, h, hs => by
    obtain ⟨h1, h2⟩ := List.pairwise_cons.1 h
    have ha := hs a (by simp)
    have := len_le_sub L (M.erase a) h2 (fun b hb => (List.mem_erase_of_ne (fun e => h1 b hb e.symm)).2 (hs b (by simp [hb])))
    rw [List.length_erase_of_mem ha] at this
    have := List.length_pos_of_mem ha
    simp only [List.length_cons]
    omega
theorem trails_nodup (s : ISheet) : s.trails.Nodup := (trails_sorted s).imp fun {t u} h e => by
  subst e
  unfold trLt at h
  omega
theorem ways_nodup {T : List ITr} (hT : T.Nodup) (n : Nat) (F : Int) : ∀ (r : Nat) (fr : Int) (used : Nat), (waysOf T n F r fr used).Nodup := by
  have hleaf : ∀ used : Nat, (if (n : Int) - bitsIn 9 used ≤ F then [[]] else [] : List (List ITr)).Nodup := fun used => by split <;> simp
  intro r
  induction r with
  | zero => intro fr used; exact hleaf used
  | succ r ih =>
    intro fr used
    unfold waysOf
    unfold List.Nodup
    rw [List.pairwise_append]
    refine ⟨hleaf used, ?_, fun x hx y hy => ?_⟩
    · rw [List.pairwise_flatMap]
      refine ⟨fun t _ => ?_, ?_⟩
      · rw [List.pairwise_map]
        exact (ih _ _).imp fun {a b} h e => h (List.cons.inj e).2
      · have : (nextOf T fr used).Nodup := List.Pairwise.filter _ hT
        refine this.imp fun {t u} h x hx y hy e => ?_
        obtain ⟨_, _, rfl⟩ := List.mem_map.1 hx
        obtain ⟨_, _, rfl⟩ := List.mem_map.1 hy
        exact h (List.cons.inj e).1
    · obtain ⟨t, _, hy⟩ := List.mem_flatMap.1 hy
      obtain ⟨_, _, rfl⟩ := List.mem_map.1 hy
      rw [(mem_leaf.1 hx).1]
      exact fun e => by cases e
end Go.Proofs.Ytacioedolmaofaa
