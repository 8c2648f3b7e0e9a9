/- Plain Lean: what the law ImageTurned asks. Plain: bits of small numbers, as int. -/
import Derived.Test.YtacioedolmaofaaLBN1
import Derived.Test.YtacioedolmaofaaLBA4
namespace Go.Proofs.Ytacioedolmaofaa
set_option linter.unusedVariables false
set_option maxRecDepth 100000

section
variable {s x : ISheet} {σ τ : Nat → Nat} {far : Int}
/-- The way that is told of the other sheet. -/
def mapW (σ : Nat → Nat) (w : List ITr) : List ITr := sortT (w.map (mapT σ))

theorem mapW_spec (h : Ren s x σ τ far) {w : List ITr} (hw : Goes s.trails 0 0 w) : (∀ u, u ∈ mapW σ w ↔ ∃ t ∈ w, mapT σ t = u) ∧ (mapW σ w).length = w.length ∧ Goes x.trails 0 0 (mapW σ w) := by
  obtain ⟨h1, h2⟩ := (goes_set w 0 0).1 hw
  have hwf := goes_wf hw
  have hap : Apart (w.map (mapT σ)) := by
    unfold Apart
    rw [List.pairwise_map]
    refine List.Pairwise.imp_of_mem (fun {t u} ht hu hh => ⟨?_, h.disj (hwf u hu) (hwf t ht) hh.2⟩) h2
    intro e
    have := h.mapI_inj (.inr (hwf t ht).a) (.inr (hwf u hu).a) e
    omega
  obtain ⟨k1, k2, k3⟩ := sortT_spec _ hap
  have hm : ∀ u, u ∈ mapW σ w ↔ ∃ t ∈ w, mapT σ t = u := fun u => by
    show u ∈ sortT _ ↔ _
    rw [k1, List.mem_map]
  refine ⟨hm, by show (sortT _).length = _; rw [k2, List.length_map], (goes_set _ 0 0).2 ⟨fun u hu => ?_, k3⟩⟩
  obtain ⟨t, ht, rfl⟩ := (hm u).1 hu
  exact ⟨h.trails (h1 t ht).1, (h.wf (hwf t ht)).a.1, Nat.and_zero _⟩
theorem usedIn_map (h : Ren s x σ τ far) {w : List ITr} (hw : Goes s.trails 0 0 w) {k : Nat} (hk : k < s.l.length) : usedIn (mapW σ w) ((σ k : Nat) : Int) = usedIn w (k : Int) := by
  obtain ⟨h1, _, h3⟩ := mapW_spec h hw
  rw [usedIn_bit (n := x.l.length) _ (goes_wf h3), usedIn_bit (n := s.l.length) _ (goes_wf hw), ownAll_bit, ownAll_bit, Bool.eq_iff_iff, List.any_eq_true, List.any_eq_true]
  constructor
  · rintro ⟨u, hu, hb⟩
    obtain ⟨t, ht, rfl⟩ := (h1 u).1 hu
    exact ⟨t, ht, by rw [← h.bit (goes_wf hw t ht) hk]; exact hb⟩
  · rintro ⟨t, ht, hb⟩
    exact ⟨mapT σ t, (h1 _).2 ⟨t, ht, rfl⟩, by rw [h.bit (goes_wf hw t ht) hk]; exact hb⟩
theorem range_perm (h : Ren s x σ τ far) : ((List.range s.l.length).map σ).Perm (List.range s.l.length) := by
  rw [List.perm_ext_iff_of_nodup]
  · intro a
    rw [List.mem_map, List.mem_range]
    constructor
    · rintro ⟨k, hk, rfl⟩; exact h.slt k (List.mem_range.1 hk)
    · intro ha; exact ⟨τ a, List.mem_range.2 (h.tlt a ha), h.st a ha⟩
  · unfold List.Nodup
    rw [List.pairwise_map]
    exact List.Pairwise.imp_of_mem (fun {i j} hi hj hne e => hne (h.inj (List.mem_range.1 hi) (List.mem_range.1 hj) e)) List.nodup_range
  · exact List.nodup_range
theorem flawsW_notIn (hn : s.l.length ≤ 9) {w : List ITr} (hw : ∀ t ∈ w, t.wf s.l.length) : flawsW s.l.length 0 w = (((List.range s.l.length).filter fun (k : Nat) => !usedIn w (k : Int)).length : Nat) := by
  rw [← flawN_flawsW hn w hw, flawN_notIn w hw]
  unfold notIn
  rw [show ((List.range s.l.length).filter fun (k : Nat) => !(ownAll w).testBit k) = (List.range s.l.length).filter fun (k : Nat) => !usedIn w (k : Int) from List.filter_congr fun k _ => by rw [usedIn_bit w hw]]
theorem flawsW_map (h : Ren s x σ τ far) (hn : s.l.length ≤ 9) {w : List ITr} (hw : Goes s.trails 0 0 w) : flawsW x.l.length 0 (mapW σ w) = flawsW s.l.length 0 w := by
  obtain ⟨_, _, h3⟩ := mapW_spec h hw
  rw [flawsW_notIn hn (goes_wf hw), flawsW_notIn (s := x) (by rw [h.len]; exact hn) (goes_wf h3), h.len]
  have hp := (range_perm h).countP_eq (fun k : Nat => !usedIn (mapW σ w) (k : Int))
  rw [List.countP_map, List.countP_eq_length_filter, List.countP_eq_length_filter] at hp
  rw [← hp]
  rw [show ((List.range s.l.length).filter ((fun k : Nat => !usedIn (mapW σ w) (k : Int)) ∘ σ)) = (List.range s.l.length).filter fun (k : Nat) => !usedIn w (k : Int) from List.filter_congr fun k hk => by
    show (!usedIn (mapW σ w) ((σ k : Nat) : Int)) = _
    rw [usedIn_map h hw (List.mem_range.1 hk)]]
theorem mapW_way (h : Ren s x σ τ far) (hn : s.l.length ≤ 9) {w : List ITr} (hw : IsWay s w) : IsWay x (mapW σ w) :=
  ⟨(mapW_spec h hw.1).2.2, by rw [flawsW_map h hn hw.1, h.flaws]; exact hw.2⟩
theorem mapW_inj (h : Ren s x σ τ far) {w v : List ITr} (hw : Goes s.trails 0 0 w) (hv : Goes s.trails 0 0 v) (e : mapW σ w = mapW σ v) : w = v := by
  obtain ⟨h1, _, _⟩ := mapW_spec h hw
  obtain ⟨k1, _, _⟩ := mapW_spec h hv
  have hsub : ∀ {w v : List ITr}, Goes s.trails 0 0 w → Goes s.trails 0 0 v → (∀ u, (∃ t ∈ w, mapT σ t = u) → ∃ t ∈ v, mapT σ t = u) → ∀ t ∈ w, t ∈ v := fun hw hv hh t ht => by
    obtain ⟨u, hu, e⟩ := hh _ ⟨t, ht, rfl⟩
    have := congrArg (mapT τ) e
    rw [h.back (goes_wf hv u hu), h.back (goes_wf hw t ht)] at this
    rw [← this]; exact hu
  have hp : ∀ {w : List ITr}, Goes s.trails 0 0 w → w.Pairwise (fun t u : ITr => t.a < u.a) := fun hw => ((goes_set _ 0 0).1 hw).2.imp fun {_ _} h => h.1
  refine sorted_ext w v (hp hw) (hp hv) fun t => ⟨hsub hw hv (fun u hu => ?_) t, hsub hv hw (fun u hu => ?_) t⟩
  · exact (k1 u).1 (by rw [← e]; exact (h1 u).2 hu)
  · exact (h1 u).1 (by rw [e]; exact (k1 u).2 hu)
theorem many_le (h : Ren s x σ τ far) (hn : s.l.length ≤ 9) : (wayTold s).many ≤ (wayTold x).many := by
  have hnx : x.l.length ≤ 9 := by rw [h.len]; exact hn
  unfold wayTold
  rw [tellN_many s.flaws (tp_of hn) 0 (by omega), tellN_many x.flaws (tp_of hnx) 0 (by omega)]
  have hi : ∀ w ∈ waysOf s.trails s.l.length s.flaws s.l.length 0 0, IsWay s w := fun w hw => (way_mem hn w).1 hw
  have := len_le_sub ((waysOf s.trails s.l.length s.flaws s.l.length 0 0).map (mapW σ)) (waysOf x.trails x.l.length x.flaws x.l.length 0 0) (by
    unfold List.Nodup
    rw [List.pairwise_map]
    exact List.Pairwise.imp_of_mem (fun {w v} hw hv hne e => hne (mapW_inj h (hi w hw).1 (hi v hv).1 e)) (ways_nodup (trails_nodup s) _ _ _ _ _)) (fun u hu => by
    obtain ⟨w, hw, rfl⟩ := List.mem_map.1 hu
    exact (way_mem hnx _).2 (mapW_way h hn (hi w hw)))
  rwa [List.length_map] at this
theorem needs_le (h : Ren s x σ τ far) (hn : s.l.length ≤ 9) : (tellN x.trails x.l.length x.l.length 0 0).flaws ≤ (tellN s.trails s.l.length s.l.length 0 0).flaws := by
  obtain ⟨w, hw, e⟩ := (needsAre (s := s) hn).one
  have := (needsAre (s := x) (by rw [h.len]; exact hn)).min _ (mapW_spec h hw).2.2
  rw [flawsW_map h hn hw] at this
  omega
theorem stars_sub (h : Ren s x σ τ far) (hs : s.ok = true) (hx : x.ok = true) (hm : (wayTold s).many ≠ 0) (hm' : (wayTold x).many ≠ 0) {k : Nat} (hk : k < s.l.length) : ((tStars s).testBit k = true → (tStars x).testBit (σ k) = true) ∧ ((tFlaws s).testBit k = true → (tFlaws x).testBit (σ k) = true) := by
  have hn : s.l.length ≤ 9 := ((iok_iff s).1 hs).2.2.2.2.2.2.2.2.2
  have hnx : x.l.length ≤ 9 := by rw [h.len]; exact hn
  have h1 := tellIs hs hm
  have h2 := tellIs hx hm'
  have hu : ∀ w, IsWay x w → usedIn w ((σ k : Nat) : Int) = usedIn (mapW τ w) (k : Int) := fun w hw => by
    have := usedIn_map h.symm hw.1 (k := σ k) (by rw [h.len]; exact h.slt k hk)
    rw [h.ts k hk] at this
    exact this.symm
  refine ⟨fun hb => (h2.stars _).2 ⟨by rw [h.len]; exact h.slt k hk, fun w hw => ?_⟩, fun hb => (h2.flaws _).2 ⟨by rw [h.len]; exact h.slt k hk, fun w hw => ?_⟩⟩
  · rw [hu w hw]
    exact ((h1.stars k).1 hb).2 _ (mapW_way h.symm hnx hw)
  · rw [hu w hw]
    exact ((h1.flaws k).1 hb).2 _ (mapW_way h.symm hnx hw)
theorem lohi_sub (h : Ren s x σ τ far) (hs : s.ok = true) (hx : x.ok = true) (hm : (wayTold s).many ≠ 0) (hm' : (wayTold x).many ≠ 0) : (wayTold x).lo ≤ (wayTold s).lo ∧ (wayTold s).hi ≤ (wayTold x).hi := by
  have hn : s.l.length ≤ 9 := ((iok_iff s).1 hs).2.2.2.2.2.2.2.2.2
  have h1 := tellIs hs hm
  have h2 := tellIs hx hm'
  obtain ⟨w, hw, e⟩ := h1.lo'
  obtain ⟨v, hv, e'⟩ := h1.hi'
  have k1 := h2.lo _ (mapW_way h hn hw)
  have k2 := h2.hi _ (mapW_way h hn hv)
  rw [(mapW_spec h hw.1).2.1] at k1
  rw [(mapW_spec h hv.1).2.1] at k2
  omega
theorem where_sub (h : Ren s x σ τ far) (hs : s.ok = true) {k : Nat} (hk : k < s.l.length) {u : IStar} (hu : whereTo s (k : Int) s.trails.length = some u) : ∃ v, whereTo x ((σ k : Nat) : Int) x.trails.length = some v ∧ SWithin (shiftS far u) v := by
  have hn : s.l.length ≤ 9 := ((iok_iff s).1 hs).2.2.2.2.2.2.2.2.2
  have hnx : x.l.length ≤ 9 := by rw [h.len]; exact hn
  have hA := where_all s (k : Int)
  have hB := where_all x ((σ k : Nat) : Int)
  rw [hu] at hA
  have hS : ∀ v, StarsAt s s.trails (k : Int) v → StarsAt x x.trails ((σ k : Nat) : Int) (shiftS far v) := by
    rintro v ⟨t, h1, h2, h3, h4⟩
    refine ⟨mapT σ t, h.trails h1, ?_, ?_, ?_⟩
    · show mapI σ t.a = _
      rw [h2, mapI_nat]
    · obtain ⟨w, k1, k2, k3⟩ := (hasP_iff hn s.flaws h1).1 h3
      have hw : IsWay s w := ⟨k1, k2⟩
      have hw' := mapW_way h hn hw
      exact (hasP_iff hnx x.flaws (h.trails h1)).2 ⟨mapW σ w, hw'.1, hw'.2, ((mapW_spec h k1).1 _).2 ⟨t, k3, rfl⟩⟩
    · rw [h.star (trails_wf t h1), h4]; rfl
  cases hv : whereTo x ((σ k : Nat) : Int) x.trails.length with
  | none =>
    rw [hv] at hB
    obtain ⟨v, hv2, _⟩ := hA.xl
    obtain ⟨t, h1, h2, h3, h4⟩ := hS v hv2
    have := hB t h1 h2
    rw [h3] at this
    cases this
  | some v =>
    rw [hv] at hB
    refine ⟨v, rfl, ?_⟩
    obtain ⟨v1, a1, e1⟩ := hA.xl
    obtain ⟨v2, a2, e2⟩ := hA.xh
    obtain ⟨v3, a3, e3⟩ := hA.yl
    obtain ⟨v4, a4, e4⟩ := hA.yh
    obtain ⟨v5, a5, e5⟩ := hA.sl
    obtain ⟨v6, a6, e6⟩ := hA.sh
    have k1 := (hB.all _ (hS _ a1)).xl
    have k2 := (hB.all _ (hS _ a2)).xh
    have k3 := (hB.all _ (hS _ a3)).yl
    have k4 := (hB.all _ (hS _ a4)).yh
    have k5 := (hB.all _ (hS _ a5)).sl
    have k6 := (hB.all _ (hS _ a6)).sh
    simp only [shiftS] at k1 k2 k3 k4 k5 k6
    refine ⟨?_, ?_, ?_, ?_, ?_, ?_⟩ <;> simp only [shiftS] <;> omega
theorem shiftS_within {a b : IStar} (h : SWithin (shiftS (-far) a) b) : SWithin a (shiftS far b) := by
  obtain ⟨h1, h2, h3, h4, h5, h6⟩ := h
  simp only [shiftS] at h1 h2 h3 h4 h5 h6
  refine ⟨?_, ?_, ?_, ?_, ?_, ?_⟩ <;> simp only [shiftS] <;> omega
/-- What ImageTurned asks. -/
structure TurnIs (s x : ISheet) (σ : Nat → Nat) (far : Int) : Prop where
  many : (wayTold s).many = (wayTold x).many
  needs : (tellN s.trails s.l.length s.l.length 0 0).flaws = (tellN x.trails x.l.length x.l.length 0 0).flaws
  lo : (wayTold s).many ≠ 0 → (wayTold s).lo = (wayTold x).lo ∧ (wayTold s).hi = (wayTold x).hi
  bits : (wayTold s).many ≠ 0 → ∀ k, k < s.l.length → (tStars s).testBit k = (tStars x).testBit (σ k) ∧ (tFlaws s).testBit k = (tFlaws x).testBit (σ k)
  at' : ∀ k : Nat, k < s.l.length → whereTo x ((σ k : Nat) : Int) x.trails.length = (whereTo s (k : Int) s.trails.length).map (shiftS far)
theorem turnIs (h : Ren s x σ τ far) (hs : s.ok = true) (hx : x.ok = true) : TurnIs s x σ far := by
  have hn : s.l.length ≤ 9 := ((iok_iff s).1 hs).2.2.2.2.2.2.2.2.2
  have hnx : x.l.length ≤ 9 := by rw [h.len]; exact hn
  have hm : (wayTold s).many = (wayTold x).many := Nat.le_antisymm (many_le h hn) (many_le h.symm hnx)
  refine ⟨hm, Int.le_antisymm (needs_le h.symm hnx) (needs_le h hn), fun h0 => ?_, fun h0 k hk => ?_, fun k hk => ?_⟩
  · have a := lohi_sub h hs hx h0 (by rw [← hm]; exact h0)
    have b := lohi_sub h.symm hx hs (by rw [← hm]; exact h0) h0
    omega
  · have a := stars_sub h hs hx h0 (by rw [← hm]; exact h0) hk
    have b := stars_sub h.symm hx hs (by rw [← hm]; exact h0) h0 (k := σ k) (by rw [h.len]; exact h.slt k hk)
    rw [h.ts k hk] at b
    exact ⟨Bool.eq_iff_iff.2 ⟨a.1, b.1⟩, Bool.eq_iff_iff.2 ⟨a.2, b.2⟩⟩
  · cases hu : whereTo s (k : Int) s.trails.length with
    | some u =>
      obtain ⟨v, hv, hvw⟩ := where_sub h hs hk hu
      obtain ⟨u', hu', huw⟩ := where_sub h.symm hx (k := σ k) (by rw [h.len]; exact h.slt k hk) hv
      rw [h.ts k hk, hu] at hu'
      cases hu'
      rw [hv, Option.map_some, within_antisymm hvw (shiftS_within huw)]
    | none =>
      cases hv : whereTo x ((σ k : Nat) : Int) x.trails.length with
      | none => rfl
      | some v =>
        obtain ⟨u', hu', _⟩ := where_sub h.symm hx (k := σ k) (by rw [h.len]; exact h.slt k hk) hv
        rw [h.ts k hk, hu] at hu'
        cases hu'
end

/-- The images in another order, as the law puts them, one after the other. -/
def turnTo (l : List ISpot) (k : Nat) (far : Int) : Nat → List ISpot
  | 0 => List.replicate l.length noSpot
  | i + 1 => (turnTo l k far i).set ((i + k) % l.length) (shiftP far (l.getD i noSpot))
theorem turnTo_len (l : List ISpot) (k : Nat) (far : Int) : ∀ i, (turnTo l k far i).length = l.length
  | 0 => by simp [turnTo]
  | i + 1 => by unfold turnTo; rw [List.length_set, turnTo_len l k far i]
theorem mod_inj {n k i j : Nat} (hi : i < n) (hj : j < n) (e : (i + k) % n = (j + k) % n) : i = j := by
  have h1 := Nat.div_add_mod (i + k) n
  have h2 := Nat.div_add_mod (j + k) n
  rw [e] at h1
  have h3 : (i + k) / n = (j + k) / n := by
    rcases Nat.lt_trichotomy ((i + k) / n) ((j + k) / n) with h | h | h
    · have := Nat.mul_le_mul_left n h
      rw [Nat.mul_succ] at this
      omega
    · exact h
    · have := Nat.mul_le_mul_left n h
      rw [Nat.mul_succ] at this
      omega
  rw [h3] at h1
  omega
theorem turnTo_get (l : List ISpot) (k : Nat) (far : Int) : ∀ i, i ≤ l.length → ∀ j, j < i → (turnTo l k far i).getD ((j + k) % l.length) noSpot = shiftP far (l.getD j noSpot)
  | 0, _, j, hj => by omega
  | i + 1, hi, j, hj => by
    have hn : 0 < l.length := by omega
    unfold turnTo
    rw [List.getD_eq_getElem?_getD]
    by_cases e : j = i
    · subst e
      rw [List.getElem?_set_self (by rw [turnTo_len]; exact Nat.mod_lt _ hn)]
      rfl
    · have hne : (i + k) % l.length ≠ (j + k) % l.length := fun h => e (mod_inj (by omega) (by omega) h.symm)
      rw [List.getElem?_set_ne hne, ← List.getD_eq_getElem?_getD]
      exact turnTo_get l k far i (by omega) j (by omega)
/-- The sheet that is told in another order. -/
def turnS (s : ISheet) (k : Nat) (far : Int) : ISheet := { s with l := turnTo s.l k far s.l.length }
theorem turn_ren {s : ISheet} (k : Nat) (far : Int) (hn : 0 < s.l.length) : Ren s (turnS s k far) (fun i => (i + k) % s.l.length) (fun i => (i + (s.l.length - k % s.l.length)) % s.l.length) far := by
  have hk := Nat.mod_lt k hn
  have key : ∀ i, i < s.l.length → ((i + k) % s.l.length + (s.l.length - k % s.l.length)) % s.l.length = i := fun i hi => by
    have h1 : (i + k) % s.l.length = (i + k % s.l.length) % s.l.length := by simp
    rw [h1]
    have h2 : i + k % s.l.length < s.l.length ∨ (s.l.length ≤ i + k % s.l.length ∧ i + k % s.l.length < 2 * s.l.length) := by omega
    rcases h2 with h2 | h2
    · rw [Nat.mod_eq_of_lt h2, show i + k % s.l.length + (s.l.length - k % s.l.length) = i + s.l.length by omega, Nat.add_mod_right, Nat.mod_eq_of_lt hi]
    · have h3 : i + k % s.l.length - s.l.length < s.l.length := by omega
      rw [Nat.mod_eq_sub_mod h2.1, Nat.mod_eq_of_lt h3, show i + k % s.l.length - s.l.length + (s.l.length - k % s.l.length) = i by omega, Nat.mod_eq_of_lt hi]
  refine ⟨rfl, rfl, rfl, rfl, rfl, rfl, rfl, rfl, turnTo_len _ _ _ _, fun i _ => Nat.mod_lt _ hn, fun i _ => Nat.mod_lt _ hn, key, fun i hi => ?_, fun i hi => ?_⟩
  · have h1 := key ((i + (s.l.length - k % s.l.length)) % s.l.length) (Nat.mod_lt _ hn)
    exact mod_inj (k := s.l.length - k % s.l.length) (Nat.mod_lt _ hn) hi h1
  · show ISheet.at' (turnS s k far) (((i + k) % s.l.length : Nat) : Int) = _
    unfold ISheet.at' turnS
    simp only [Int.toNat_natCast]
    exact turnTo_get s.l k far _ (Nat.le_refl _) i hi
theorem turn_ok {s : ISheet} (hs : s.ok = true) (k : Nat) (far : Int) (hfar : 0 ≤ far) (hb : ∀ p ∈ s.l, p.x.hi + far ≤ 1048576) : (turnS s k far).ok = true := by
  obtain ⟨h1, h2, h3, h4, h5, h6, h7, h8, h9, h10⟩ := (iok_iff s).1 hs
  refine (iok_iff _).2 ⟨h1, h2, h3, h4, h5, h6, ?_, h8, h9, by show (turnTo _ _ _ _).length ≤ 9; rw [turnTo_len]; exact h10⟩
  rw [List.all_eq_true] at h7
  have hstep : ∀ i, i ≤ s.l.length → ∀ p ∈ turnTo s.l k far i, p.ok = true := by
    intro i
    induction i with
    | zero => intro _ p hp; unfold turnTo at hp; rw [(List.mem_replicate.1 hp).2]; exact noSpot_ok
    | succ i ih =>
      intro hi p hp
      unfold turnTo at hp
      rcases List.mem_or_eq_of_mem_set hp with hp | rfl
      · exact ih (by omega) p hp
      · rw [List.getD_eq_getElem?_getD, List.getElem?_eq_getElem (by omega)]
        have hin : s.l[i] ∈ s.l := List.getElem_mem _
        have := (spot_iff _).1 (h7 _ hin)
        have := hb _ hin
        rw [Option.getD_some]
        refine (spot_iff _).2 ?_
        simp only [shiftP]
        omega
  rw [List.all_eq_true]
  exact hstep _ (Nat.le_refl _)
end Go.Proofs.Ytacioedolmaofaa
namespace Go.Proofs.Ytacioedolmaofaa
open Go.RowKit
set_option maxRecDepth 100000
set_option linter.unusedVariables false

theorem iandI (a b : Nat) (ha : a < 9223372036854775808) (hb : b < 18446744073709551616) : bits .and .i64 (a : Int) (b : Int) = ((a &&& b : Nat) : Int) := by
  have hx : a &&& b < 2 ^ 63 := Nat.lt_of_le_of_lt Nat.and_le_left (by omega)
  show IntKind.i64.wrap ((BitVec.ofInt 64 (a : Int) &&& BitVec.ofInt 64 (b : Int)).toNat : Int) = _
  rw [BitVec.toNat_and, ofInt_u64 a (by omega), ofInt_u64 b hb, IntKind.wrap_i64]
  omega
theorem iandNotI (a b : Nat) (ha : a < 9223372036854775808) (hb : b < 18446744073709551616) : bits .andNot .i64 (a : Int) (b : Int) = ((a &&& (18446744073709551615 - b) : Nat) : Int) := by
  have hx : a &&& (18446744073709551615 - b) < 2 ^ 63 := Nat.lt_of_le_of_lt Nat.and_le_left (by omega)
  show IntKind.i64.wrap ((BitVec.ofInt 64 (a : Int) &&& ~~~BitVec.ofInt 64 (b : Int)).toNat : Int) = _
  rw [BitVec.toNat_and, BitVec.toNat_not, ofInt_u64 a (by omega), ofInt_u64 b hb, IntKind.wrap_i64]
  have e : 2 ^ 64 - 1 - b = 18446744073709551615 - b := by omega
  rw [e]
  omega
theorem ibitI (a k : Nat) (ha : a < 9223372036854775808) : bits .and .i64 ((a : Int) / 2 ^ k) 1 = if a.testBit k then 1 else 0 := by
  rw [shr_u64, show (1 : Int) = ((1 : Nat) : Int) from rfl, iandI _ _ (Nat.lt_of_le_of_lt (Nat.div_le_self _ _) ha) (by omega), Nat.and_one_is_mod, Nat.testBit_eq_decide_div_mod_eq]
  by_cases h : a / 2 ^ k % 2 = 1
  · simp [h]
  · have : a / 2 ^ k % 2 = 0 := by omega
    simp [this]
theorem ishrI {a k : Nat} (h : a < 2 ^ k) : (a : Int) / 2 ^ k = 0 := by rw [shr_u64, Nat.div_eq_of_lt h]; rfl

/-- What ImageOpen finds. -/
structure OpenFacts (s : ISheet) (st fl : Nat) (lo hi : Int) (l : List ITr) : Prop where
  st9 : st < 512
  fl9 : fl < 512
  stn : st < 2 ^ s.l.length
  fln : fl < 2 ^ s.l.length
  no : st &&& fl = 0
  len : l.length ≤ 9
  lo1 : lo ≤ l.length
  hi1 : (l.length : Int) ≤ hi
  lo0 : 0 ≤ lo
  hin : hi ≤ s.l.length
  used : ∀ k, (st.testBit k = true → usedIn l (k : Int) = true) ∧ (fl.testBit k = true → usedIn l (k : Int) = false)
  tr : ∀ t ∈ l, t ∈ s.trails
  no' : ∀ k, k < s.l.length → whereTo s (k : Int) s.trails.length = none → ∀ t ∈ l, t.a ≠ (k : Int)
  at' : ∀ k, k < s.l.length → ∀ u, whereTo s (k : Int) s.trails.length = some u → fl.testBit k = false ∧ StarIn s (k : Int) u ∧ ∀ t ∈ l, t.a = (k : Int) → ∃ v, s.star t = some v ∧ SWithin v u
theorem bits_lt {a n : Nat} (h : ∀ k, a.testBit k = true → k < n) : a < 2 ^ n := by
  by_cases hc : a < 2 ^ n
  · exact hc
  · exfalso
    obtain ⟨k, hk, hb⟩ := Nat.exists_ge_and_testBit_of_ge_two_pow (Nat.le_of_not_lt hc)
    have := h k hb
    omega
theorem openFacts {s : ISheet} (hok : s.ok = true) (hm : (wayTold s).many ≠ 0) : OpenFacts s (tStars s) (tFlaws s) (wayTold s).lo (wayTold s).hi (fewW s.trails s.l.length (wayTold s).flaws 10 0 0) := by
  have hn : s.l.length ≤ 9 := ((iok_iff s).1 hok).2.2.2.2.2.2.2.2.2
  have hF := fewIs hn hm
  have hT := tellIs hok hm
  have hway : IsWay s (fewW s.trails s.l.length (wayTold s).flaws 10 0 0) := by
    refine ⟨hF.goes, ?_⟩
    rw [← flawN_flawsW hn _ (goes_wf hF.goes), hF.flaws]
    exact (way_iff hn).1 hm
  generalize fewW s.trails s.l.length (wayTold s).flaws 10 0 0 = l at hF hway
  have h1 : tStars s < 2 ^ s.l.length := bits_lt fun k hk => ((hT.stars k).1 hk).1
  have h2 : tFlaws s < 2 ^ s.l.length := bits_lt fun k hk => ((hT.flaws k).1 hk).1
  have h3 : 2 ^ s.l.length ≤ 2 ^ 9 := Nat.pow_le_pow_right (by omega) hn
  refine ⟨by omega, by omega, h1, h2, (and_zero_iff _ _).2 fun k hk => ?_, by have := way_len hway; omega, hT.lo l hway, hT.hi l hway, ?_, ?_, fun k => ⟨fun hk => ((hT.stars k).1 hk).2 l hway, fun hk => ((hT.flaws k).1 hk).2 l hway⟩, goes_mem hF.goes, fun k hk hw t ht e => ?_, fun k hk u hu => ⟨?_, (where_some hok hu).1, fun t ht e => ?_⟩⟩
  · cases hb : (tFlaws s).testBit k
    · rfl
    · have a := ((hT.stars k).1 hk).2 l hway
      have b := ((hT.flaws k).1 hb).2 l hway
      rw [a] at b
      cases b
  · obtain ⟨w, _, e⟩ := hT.lo'; omega
  · obtain ⟨w, hw, e⟩ := hT.hi'; have := way_len hw; omega
  · obtain ⟨u, v, h4, _⟩ := where_way hok hway ht e
    rw [hw] at h4
    cases h4
  · cases hb : (tFlaws s).testBit k
    · rfl
    · obtain ⟨w, hw, hu2⟩ := (where_some hok hu).2
      rw [((hT.flaws k).1 hb).2 w hw] at hu2
      cases hu2
  · obtain ⟨u', v, h4, h5, h6⟩ := where_way hok hway ht e
    rw [hu] at h4
    cases h4
    exact ⟨v, h5, h6⟩
end Go.Proofs.Ytacioedolmaofaa
