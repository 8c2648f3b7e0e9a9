/- The law BorderTurned, plain: zones exchanged, the shift turned round; all stars of the second zone farther to the east. -/
import Derived.Test.YtjkegmjjhdmkiaaBU19
namespace Go.Proofs.Ytjkegmjjhdmkiaa
set_option maxRecDepth 100000

theorem nodup_len {α : Type} [BEq α] [LawfulBEq α] : ∀ (l m : List α), l.Nodup → (∀ x ∈ l, x ∈ m) → l.length ≤ m.length
  | [], _, _, _ => Nat.zero_le _
  | a :: l, m, hn, hs => by
    have ha := hs a List.mem_cons_self
    have h1 := List.nodup_cons.1 hn
    have h2 := nodup_len l (m.erase a) h1.2 (fun x hx => (List.mem_erase_of_ne (fun e : x = a => h1.1 (by rw [← e]; exact hx))).2 (hs x (List.mem_cons_of_mem _ hx)))
    have h3 := List.length_erase_of_mem ha
    have h4 := List.length_pos_of_mem ha
    simp only [List.length_cons]
    omega

theorem lexlt_ne {x y : List Int} (h : lexlt x y) : x ≠ y := fun e => by
  obtain ⟨i, _, _, hi⟩ := h
  rw [e] at hi
  omega
theorem bJoins_nodup (b : Bo) (f s : Nat) (z : Int × Int) : (bJoins b f s z).Nodup := List.Pairwise.imp lexlt_ne (joins_sorted _ _)

/-- Zones exchanged, the shift turned round. -/
def Bo.turn (b : Bo) : Bo := ⟨⟨-b.e.hi, -b.e.lo⟩, ⟨-b.n.hi, -b.n.lo⟩, b.ss, b.fs⟩
theorem turn_turn (b : Bo) : b.turn.turn = b := by simp [Bo.turn]
def neg2 (z : Int × Int) : Int × Int := (-z.1, -z.2)
theorem neg2_neg2 (z : Int × Int) : neg2 (neg2 z) = z := by simp [neg2]
theorem meets_turn (x y : Sp) (d : Int) : meets y x (-d) = meets x y d := by
  unfold meets
  rw [Bool.and_comm]
  congr 1 <;> (rw [decide_eq_decide]; omega)
theorem turn_same (b : Bo) (z : Int × Int) (i k : Nat) : b.turn.same (neg2 z) k i = b.same z i k := by
  unfold Bo.same Bo.turn
  simp only
  cases hi : b.fs[i]? with
  | none => cases b.ss[k]? <;> rfl
  | some x =>
    cases hk : b.ss[k]? with
    | none => rfl
    | some y =>
      simp only [Ed.same, neg2]
      rw [meets_turn, meets_turn]
      have := meets_turn x.b y.b 0
      simp only [Int.neg_zero] at this
      rw [this]
theorem turn_shift (b : Bo) (z : Int × Int) : b.turn.shift (neg2 z) = b.shift z := by
  unfold Bo.shift Bo.turn Sp.has neg2
  simp only
  rw [Bool.and_comm (decide (-b.e.hi ≤ -z.1)), Bool.and_comm (decide (-b.n.hi ≤ -z.2))]
  congr 1 <;> congr 1 <;> (rw [decide_eq_decide]; omega)
theorem turn_ok (b : Bo) (h : b.ok = true) : b.turn.ok = true := by
  rw [ok_iff] at h ⊢
  obtain ⟨h1, h2, h3, h4, h5, h6⟩ := h
  refine ⟨?_, ?_, h4, h3, h6, h5⟩
  · show -20 ≤ -b.e.hi ∧ -b.e.hi ≤ -b.e.lo ∧ -b.e.lo ≤ 20
    omega
  · show -20 ≤ -b.n.hi ∧ -b.n.hi ≤ -b.n.lo ∧ -b.n.lo ≤ 20
    omega

/-- A joining, told from the other zone. -/
def invJ (n : Nat) (x : List Int) : List Int := (List.range n).map fun (k : Nat) => if (k : Int) ∈ x then (x.idxOf (k : Int) : Int) else -1
theorem invJ_length (n : Nat) (x : List Int) : (invJ n x).length = n := by simp [invJ]
theorem invJ_get (n : Nat) (x : List Int) (k : Nat) (h : k < n) : (invJ n x).getD k (-1) = if (k : Int) ∈ x then (x.idxOf (k : Int) : Int) else -1 := by
  rw [getD_get (by rw [invJ_length]; exact h)]
  simp [invJ]

section
variable {b : Bo} {f s : Nat} {z : Int × Int} {x : List Int} (J : IsJoin b f s z x)
include J
theorem IsJoin.inj {i j : Nat} (hi : i < b.fs.length) (hj : j < b.fs.length) (k : Nat) (h1 : x.getD i (-1) = (k : Int)) (h2 : x.getD j (-1) = (k : Int)) : i = j := by
  apply Classical.byContradiction
  intro hne
  rcases Nat.lt_or_gt_of_ne hne with h | h
  · rcases J.at' j hj with ⟨h3, _⟩ | ⟨k', _, h3, _, h4⟩
    · omega
    · exact h4 i h (by omega)
  · rcases J.at' i hi with ⟨h3, _⟩ | ⟨k', _, h3, _, h4⟩
    · omega
    · exact h4 j h (by omega)
theorem IsJoin.mem {k : Nat} : (k : Int) ∈ x ↔ ∃ i, i < b.fs.length ∧ x.getD i (-1) = (k : Int) := by
  constructor
  · intro h
    obtain ⟨i, hi, e⟩ := List.mem_iff_getElem.1 h
    exact ⟨i, by rw [← J.len]; exact hi, by rw [getD_get hi]; exact e⟩
  · rintro ⟨i, hi, e⟩
    rw [getD_get (by rw [J.len]; exact hi)] at e
    rw [← e]
    exact List.getElem_mem _
theorem IsJoin.inv {i k : Nat} (hi : i < b.fs.length) (hk : k < b.ss.length) : (invJ b.ss.length x).getD k (-1) = (i : Int) ↔ x.getD i (-1) = (k : Int) := by
  rw [invJ_get _ _ _ hk]
  by_cases hm : (k : Int) ∈ x
  · rw [if_pos hm]
    have hlt : x.idxOf (k : Int) < x.length := List.idxOf_lt_length_of_mem hm
    have hg : x.getD (x.idxOf (k : Int)) (-1) = (k : Int) := by
      rw [getD_get hlt]
      exact List.getElem_idxOf hlt
    constructor
    · intro e
      have : x.idxOf (k : Int) = i := by omega
      rw [← this]; exact hg
    · intro e
      have := J.inj (by rw [← J.len]; exact hlt) hi k hg e
      omega
  · rw [if_neg hm]
    constructor
    · intro e; omega
    · intro e
      exact absurd (J.mem.2 ⟨i, hi, e⟩) hm
theorem IsJoin.ent {i : Nat} (hi : i < b.fs.length) : x.getD i (-1) = -1 ∨ ∃ k, k < b.ss.length ∧ x.getD i (-1) = (k : Int) := by
  rcases J.at' i hi with ⟨h, _⟩ | ⟨k, h1, h2, _, _⟩
  · exact .inl h
  · exact .inr ⟨k, h1, h2⟩
theorem IsJoin.inv_ent {k : Nat} (hk : k < b.ss.length) : (invJ b.ss.length x).getD k (-1) = -1 ∨ ∃ i, i < b.fs.length ∧ (invJ b.ss.length x).getD k (-1) = (i : Int) := by
  rw [invJ_get _ _ _ hk]
  by_cases hm : (k : Int) ∈ x
  · rw [if_pos hm]
    exact .inr ⟨_, by rw [← J.len]; exact List.idxOf_lt_length_of_mem hm, rfl⟩
  · rw [if_neg hm]; exact .inl rfl
theorem IsJoin.turn : IsJoin b.turn s f (neg2 z) (invJ b.ss.length x) := by
  refine ⟨invJ_length _ _, fun k hk => ?_, fun i hi hf => ?_⟩
  · have hk' : k < b.ss.length := hk
    rcases J.inv_ent hk' with h | ⟨i, hi, h⟩
    · left
      refine ⟨h, ?_⟩
      cases hq : s.testBit k
      · rfl
      · have hm := J.all k hk' hq
        rw [invJ_get _ _ _ hk', if_pos hm] at h
        omega
    · have hx := (J.inv hi hk').1 h
      refine .inr ⟨i, hi, h, ?_, fun j hj e => ?_⟩
      · rw [turn_same]
        rcases J.at' i hi with ⟨h3, _⟩ | ⟨k', _, h3, h4, _⟩
        · omega
        · have : k' = k := by omega
          rw [← this]; exact h4
      · have := (J.inv hi (by omega)).1 e
        omega
  · have hi' : i < b.fs.length := hi
    rcases J.at' i hi' with ⟨_, h⟩ | ⟨k, h1, h2, _, _⟩
    · rw [hf] at h; cases h
    · have := (J.inv hi' h1).2 h2
      rw [← this, getD_get (by rw [invJ_length]; exact h1)]
      exact List.getElem_mem _
theorem IsJoin.inv_inv : invJ b.fs.length (invJ b.ss.length x) = x := by
  have T := J.turn
  refine List.ext_getElem (by rw [invJ_length, J.len]) (fun i h1 h2 => ?_)
  rw [invJ_length] at h1
  have g1 : (invJ b.fs.length (invJ b.ss.length x))[i] = (invJ b.fs.length (invJ b.ss.length x)).getD i (-1) := (getD_get (by rw [invJ_length]; exact h1)).symm
  have g2 : x[i] = x.getD i (-1) := (getD_get h2).symm
  rw [g1, g2]
  have key : ∀ k, k < b.ss.length → ((invJ b.fs.length (invJ b.ss.length x)).getD i (-1) = (k : Int) ↔ x.getD i (-1) = (k : Int)) := fun k hk => by
    rw [← J.inv h1 hk]
    exact T.inv (show k < b.turn.fs.length from hk) (show i < b.turn.ss.length from h1)
  rcases J.ent h1 with h | ⟨k, hk, h⟩
  · rcases T.inv_ent (show i < b.turn.ss.length from h1) with h' | ⟨k, hk, h'⟩
    · rw [h]; exact h'
    · have := (key k hk).1 h'
      omega
  · rw [h]
    exact (key k hk).2 h
end

theorem turn_count (b : Bo) (f s : Nat) (z : Int × Int) : (bJoins b.turn s f (neg2 z)).length = (bJoins b f s z).length := by
  have key : ∀ (b : Bo) (f s : Nat) (z : Int × Int), (bJoins b f s z).length ≤ (bJoins b.turn s f (neg2 z)).length := by
    intro b f s z
    have h := nodup_len ((bJoins b f s z).map (invJ b.ss.length)) (bJoins b.turn s f (neg2 z)) ?_ ?_
    · simpa using h
    · have hnd := bJoins_nodup b f s z
      have hinj : ∀ x ∈ bJoins b f s z, ∀ y ∈ bJoins b f s z, invJ b.ss.length x = invJ b.ss.length y → x = y := fun x hx y hy e => by
        have h1 := (mem_bJoins.1 hx).inv_inv
        have h2 := (mem_bJoins.1 hy).inv_inv
        rw [← h1, ← h2, e]
      revert hnd hinj
      generalize bJoins b f s z = L
      intro hnd hinj
      induction L with
      | nil => exact List.nodup_nil
      | cons a L ih =>
        rw [List.nodup_cons] at hnd
        rw [List.map_cons, List.nodup_cons]
        refine ⟨fun hm => ?_, ih hnd.2 (fun x hx y hy => hinj x (List.mem_cons_of_mem _ hx) y (List.mem_cons_of_mem _ hy))⟩
        obtain ⟨y, hy, e⟩ := List.mem_map.1 hm
        have := hinj y (List.mem_cons_of_mem _ hy) a List.mem_cons_self e
        rw [this] at hy
        exact hnd.1 hy
    · intro y hy
      obtain ⟨x, hx, rfl⟩ := List.mem_map.1 hy
      exact mem_bJoins.2 (mem_bJoins.1 hx).turn
  refine Nat.le_antisymm ?_ (key b f s z)
  have := key b.turn s f (neg2 z)
  rwa [turn_turn, neg2_neg2] at this

theorem turn_all {b : Bo} {f s : Nat} {z : Joined} (h : z ∈ allOf b f s) : (neg2 z.1, invJ b.ss.length z.2) ∈ allOf b.turn s f := by
  rw [mem_allOf] at h ⊢
  exact ⟨by rw [turn_shift]; exact h.1, h.2.turn⟩
theorem turn_nil (b : Bo) (f s : Nat) : allOf b.turn s f = [] ↔ allOf b f s = [] := by
  have key : ∀ (b : Bo) (f s : Nat), allOf b.turn s f = [] → allOf b f s = [] := by
    intro b f s h
    rw [List.eq_nil_iff_forall_not_mem] at h ⊢
    exact fun z hz => h _ (turn_all hz)
  refine ⟨key b f s, fun h => key b.turn s f ?_⟩
  rwa [turn_turn]
theorem turn_spans {b : Bo} {f s : Nat} {x y : Sp} (h : ShiftLaw b f s x y) : ShiftLaw b.turn s f ⟨-x.hi, -x.lo⟩ ⟨-y.hi, -y.lo⟩ := by
  have back : ∀ z ∈ allOf b.turn s f, (neg2 z.1, invJ b.turn.ss.length z.2) ∈ allOf b f s := fun z hz => by
    have := turn_all hz
    rwa [turn_turn] at this
  refine ⟨fun z hz => ?_, ?_, ?_, ?_, ?_⟩
  · have := h.all _ (back z hz)
    rw [has_iff, has_iff] at this ⊢
    simp only [neg2] at this ⊢
    omega
  · obtain ⟨z, hz, e⟩ := h.xhi; exact ⟨_, turn_all hz, by simp only [neg2]; omega⟩
  · obtain ⟨z, hz, e⟩ := h.xlo; exact ⟨_, turn_all hz, by simp only [neg2]; omega⟩
  · obtain ⟨z, hz, e⟩ := h.yhi; exact ⟨_, turn_all hz, by simp only [neg2]; omega⟩
  · obtain ⟨z, hz, e⟩ := h.ylo; exact ⟨_, turn_all hz, by simp only [neg2]; omega⟩
theorem spans_one {b : Bo} {f s : Nat} {x y u v : Sp} (h : ShiftLaw b f s x y) (k : ShiftLaw b f s u v) : x = u ∧ y = v := by
  have g : ∀ {x y u v : Sp}, ShiftLaw b f s x y → ShiftLaw b f s u v → u.lo ≤ x.lo ∧ x.hi ≤ u.hi ∧ v.lo ≤ y.lo ∧ y.hi ≤ v.hi := by
    intro x y u v h k
    have a := fun (z : Joined) hz => by
      have := k.all z hz
      rw [has_iff, has_iff] at this
      exact this
    obtain ⟨z1, h1, e1⟩ := h.xlo
    obtain ⟨z2, h2, e2⟩ := h.xhi
    obtain ⟨z3, h3, e3⟩ := h.ylo
    obtain ⟨z4, h4, e4⟩ := h.yhi
    have k1 := a z1 h1
    have k2 := a z2 h2
    have k3 := a z3 h3
    have k4 := a z4 h4
    omega
  have g1 := g h k
  have g2 := g k h
  obtain ⟨x1, x2⟩ := x
  obtain ⟨y1, y2⟩ := y
  obtain ⟨u1, u2⟩ := u
  obtain ⟨v1, v2⟩ := v
  simp only at g1 g2
  constructor <;> (congr 1 <;> omega)

theorem turn_shiftL (b : Bo) (hok : b.ok = true) : (bShift b.turn).2.2 = (bShift b).2.2 ∧ ((bShift b).2.2 = 0 → bShift b.turn = (⟨-(bShift b).1.hi, -(bShift b).1.lo⟩, ⟨-(bShift b).2.1.hi, -(bShift b).2.1.lo⟩, 0)) := by
  by_cases h : allOf b (sures b.fs) (sures b.ss) = []
  · have h' : allOf b.turn (sures b.turn.fs) (sures b.turn.ss) = [] := (turn_nil b _ _).2 h
    have e1 : bShift b = (⟨0, 0⟩, ⟨0, 0⟩, 4) := by unfold bShift; rw [if_pos hok, if_pos h]
    have e2 : bShift b.turn = (⟨0, 0⟩, ⟨0, 0⟩, 4) := by unfold bShift; rw [if_pos (turn_ok b hok), if_pos h']
    rw [e1, e2]
    exact ⟨rfl, fun h => by cases h⟩
  · have h' : allOf b.turn (sures b.turn.fs) (sures b.turn.ss) ≠ [] := fun e => h ((turn_nil b _ _).1 e)
    obtain ⟨x, y, e1, hl⟩ := bShift_law hok h
    obtain ⟨u, v, e2, hl'⟩ := bShift_law (turn_ok b hok) h'
    obtain ⟨rfl, rfl⟩ := spans_one hl' (turn_spans hl)
    rw [e1, e2]
    exact ⟨rfl, fun _ => rfl⟩

theorem turn_bits {b : Bo} {f s : Nat} : allSecond ((allOf b.turn s f).map (·.2)) = allFirst ((allOf b f s).map (·.2)) := by
  refine Nat.eq_of_testBit_eq (fun k => ?_)
  rw [Bool.eq_iff_iff, allSecond_bit, allFirst_bit, List.any_map, List.any_map, List.any_eq_true, List.any_eq_true]
  have nn : ∀ {b : Bo} {f s : Nat} {z : Joined}, z ∈ allOf b f s → ∀ y ∈ z.2, y = -1 ∨ 0 ≤ y := fun hz y hy => ((bJoins_mem (mem_bJoins.2 (mem_allOf.1 hz).2)).2 y hy).imp id (fun h => h.1)
  constructor
  · rintro ⟨z, hz, h⟩
    simp only [Function.comp] at h
    rw [jSecond_bit z.2 (nn hz)] at h
    have hj := (mem_allOf.1 hz).2
    obtain ⟨i, hi, e⟩ := hj.mem.1 h
    have hb := turn_all hz
    rw [turn_turn] at hb
    refine ⟨_, hb, ?_⟩
    simp only [Function.comp]
    rw [jFirst_bit, invJ_length]
    have hkl : k < b.turn.ss.length := by
      rcases hj.ent hi with h' | ⟨k', h1, h2⟩
      · omega
      · have : k' = k := by omega
        rw [← this]; exact h1
    refine ⟨hkl, ?_⟩
    rw [(hj.inv hi hkl).2 e]
    omega
  · rintro ⟨z, hz, h⟩
    simp only [Function.comp] at h
    rw [jFirst_bit] at h
    have hj := (mem_allOf.1 hz).2
    have hk : k < b.fs.length := by rw [← hj.len]; exact h.1
    refine ⟨_, turn_all hz, ?_⟩
    simp only [Function.comp]
    rw [jSecond_bit _ (nn (turn_all hz))]
    rcases hj.ent hk with h' | ⟨k', h1, h2⟩
    · exact absurd h' h.2
    · exact hj.turn.mem.2 ⟨k', h1, (hj.inv hk h1).2 h2⟩

theorem turn_alone (b : Bo) (hok : b.ok = true) : bAlone b.turn = ((bAlone b).2.1, (bAlone b).1, (bAlone b).2.2) := by
  unfold bAlone
  rw [if_pos hok, if_pos (turn_ok b hok)]
  have hs : sures b.turn.fs = sures b.ss := rfl
  have hf : sures b.turn.ss = sures b.fs := rfl
  rw [hs, hf]
  by_cases h : allOf b (sures b.fs) (sures b.ss) = []
  · rw [if_pos h, if_pos ((turn_nil b _ _).2 h)]
  · rw [if_neg h, if_neg (fun e => h ((turn_nil b _ _).1 e))]
    have e1 := turn_bits (b := b) (f := sures b.fs) (s := sures b.ss)
    have e2 := turn_bits (b := b.turn) (f := sures b.ss) (s := sures b.fs)
    rw [turn_turn] at e2
    rw [e1, ← e2]
    rfl

theorem turn_possible (b : Bo) (hok : b.ok = true) (e n : Int) : bPossible b.turn (-e) (-n) = bPossible b e n := by
  unfold bPossible
  rw [if_pos hok, if_pos (turn_ok b hok)]
  have hs := turn_shift b (e, n)
  have hc := turn_count b (sures b.fs) (sures b.ss) (e, n)
  unfold neg2 at hs hc
  simp only at hs hc
  rw [hs]
  have e1 : sures b.turn.fs = sures b.ss := rfl
  have e2 : sures b.turn.ss = sures b.fs := rfl
  rw [e1, e2, hc]

/-- All stars of the second zone farther to the east. -/
def Ed.far (x : Ed) (d : Int) : Ed := { x with e := ⟨x.e.lo + d, x.e.hi + d⟩ }
def Bo.far (b : Bo) (d : Int) : Bo := ⟨⟨b.e.lo - d, b.e.hi - d⟩, b.n, b.fs, b.ss.map (·.far d)⟩
theorem far_same (b : Bo) (d : Int) (z : Int × Int) (i k : Nat) : (b.far d).same (z.1 - d, z.2) i k = b.same z i k := by
  unfold Bo.same Bo.far
  simp only [List.getElem?_map]
  cases hi : b.fs[i]? with
  | none => cases b.ss[k]? <;> rfl
  | some x =>
    cases hk : b.ss[k]? with
    | none => rfl
    | some y =>
      simp only [Option.map_some, Ed.same, Ed.far]
      have : meets x.e ⟨y.e.lo + d, y.e.hi + d⟩ (z.1 - d) = meets x.e y.e z.1 := by
        unfold meets
        congr 1 <;> (rw [decide_eq_decide]; simp only; omega)
      rw [this]
theorem far_joins (b : Bo) (d : Int) (f s : Nat) (z : Int × Int) : bJoins (b.far d) f s (z.1 - d, z.2) = bJoins b f s z := by
  unfold bJoins
  have h1 : (b.far d).ss.length = b.ss.length := by simp [Bo.far]
  have h2 : (b.far d).fs.length = b.fs.length := rfl
  have h3 : (b.far d).row (z.1 - d, z.2) = b.row z := funext fun i => by
    unfold Bo.row
    rw [h1]
    exact maskOf_congr fun k _ => far_same b d z i k
  rw [h1, h2, h3]
theorem far_shifts (b : Bo) (d : Int) : shiftsOf (b.far d) = (shiftsOf b).map fun z => (z.1 - d, z.2) := by
  have h1 : eastN (b.far d) = eastN b := by unfold eastN Bo.far; congr 1; simp only; omega
  have h2 : northN (b.far d) = northN b := rfl
  unfold shiftsOf shiftsTo
  rw [h1, h2, List.map_flatMap]
  congr 1
  funext k
  unfold shiftRow
  rw [List.map_map]
  refine List.map_congr_left fun j _ => ?_
  exact Prod.ext (by simp [Bo.far]; omega) rfl
theorem far_sures (b : Bo) (d : Int) : sures (b.far d).ss = sures b.ss ∧ sures (b.far d).fs = sures b.fs := by
  refine ⟨?_, rfl⟩
  unfold sures
  have h1 : (b.far d).ss.length = b.ss.length := by simp [Bo.far]
  rw [h1]
  refine maskOf_congr fun k hk => ?_
  unfold sureAt Bo.far
  simp only [List.getElem?_map]
  rw [List.getElem?_eq_getElem hk]
  rfl
theorem far_allOf (b : Bo) (d : Int) (f s : Nat) : allOf (b.far d) f s = (allOf b f s).map fun z => ((z.1.1 - d, z.1.2), z.2) := by
  unfold allOf joinedOf
  rw [far_shifts, List.flatMap_map, List.map_flatMap]
  congr 1
  funext z
  rw [far_joins]
  unfold withShift
  rw [List.map_map]
  rfl
theorem far_pairs (b : Bo) (d i : Int) (hok : b.ok = true) (hok' : (b.far d).ok = true) : bPairs (b.far d) i = bPairs b i := by
  unfold bPairs
  rw [if_pos hok, if_pos hok', (far_sures b d).1, (far_sures b d).2, far_allOf]
  have h2 : (b.far d).fs.length = b.fs.length := rfl
  rw [h2, List.map_map]
  simp only [List.map_eq_nil_iff]
  rfl
theorem far_shiftL (b : Bo) (d : Int) (hok : b.ok = true) (hok' : (b.far d).ok = true) : (bShift (b.far d)).2.2 = (bShift b).2.2 ∧ ((bShift b).2.2 = 0 → bShift (b.far d) = (⟨(bShift b).1.lo - d, (bShift b).1.hi - d⟩, (bShift b).2.1, 0)) := by
  have hnil : allOf (b.far d) (sures (b.far d).fs) (sures (b.far d).ss) = [] ↔ allOf b (sures b.fs) (sures b.ss) = [] := by
    rw [(far_sures b d).1, (far_sures b d).2, far_allOf, List.map_eq_nil_iff]
  by_cases h : allOf b (sures b.fs) (sures b.ss) = []
  · have e1 : bShift b = (⟨0, 0⟩, ⟨0, 0⟩, 4) := by unfold bShift; rw [if_pos hok, if_pos h]
    have e2 : bShift (b.far d) = (⟨0, 0⟩, ⟨0, 0⟩, 4) := by unfold bShift; rw [if_pos hok', if_pos (hnil.2 h)]
    rw [e1, e2]
    exact ⟨rfl, fun h => by cases h⟩
  · obtain ⟨x, y, e1, hl⟩ := bShift_law hok h
    obtain ⟨u, v, e2, hl'⟩ := bShift_law hok' (fun e => h (hnil.1 e))
    rw [(far_sures b d).1, (far_sures b d).2] at hl'
    have hl2 : ShiftLaw (b.far d) (sures b.fs) (sures b.ss) ⟨x.lo - d, x.hi - d⟩ y := by
      have hm : ∀ z, z ∈ allOf b (sures b.fs) (sures b.ss) → ((z.1.1 - d, z.1.2), z.2) ∈ allOf (b.far d) (sures b.fs) (sures b.ss) := fun z hz => by
        rw [far_allOf]; exact List.mem_map.2 ⟨z, hz, rfl⟩
      refine ⟨fun z hz => ?_, ?_, ?_, ?_, ?_⟩
      · rw [far_allOf, List.mem_map] at hz
        obtain ⟨z, hz, rfl⟩ := hz
        have := hl.all z hz
        rw [has_iff, has_iff] at this ⊢
        dsimp only
        omega
      · obtain ⟨z, hz, e⟩ := hl.xlo; exact ⟨_, hm z hz, by simp only; omega⟩
      · obtain ⟨z, hz, e⟩ := hl.xhi; exact ⟨_, hm z hz, by simp only; omega⟩
      · obtain ⟨z, hz, e⟩ := hl.ylo; exact ⟨_, hm z hz, e⟩
      · obtain ⟨z, hz, e⟩ := hl.yhi; exact ⟨_, hm z hz, e⟩
    obtain ⟨rfl, rfl⟩ := spans_one hl' hl2
    rw [e1, e2]
    exact ⟨rfl, fun _ => rfl⟩
end Go.Proofs.Ytjkegmjjhdmkiaa
