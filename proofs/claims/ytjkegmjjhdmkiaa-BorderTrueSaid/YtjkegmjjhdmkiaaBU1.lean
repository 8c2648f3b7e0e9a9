/- Plain Lean: what layer 6 (border) computes, with no program in sight: stars, borders, masks of bits, joinings. Plain Lean: what is gathered of joinings, with no program in sight. -/
namespace Go.Proofs.Ytjkegmjjhdmkiaa

structure Sp where
  lo : Int
  hi : Int
  deriving DecidableEq

structure Ed where
  e : Sp
  n : Sp
  b : Sp
  sure : Bool
  deriving DecidableEq

structure Bo where
  e : Sp
  n : Sp
  fs : List Ed
  ss : List Ed

def Sp.ok (s : Sp) (l h : Int) : Bool := decide (l ≤ s.lo) && decide (s.lo ≤ s.hi) && decide (s.hi ≤ h)
def Ed.ok (x : Ed) : Bool := x.e.ok (-1048576) 1048576 && x.n.ok (-1048576) 1048576 && x.b.ok 0 2000
def Bo.ok (b : Bo) : Bool := b.e.ok (-20) 20 && b.n.ok (-20) 20 && decide (b.fs.length ≤ 6) && decide (b.ss.length ≤ 6) && b.fs.all Ed.ok && b.ss.all Ed.ok
def Sp.has (s : Sp) (x : Int) : Bool := decide (s.lo ≤ x) && decide (x ≤ s.hi)
def Bo.shift (b : Bo) (s : Int × Int) : Bool := b.e.has s.1 && b.n.has s.2

/-- Have two spans an integer in common, the second one shifted? -/
def meets (x y : Sp) (d : Int) : Bool := decide (x.lo ≤ y.hi + d) && decide (y.lo + d ≤ x.hi)
def Ed.same (x y : Ed) (s : Int × Int) : Bool := meets x.e y.e s.1 && meets x.n y.n s.2 && meets x.b y.b 0
def Bo.same (b : Bo) (s : Int × Int) (i k : Nat) : Bool :=
  match b.fs[i]?, b.ss[k]? with
  | some x, some y => x.same y s
  | _, _ => false

/-- The bits below n for which p holds. -/
def maskOf (p : Nat → Bool) : Nat → Nat
  | 0 => 0
  | n + 1 => maskOf p n ||| (if p n then 2 ^ n else 0)

theorem maskOf_lt (p : Nat → Bool) (n : Nat) : maskOf p n < 2 ^ n := by
  induction n with
  | zero => simp [maskOf]
  | succ n ih =>
    unfold maskOf
    refine Nat.or_lt_two_pow (Nat.lt_of_lt_of_le ih (Nat.pow_le_pow_right (by omega) (by omega))) ?_
    split
    · exact Nat.pow_lt_pow_right (by omega) (by omega)
    · exact Nat.two_pow_pos _

theorem maskOf_testBit (p : Nat → Bool) (n k : Nat) : (maskOf p n).testBit k = (decide (k < n) && p k) := by
  induction n with
  | zero => simp [maskOf]
  | succ n ih =>
    unfold maskOf
    rw [Nat.testBit_or, ih]
    by_cases h : k = n
    · subst h
      cases hp : p k <;> simp
    · have h2 : (if p n = true then 2 ^ n else 0).testBit k = false := by
        split
        · exact Nat.testBit_two_pow_of_ne (by omega)
        · simp
      rw [h2, Bool.or_false]
      congr 1
      simp; omega

theorem maskOf_congr {p q : Nat → Bool} {n : Nat} (h : ∀ k, k < n → p k = q k) : maskOf p n = maskOf q n := by
  induction n with
  | zero => rfl
  | succ n ih => unfold maskOf; rw [ih (fun k hk => h k (by omega)), h n (by omega)]

theorem maskOf_false (n : Nat) : maskOf (fun _ => false) n = 0 := by
  induction n with
  | zero => rfl
  | succ n ih => unfold maskOf; simp [ih]

def sureAt (l : List Ed) (i : Nat) : Bool := match l[i]? with | some x => x.sure | none => false
def sures (l : List Ed) : Nat := maskOf (sureAt l) l.length

/-- The stars of the second zone that star i can be. -/
def Bo.row (b : Bo) (s : Int × Int) (i : Nat) : Nat := maskOf (b.same s i) b.ss.length

/-- All joinings that go on from l: r stars of the first zone are left; fset, sset: the stars that are Sure. -/
def joins (m : Nat → Nat → Bool) (fset sset : Nat → Bool) (ns : Nat) : Nat → List Int → List (List Int)
  | 0, l => if (List.range ns).all (fun k => !sset k || l.contains (k : Int)) then [l] else []
  | r + 1, l =>
    (if fset l.length then [] else joins m fset sset ns r (l ++ [-1])) ++
    (List.range ns).flatMap fun k => if m l.length k && !l.contains (k : Int) then joins m fset sset ns r (l ++ [(k : Int)]) else []

end Go.Proofs.Ytjkegmjjhdmkiaa
namespace Go.Proofs.Ytjkegmjjhdmkiaa

/-- Each joining goes on from l by r entries, each of them none or a star of the second zone. -/
theorem joins_mem {m : Nat → Nat → Bool} {fset sset : Nat → Bool} {ns : Nat} : ∀ (r : Nat) (l x : List Int), x ∈ joins m fset sset ns r l →
    ∃ t, x = l ++ t ∧ t.length = r ∧ ∀ e ∈ t, e = -1 ∨ (0 ≤ e ∧ e < ns) := by
  intro r
  induction r with
  | zero =>
    intro l x h
    unfold joins at h
    split at h
    · rw [List.mem_singleton] at h
      exact ⟨[], by simp [h], rfl, by simp⟩
    · cases h
  | succ r ih =>
    intro l x h
    unfold joins at h
    rcases List.mem_append.1 h with h | h
    · split at h
      · cases h
      · obtain ⟨t, rfl, ht, hm⟩ := ih _ _ h
        exact ⟨-1 :: t, by simp, by simp [ht], fun e he => by
          rcases List.mem_cons.1 he with rfl | he
          · exact .inl rfl
          · exact hm e he⟩
    · rw [List.mem_flatMap] at h
      obtain ⟨k, hk, h⟩ := h
      rw [List.mem_range] at hk
      split at h
      · obtain ⟨t, rfl, ht, hm⟩ := ih _ _ h
        exact ⟨(k : Int) :: t, by simp, by simp [ht], fun e he => by
          rcases List.mem_cons.1 he with rfl | he
          · exact .inr ⟨by omega, by omega⟩
          · exact hm e he⟩
      · cases h

/-- The bit of an entry. -/
def bitOf (y : Int) : Nat := if y = -1 then 0 else 2 ^ y.toNat
theorem bitOf_lt {y : Int} {ns : Nat} (h : y = -1 ∨ (0 ≤ y ∧ y < ns)) : bitOf y < 2 ^ ns := by
  unfold bitOf
  split
  · exact Nat.two_pow_pos _
  · exact Nat.pow_lt_pow_right (by omega) (by omega)

structure Prs where
  every : Nat
  some : Nat
  many : Bool
def Prs.put (p : Prs) (own : Nat) : Prs := ⟨(if p.many then p.every else own) &&& own, p.some ||| own, true⟩
def prsOf (l : List Nat) : Prs := l.foldl Prs.put ⟨0, 0, false⟩
theorem prsOf_snoc (l : List Nat) (n : Nat) : prsOf (l ++ [n]) = (prsOf l).put n := by simp [prsOf]
theorem prs_lt {N : Nat} : ∀ (l : List Nat) (p : Prs), p.every < 2 ^ N ∧ p.some < 2 ^ N → (∀ x ∈ l, x < 2 ^ N) → (l.foldl Prs.put p).every < 2 ^ N ∧ (l.foldl Prs.put p).some < 2 ^ N
  | [], _, h, _ => h
  | x :: l, p, h, hl => by
    refine prs_lt l (p.put x) ⟨?_, ?_⟩ (fun y hy => hl y (by simp [hy]))
    · exact Nat.and_lt_two_pow _ (hl x (by simp))
    · exact Nat.or_lt_two_pow h.2 (hl x (by simp))
theorem prsOf_lt {N : Nat} (l : List Nat) (h : ∀ x ∈ l, x < 2 ^ N) : (prsOf l).every < 2 ^ N ∧ (prsOf l).some < 2 ^ N := prs_lt l _ ⟨Nat.two_pow_pos _, Nat.two_pow_pos _⟩ h

/-- Which stars of the first, of the second zone are in pairs of a joining, from its entry i on, the first n entries looked at. -/
def jFirst (l : List Int) (n : Nat) : Nat := maskOf (fun i => match l[i]? with | some y => decide (y ≠ -1) | none => false) n
def jSecond (l : List Int) : Nat := l.foldl (fun s y => s ||| bitOf y) 0
theorem jSecond_snoc (l : List Int) (y : Int) : jSecond (l ++ [y]) = jSecond l ||| bitOf y := by simp [jSecond]
theorem foldl_or_lt {N : Nat} : ∀ (l : List Int) (s : Nat), s < 2 ^ N → (∀ y ∈ l, y = -1 ∨ (0 ≤ y ∧ y < N)) → l.foldl (fun s y => s ||| bitOf y) s < 2 ^ N
  | [], _, h, _ => h
  | y :: l, s, h, hl => foldl_or_lt l _ (Nat.or_lt_two_pow h (bitOf_lt (hl y (by simp)))) (fun z hz => hl z (by simp [hz]))
theorem jSecond_lt {N : Nat} (l : List Int) (h : ∀ y ∈ l, y = -1 ∨ (0 ≤ y ∧ y < N)) : jSecond l < 2 ^ N := foldl_or_lt l 0 (Nat.two_pow_pos _) h
theorem foldl_or_init (l : List Int) (s : Nat) : l.foldl (fun s y => s ||| bitOf y) s = s ||| jSecond l := by
  unfold jSecond
  suffices h : ∀ (l : List Int) (a b : Nat), l.foldl (fun s y => s ||| bitOf y) (a ||| b) = a ||| l.foldl (fun s y => s ||| bitOf y) b by simpa using h l s 0
  intro l
  induction l with
  | nil => intro a b; rfl
  | cons y l ih => intro a b; simp only [List.foldl_cons, Nat.or_assoc]; exact ih a _

/-- The stars that are in pairs of some of these joinings. -/
def allFirst (L : List (List Int)) : Nat := L.foldl (fun s x => s ||| jFirst x x.length) 0
def allSecond (L : List (List Int)) : Nat := L.foldl (fun s x => s ||| jSecond x) 0
theorem allFirst_snoc (L : List (List Int)) (x : List Int) : allFirst (L ++ [x]) = allFirst L ||| jFirst x x.length := by simp [allFirst]
theorem allSecond_snoc (L : List (List Int)) (x : List Int) : allSecond (L ++ [x]) = allSecond L ||| jSecond x := by simp [allSecond]
theorem foldl_orf_lt {α : Type} {N : Nat} (f : α → Nat) : ∀ (l : List α) (s : Nat), s < 2 ^ N → (∀ y ∈ l, f y < 2 ^ N) → l.foldl (fun s y => s ||| f y) s < 2 ^ N
  | [], _, h, _ => h
  | y :: l, s, h, hl => foldl_orf_lt f l _ (Nat.or_lt_two_pow h (hl y (by simp))) (fun z hz => hl z (by simp [hz]))
theorem allFirst_lt {N : Nat} (L : List (List Int)) (h : ∀ x ∈ L, x.length ≤ N) : allFirst L < 2 ^ N := foldl_orf_lt _ L 0 (Nat.two_pow_pos _) (fun x hx => Nat.lt_of_lt_of_le (maskOf_lt _ _) (Nat.pow_le_pow_right (by omega) (h x hx)))
theorem allSecond_lt {N : Nat} (L : List (List Int)) (h : ∀ x ∈ L, ∀ y ∈ x, y = -1 ∨ (0 ≤ y ∧ y < N)) : allSecond L < 2 ^ N := foldl_orf_lt _ L 0 (Nat.two_pow_pos _) (fun x hx => jSecond_lt x (h x hx))

/-- How many pairs a joining has. -/
def pairsIn (l : List Int) : Nat := (l.filter (fun y => decide (y ≠ -1))).length
theorem pairsIn_le (l : List Int) : pairsIn l ≤ l.length := List.length_filter_le _ _
theorem pairsIn_snoc (l : List Int) (y : Int) : pairsIn (l ++ [y]) = pairsIn l + if y = -1 then 0 else 1 := by
  unfold pairsIn
  rw [List.filter_append, List.length_append]
  by_cases h : y = -1 <;> simp [h]
/-- The first of those with the most pairs. -/
def bestOf : List ((Int × Int) × List Int) → Option ((Int × Int) × List Int) := fun L => L.foldl (fun o z => match o with | none => some z | some y => if pairsIn y.2 < pairsIn z.2 then some z else some y) none
theorem bestOf_snoc (L : List ((Int × Int) × List Int)) (z : (Int × Int) × List Int) : bestOf (L ++ [z]) = match bestOf L with | none => some z | some y => if pairsIn y.2 < pairsIn z.2 then some z else some y := by simp [bestOf]
end Go.Proofs.Ytjkegmjjhdmkiaa
