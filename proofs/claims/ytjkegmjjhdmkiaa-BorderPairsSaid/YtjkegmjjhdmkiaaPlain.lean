/- Plain Lean: what layer 6 (border) computes, with no program in sight: stars, borders, masks of bits, joinings. -/
namespace Go.Proofs.Ytjkegmjjhdmkiaa

structure Sp where
  lo : Int
  hi : Int
  deriving DecidableEq

structure Ed where
  e : Sp
  n : Sp
  b : Sp
  sure : Bool
  deriving DecidableEq

structure Bo where
  e : Sp
  n : Sp
  fs : List Ed
  ss : List Ed

def Sp.ok (s : Sp) (l h : Int) : Bool := decide (l ≤ s.lo) && decide (s.lo ≤ s.hi) && decide (s.hi ≤ h)
def Ed.ok (x : Ed) : Bool := x.e.ok (-1048576) 1048576 && x.n.ok (-1048576) 1048576 && x.b.ok 0 2000
def Bo.ok (b : Bo) : Bool := b.e.ok (-20) 20 && b.n.ok (-20) 20 && decide (b.fs.length ≤ 6) && decide (b.ss.length ≤ 6) && b.fs.all Ed.ok && b.ss.all Ed.ok
def Sp.has (s : Sp) (x : Int) : Bool := decide (s.lo ≤ x) && decide (x ≤ s.hi)
def Bo.shift (b : Bo) (s : Int × Int) : Bool := b.e.has s.1 && b.n.has s.2

/-- Have two spans an integer in common, the second one shifted? -/
def meets (x y : Sp) (d : Int) : Bool := decide (x.lo ≤ y.hi + d) && decide (y.lo + d ≤ x.hi)
def Ed.same (x y : Ed) (s : Int × Int) : Bool := meets x.e y.e s.1 && meets x.n y.n s.2 && meets x.b y.b 0
def Bo.same (b : Bo) (s : Int × Int) (i k : Nat) : Bool :=
  match b.fs[i]?, b.ss[k]? with
  | some x, some y => x.same y s
  | _, _ => false

/-- The bits below n for which p holds. -/
def maskOf (p : Nat → Bool) : Nat → Nat
  | 0 => 0
  | n + 1 => maskOf p n ||| (if p n then 2 ^ n else 0)

theorem maskOf_lt (p : Nat → Bool) (n : Nat) : maskOf p n < 2 ^ n := by
  induction n with
  | zero => simp [maskOf]
  | succ n ih =>
    unfold maskOf
    refine Nat.or_lt_two_pow (Nat.lt_of_lt_of_le ih (Nat.pow_le_pow_right (by omega) (by omega))) ?_
    split
    · exact Nat.pow_lt_pow_right (by omega) (by omega)
    · exact Nat.two_pow_pos _

theorem maskOf_testBit (p : Nat → Bool) (n k : Nat) : (maskOf p n).testBit k = (decide (k < n) && p k) := by
  induction n with
  | zero => simp [maskOf]
  | succ n ih =>
    unfold maskOf
    rw [Nat.testBit_or, ih]
    by_cases h : k = n
    · subst h
      cases hp : p k <;> simp
    · have h2 : (if p n = true then 2 ^ n else 0).testBit k = false := by
        split
        · exact Nat.testBit_two_pow_of_ne (by omega)
        · simp
      rw [h2, Bool.or_false]
      congr 1
      simp; omega

theorem maskOf_congr {p q : Nat → Bool} {n : Nat} (h : ∀ k, k < n → p k = q k) : maskOf p n = maskOf q n := by
  induction n with
  | zero => rfl
  | succ n ih => unfold maskOf; rw [ih (fun k hk => h k (by omega)), h n (by omega)]

theorem maskOf_false (n : Nat) : maskOf (fun _ => false) n = 0 := by
  induction n with
  | zero => rfl
  | succ n ih => unfold maskOf; simp [ih]

def sureAt (l : List Ed) (i : Nat) : Bool := match l[i]? with | some x => x.sure | none => false
def sures (l : List Ed) : Nat := maskOf (sureAt l) l.length

/-- The stars of the second zone that star i can be. -/
def Bo.row (b : Bo) (s : Int × Int) (i : Nat) : Nat := maskOf (b.same s i) b.ss.length

/-- All joinings that go on from l: r stars of the first zone are left; fset, sset: the stars that are Sure. -/
def joins (m : Nat → Nat → Bool) (fset sset : Nat → Bool) (ns : Nat) : Nat → List Int → List (List Int)
  | 0, l => if (List.range ns).all (fun k => !sset k || l.contains (k : Int)) then [l] else []
  | r + 1, l =>
    (if fset l.length then [] else joins m fset sset ns r (l ++ [-1])) ++
    (List.range ns).flatMap fun k => if m l.length k && !l.contains (k : Int) then joins m fset sset ns r (l ++ [(k : Int)]) else []

end Go.Proofs.Ytjkegmjjhdmkiaa
