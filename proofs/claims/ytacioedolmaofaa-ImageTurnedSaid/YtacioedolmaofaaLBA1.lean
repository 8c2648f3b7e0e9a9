/- Plain Lean: what layer 6 (border) computes, with no program in sight: stars, borders, masks of bits, joinings. Plain Lean: what layer 2 (image) computes, with no program in sight: sheets, trails, stars, ways. Plain Lean: what is told of all ways, by a fold over them. Plain Lean: the star of a trail, as the program tells it, is the document's. Plain Lean: all ways, as the document goes through them: by three numbers. Plain Lean: the images of trails as sets, by bits. Plain Lean: how many images are flaws. Plain Lean: ways, whatever the fuel; with fewer flaws allowed; the first one. Plain Lean: what is told of all ways that go on, with fuel enough; how great it can be. -/
namespace Go.Proofs.Ytacioedolmaofaa

structure Sp where
  lo : Int
  hi : Int
  deriving DecidableEq

structure Ed where
  e : Sp
  n : Sp
  b : Sp
  sure : Bool
  deriving DecidableEq

structure Bo where
  e : Sp
  n : Sp
  fs : List Ed
  ss : List Ed

def Sp.ok (s : Sp) (l h : Int) : Bool := decide (l ≤ s.lo) && decide (s.lo ≤ s.hi) && decide (s.hi ≤ h)
def Ed.ok (x : Ed) : Bool := x.e.ok (-1048576) 1048576 && x.n.ok (-1048576) 1048576 && x.b.ok 0 2000
def Bo.ok (b : Bo) : Bool := b.e.ok (-20) 20 && b.n.ok (-20) 20 && decide (b.fs.length ≤ 6) && decide (b.ss.length ≤ 6) && b.fs.all Ed.ok && b.ss.all Ed.ok
def Sp.has (s : Sp) (x : Int) : Bool := decide (s.lo ≤ x) && decide (x ≤ s.hi)
def Bo.shift (b : Bo) (s : Int × Int) : Bool := b.e.has s.1 && b.n.has s.2

/-- Have two spans an integer in common, the second one shifted? -/
def meets (x y : Sp) (d : Int) : Bool := decide (x.lo ≤ y.hi + d) && decide (y.lo + d ≤ x.hi)
def Ed.same (x y : Ed) (s : Int × Int) : Bool := meets x.e y.e s.1 && meets x.n y.n s.2 && meets x.b y.b 0
def Bo.same (b : Bo) (s : Int × Int) (i k : Nat) : Bool :=
  match b.fs[i]?, b.ss[k]? with
  | some x, some y => x.same y s
  | _, _ => false

/-- The bits below n for which p holds. -/
def maskOf (p : Nat → Bool) : Nat → Nat
  | 0 => 0
  | n + 1 => maskOf p n ||| (if p n then 2 ^ n else 0)

theorem maskOf_lt (p : Nat → Bool) (n : Nat) : maskOf p n < 2 ^ n := by
  induction n with
  | zero => simp [maskOf]
  | succ n ih =>
    unfold maskOf
    refine Nat.or_lt_two_pow (Nat.lt_of_lt_of_le ih (Nat.pow_le_pow_right (by omega) (by omega))) ?_
    split
    · exact Nat.pow_lt_pow_right (by omega) (by omega)
    · exact Nat.two_pow_pos _

theorem maskOf_testBit (p : Nat → Bool) (n k : Nat) : (maskOf p n).testBit k = (decide (k < n) && p k) := by
  induction n with
  | zero => simp [maskOf]
  | succ n ih =>
    unfold maskOf
    rw [Nat.testBit_or, ih]
    by_cases h : k = n
    · subst h
      cases hp : p k <;> simp
    · have h2 : (if p n = true then 2 ^ n else 0).testBit k = false := by
        split
        · exact Nat.testBit_two_pow_of_ne (by omega)
        · simp
      rw [h2, Bool.or_false]
      congr 1
      simp; omega

theorem maskOf_congr {p q : Nat → Bool} {n : Nat} (h : ∀ k, k < n → p k = q k) : maskOf p n = maskOf q n := by
  induction n with
  | zero => rfl
  | succ n ih => unfold maskOf; rw [ih (fun k hk => h k (by omega)), h n (by omega)]

theorem maskOf_false (n : Nat) : maskOf (fun _ => false) n = 0 := by
  induction n with
  | zero => rfl
  | succ n ih => unfold maskOf; simp [ih]

def sureAt (l : List Ed) (i : Nat) : Bool := match l[i]? with | some x => x.sure | none => false
def sures (l : List Ed) : Nat := maskOf (sureAt l) l.length

/-- The stars of the second zone that star i can be. -/
def Bo.row (b : Bo) (s : Int × Int) (i : Nat) : Nat := maskOf (b.same s i) b.ss.length

/-- All joinings that go on from l: r stars of the first zone are left; fset, sset: the stars that are Sure. -/
def joins (m : Nat → Nat → Bool) (fset sset : Nat → Bool) (ns : Nat) : Nat → List Int → List (List Int)
  | 0, l => if (List.range ns).all (fun k => !sset k || l.contains (k : Int)) then [l] else []
  | r + 1, l =>
    (if fset l.length then [] else joins m fset sset ns r (l ++ [-1])) ++
    (List.range ns).flatMap fun k => if m l.length k && !l.contains (k : Int) then joins m fset sset ns r (l ++ [(k : Int)]) else []

end Go.Proofs.Ytacioedolmaofaa
namespace Go.Proofs.Ytacioedolmaofaa
set_option linter.unusedVariables false

structure ISpot where
  x : Sp
  y : Sp
  s : Sp
  deriving DecidableEq
/-- A sheet: the X and Y of both Steps, both Fades, Limit, Flaws, the images. -/
structure ISheet where
  ax : Sp
  ay : Sp
  bx : Sp
  by' : Sp
  f : Sp
  g : Sp
  limit : Int
  flaws : Int
  l : List ISpot
structure ITr where
  a : Int
  b : Int
  c : Int
  deriving DecidableEq
structure IStar where
  x : Sp
  y : Sp
  s : Sp
  deriving DecidableEq

def ISpot.ok (p : ISpot) : Bool := p.x.ok 0 1048576 && p.y.ok 0 1048576 && p.s.ok 0 1000
def ISheet.ok (s : ISheet) : Bool :=
  s.ax.ok (-1048576) 1048576 && s.ay.ok (-1048576) 1048576 && s.f.ok 0 1000 && (s.bx.ok (-1048576) 1048576 && s.by'.ok (-1048576) 1048576 && s.g.ok 0 1000) && s.l.all ISpot.ok &&
    (decide (0 ≤ s.limit) && decide (s.limit ≤ 1000)) && (decide (0 ≤ s.flaws) && decide (s.flaws ≤ 9)) && decide (s.l.length ≤ 9)

def isNo (i n : Int) : Bool := decide (i = -1)
/-- Is it an image's number? -/
def isIm (i : Int) (n : Nat) : Bool := decide (0 ≤ i) && decide (i < n)
/-- Are these images a trail? -/
def ITr.ok (t : ITr) (n : Nat) : Bool :=
  isIm t.a n && (decide (t.b = -1) || (isIm t.b n && decide (t.b ≠ t.a))) && (decide (t.c = -1) || (isIm t.c n && decide (t.c ≠ t.a) && decide (t.c ≠ t.b)))

def Sp.meet (a b : Sp) : Sp := ⟨max a.lo b.lo, min a.hi b.hi⟩
def Sp.less (a b : Sp) : Sp := ⟨a.lo - b.hi, a.hi - b.lo⟩
def Sp.none (a : Sp) : Bool := decide (a.hi < a.lo)
def Sp.join (a b : Sp) : Sp := ⟨min a.lo b.lo, max a.hi b.hi⟩

def noSpot : ISpot := ⟨⟨0, 0⟩, ⟨0, 0⟩, ⟨0, 0⟩⟩
def ISheet.at' (s : ISheet) (i : Int) : ISpot := s.l.getD i.toNat noSpot

/-- One exposure more, as the document tells it. -/
def starStep (s : ISheet) (o : IStar) (i : Int) (sx sy fd : Sp) : Option IStar :=
  if i = -1 then some { o with s := o.s.meet ⟨0, s.limit - 1 + fd.hi⟩ }
  else
    let p := s.at' i
    let seen := p.s.meet ⟨s.limit, 1000⟩
    if seen.none then Option.none
    else some ⟨o.x.meet (p.x.less sx), o.y.meet (p.y.less sy), o.s.meet ⟨seen.lo + fd.lo, seen.hi + fd.hi⟩⟩
def starEnd (o : IStar) : Option IStar := if o.x.none || o.y.none || o.s.none then Option.none else some o
def ISheet.star (s : ISheet) (t : ITr) : Option IStar :=
  let p := s.at' t.a
  (starStep s ⟨p.x, p.y, p.s.meet ⟨s.limit, 1000⟩⟩ t.b s.ax s.ay s.f).bind fun o => (starStep s o t.c s.bx s.by' s.g).bind starEnd

/-- All numbers from -1 on, below n. -/
def fromNo (n : Nat) : List Int := (List.range (n + 1)).map fun (k : Nat) => (k : Int) - 1
/-- All trails that fit, in order. -/
def ISheet.trails (s : ISheet) : List ITr :=
  (List.range s.l.length).flatMap fun (a : Nat) => (fromNo s.l.length).flatMap fun b => ((fromNo s.l.length).map fun c => (⟨(a : Int), b, c⟩ : ITr)).filter fun t => t.ok s.l.length && (s.star t).isSome

def bit1 (i : Int) : Nat := if i = -1 then 0 else 2 ^ i.toNat
/-- The images of a trail, as a set. -/
def ITr.own (t : ITr) : Nat := bit1 t.a ||| bit1 t.b ||| bit1 t.c
def ownAll (l : List ITr) : Nat := l.foldr (fun t u => t.own ||| u) 0

/-- How many bits are set, of the first n. -/
def bitsIn : Nat → Nat → Nat
  | 0, _ => 0
  | n + 1, s => (if s.testBit n then 1 else 0) + bitsIn n s

/-- The trails that can go on. -/
def nextOf (T : List ITr) (from' : Int) (used : Nat) : List ITr := T.filter fun t => decide (from' ≤ t.a) && (t.own &&& used == 0)

/-- All ways that go on: with trails of these, from an image on, of those that are free. -/
def waysOf (T : List ITr) (n : Nat) (F : Int) : Nat → Int → Nat → List (List ITr)
  | 0, _, used => if (n : Int) - bitsIn 9 used ≤ F then [[]] else []
  | r + 1, from', used => (if (n : Int) - bitsIn 9 used ≤ F then [[]] else []) ++ (nextOf T from' used).flatMap fun t => (waysOf T n F r (t.a + 1) (used ||| t.own)).map (t :: ·)

structure ITold where
  many : Nat
  flaws : Int
  lo : Int
  hi : Int
  some : Nat
  all : Nat
  deriving DecidableEq

def leafTold (n : Nat) (F : Int) (used : Nat) : ITold := if (n : Int) - bitsIn 9 used ≤ F then ⟨1, (n : Int) - bitsIn 9 used, 0, 0, 0, 0⟩ else ⟨0, n + 1, n + 1, -1, 0, 18446744073709551615⟩
def ITold.add (o : ITold) (own : Nat) (y : ITold) : ITold :=
  if y.many = 0 then o else ⟨o.many + y.many, min o.flaws y.flaws, min o.lo (y.lo + 1), max o.hi (y.hi + 1), o.some ||| own ||| y.some, o.all &&& (own ||| y.all)⟩
/-- What is told of all ways that go on. -/
def tellOf (T : List ITr) (n : Nat) (F : Int) : Nat → Int → Nat → ITold
  | 0, _, used => leafTold n F used
  | r + 1, from', used => (nextOf T from' used).foldl (fun o t => o.add t.own (tellOf T n F r (t.a + 1) (used ||| t.own))) (leafTold n F used)
end Go.Proofs.Ytacioedolmaofaa
namespace Go.Proofs.Ytacioedolmaofaa
set_option linter.unusedVariables false
set_option maxRecDepth 100000

/-- What is told of none. -/
def noneTold (n : Nat) : ITold := ⟨0, n + 1, n + 1, -1, 0, 18446744073709551615⟩
/-- One way more. -/
def wayMore (n used : Nat) (o : ITold) (w : List ITr) : ITold :=
  ⟨o.many + 1, min o.flaws ((n : Int) - bitsIn 9 (used ||| ownAll w)), min o.lo w.length, max o.hi w.length, o.some ||| ownAll w, o.all &&& ownAll w⟩
def aggOf (n used : Nat) (L : List (List ITr)) : ITold := L.foldl (wayMore n used) (noneTold n)

theorem aggOf_snoc (n used : Nat) (L : List (List ITr)) (w : List ITr) : aggOf n used (L ++ [w]) = wayMore n used (aggOf n used L) w := by simp [aggOf]
theorem aggOf_many (n used : Nat) (L : List (List ITr)) : (aggOf n used L).many = L.length := by
  suffices h : ∀ (L : List (List ITr)) (o : ITold), (L.foldl (wayMore n used) o).many = o.many + L.length by simpa [aggOf, noneTold] using h L (noneTold n)
  intro L
  induction L with
  | nil => intro o; rfl
  | cons w L ih => intro o; rw [List.foldl_cons, ih, List.length_cons]; simp only [wayMore]; omega
theorem ones_and {u : Nat} (h : u < 18446744073709551616) : 18446744073709551615 &&& u = u := by
  have e : (18446744073709551615 : Nat) = 2 ^ 64 - 1 := rfl
  rw [e, Nat.and_comm, Nat.and_two_pow_sub_one_eq_mod]
  exact Nat.mod_eq_of_lt h
theorem leafTold_agg (n : Nat) (F : Int) (used : Nat) : leafTold n F used = aggOf n used (if (n : Int) - bitsIn 9 used ≤ F then [[]] else []) := by
  unfold leafTold
  split
  · simp only [aggOf, List.foldl_cons, List.foldl_nil, wayMore, noneTold, ownAll, List.foldr_nil, Nat.or_zero, Nat.and_zero, List.length_nil]
    congr 1
    all_goals omega
  · rfl
theorem add_pos {o y : ITold} {own : Nat} (h : y.many ≠ 0) : o.add own y = ⟨o.many + y.many, min o.flaws y.flaws, min o.lo (y.lo + 1), max o.hi (y.hi + 1), o.some ||| own ||| y.some, o.all &&& (own ||| y.all)⟩ := by
  unfold ITold.add
  rw [if_neg h]
theorem agg_map (n used : Nat) (t : ITr) : ∀ (k : Nat) (M : List (List ITr)), M.length = k → (∀ w ∈ M, w.length ≤ n ∧ ownAll w < 18446744073709551616) → ∀ (o : ITold), (M.map (t :: ·)).foldl (wayMore n used) o = o.add t.own (aggOf n (used ||| t.own) M) := by
  intro k
  induction k with
  | zero =>
    intro M hM _ o
    obtain rfl := List.eq_nil_of_length_eq_zero hM
    simp [aggOf, ITold.add, noneTold]
  | succ k ih =>
    intro M hM hb o
    obtain ⟨L, w, rfl⟩ : ∃ L w, M = L ++ [w] := ⟨M.dropLast, M.getLast (fun e => by subst e; cases hM), (List.dropLast_concat_getLast _).symm⟩
    have hL : L.length = k := by simpa using hM
    have hw := hb w (by simp)
    rw [List.map_append, List.foldl_append, ih L hL (fun x hx => hb x (by simp [hx])) o, aggOf_snoc]
    have hmany := aggOf_many n (used ||| t.own) L
    simp only [List.map_cons, List.map_nil, List.foldl_cons, List.foldl_nil]
    have ho : ownAll (t::w) = t.own ||| ownAll w := rfl
    have hl : ((t::w).length : Int) = w.length + 1 := by simp
    by_cases h0 : L = []
    · subst h0
      have e0 : o.add t.own (aggOf n (used ||| t.own) []) = o := rfl
      rw [e0, add_pos (by show 0 + 1 ≠ 0; omega)]
      simp only [aggOf, List.foldl_nil, wayMore, noneTold, ho, hl]
      congr 1
      · rw [Nat.or_assoc]; have : (bitsIn 9 (used ||| (t.own ||| ownAll w)) : Int) ≥ 0 := Int.natCast_nonneg _; omega
      · omega
      · rw [Nat.zero_or, Nat.or_assoc]
      · rw [ones_and hw.2]
    · have hpos : 0 < L.length := List.length_pos_iff.2 h0
      generalize aggOf n (used ||| t.own) L = y at hmany
      rw [add_pos (y := y) (by omega), add_pos (y := wayMore _ _ _ _) (by show y.many + 1 ≠ 0; omega)]
      simp only [wayMore, ho, hl]
      congr 1
      · rw [Nat.or_assoc]; omega
      · omega
      · omega
      · refine Nat.eq_of_testBit_eq (fun i => ?_)
        simp only [Nat.testBit_or]
        cases o.some.testBit i <;> cases t.own.testBit i <;> cases y.some.testBit i <;> cases (ownAll w).testBit i <;> rfl
      · refine Nat.eq_of_testBit_eq (fun i => ?_)
        simp only [Nat.testBit_or, Nat.testBit_and]
        cases o.all.testBit i <;> cases t.own.testBit i <;> cases y.all.testBit i <;> cases (ownAll w).testBit i <;> rfl

/-- How long ways are, and which images they have. -/
theorem ways_len (T : List ITr) (n : Nat) (F : Int) : ∀ (r : Nat) (fr : Int) (used : Nat), ∀ w ∈ waysOf T n F r fr used, w.length ≤ r ∧ ∀ t ∈ w, t ∈ T := by
  intro r
  induction r with
  | zero =>
    intro fr used w hw
    unfold waysOf at hw
    split at hw
    · rw [List.mem_singleton] at hw; subst hw; simp
    · cases hw
  | succ r ih =>
    intro fr used w hw
    unfold waysOf at hw
    rcases List.mem_append.1 hw with hw | hw
    · split at hw
      · rw [List.mem_singleton] at hw; subst hw; simp
      · cases hw
    · rw [List.mem_flatMap] at hw
      obtain ⟨t, ht, hw⟩ := hw
      rw [List.mem_map] at hw
      obtain ⟨u, hu, rfl⟩ := hw
      obtain ⟨h1, h2⟩ := ih _ _ u hu
      refine ⟨by simp; omega, fun x hx => ?_⟩
      rcases List.mem_cons.1 hx with rfl | hx
      · exact (List.mem_filter.1 ht).1
      · exact h2 x hx
theorem ownAll_lt {T : List ITr} (hT : ∀ t ∈ T, t.own < 512) : ∀ (w : List ITr), (∀ t ∈ w, t ∈ T) → ownAll w < 512
  | [], _ => by decide
  | t::w, h => Nat.or_lt_two_pow (n := 9) (hT t (h t (by simp))) (ownAll_lt hT w (fun x hx => h x (by simp [hx])))
theorem foldl_congr_mem {α β : Type} {f g : β → α → β} : ∀ (l : List α) (b : β), (∀ b, ∀ x ∈ l, f b x = g b x) → l.foldl f b = l.foldl g b
  | [], _, _ => rfl
  | x::l, b, h => by rw [List.foldl_cons, List.foldl_cons, h b x (by simp)]; exact foldl_congr_mem l _ (fun b y hy => h b y (by simp [hy]))
/-- What is told is told of all ways. -/
theorem tell_agg (T : List ITr) (n : Nat) (F : Int) (hT : ∀ t ∈ T, t.own < 512) : ∀ (r : Nat) (fr : Int) (used : Nat), r ≤ n → tellOf T n F r fr used = aggOf n used (waysOf T n F r fr used) := by
  intro r
  induction r with
  | zero => intro fr used _; exact leafTold_agg n F used
  | succ r ih =>
    intro fr used hr
    unfold tellOf waysOf
    rw [leafTold_agg]
    generalize (if (n : Int) - bitsIn 9 used ≤ F then [[]] else [] : List (List ITr)) = L0
    have hsub : ∀ t ∈ nextOf T fr used, t ∈ T := fun t ht => (List.mem_filter.1 ht).1
    generalize nextOf T fr used = N at hsub
    unfold aggOf
    rw [List.foldl_append]
    generalize L0.foldl (wayMore n used) (noneTold n) = o
    induction N generalizing o with
    | nil => rfl
    | cons t N ihN =>
      rw [List.foldl_cons, List.flatMap_cons, List.foldl_append, ihN (fun x hx => hsub x (by simp [hx]))]
      congr 1
      rw [agg_map n used t _ _ rfl (fun w hw => ?_), ih _ _ (by omega)]
      obtain ⟨h1, h2⟩ := ways_len T n F r _ _ w hw
      exact ⟨by omega, Nat.lt_trans (ownAll_lt hT w h2) (by decide)⟩
end Go.Proofs.Ytacioedolmaofaa
namespace Go.Proofs.Ytacioedolmaofaa
set_option linter.unusedVariables false
set_option maxRecDepth 100000
set_option maxHeartbeats 1600000

/-- What is known of a size, in a later exposure, of the size at first. -/
def sizeBack (s : ISheet) (p fd : Sp) : Sp :=
  let q : Sp := ⟨max p.lo s.limit, p.hi⟩
  if q.none then q else ⟨q.lo + fd.lo, q.hi + fd.hi⟩
def backTo (o : Sp) (i : Int) (p : Sp) : Sp := if i = -1 then o else o.meet p
/-- The star, as the program tells it. -/
def ISheet.starP (s : ISheet) (t : ITr) : Option IStar :=
  let p := s.at' t.a
  let q := s.at' t.b
  let r := s.at' t.c
  let x := backTo (backTo p.x t.b (q.x.less s.ax)) t.c (r.x.less s.bx)
  let y := backTo (backTo p.y t.b (q.y.less s.ay)) t.c (r.y.less s.by')
  let z := backTo (backTo p.s t.b (sizeBack s q.s s.f)) t.c (sizeBack s r.s s.g)
  let lo := max z.lo s.limit
  let h1 := if t.b = -1 then min z.hi (s.limit - 1 + s.f.hi) else z.hi
  let h2 := if t.c = -1 then min h1 (s.limit - 1 + s.g.hi) else h1
  starEnd ⟨x, y, ⟨lo, h2⟩⟩

theorem iok_iff (s : ISheet) : s.ok = true ↔ (-1048576 ≤ s.ax.lo ∧ s.ax.lo ≤ s.ax.hi ∧ s.ax.hi ≤ 1048576) ∧ (-1048576 ≤ s.ay.lo ∧ s.ay.lo ≤ s.ay.hi ∧ s.ay.hi ≤ 1048576) ∧ (0 ≤ s.f.lo ∧ s.f.lo ≤ s.f.hi ∧ s.f.hi ≤ 1000) ∧
    (-1048576 ≤ s.bx.lo ∧ s.bx.lo ≤ s.bx.hi ∧ s.bx.hi ≤ 1048576) ∧ (-1048576 ≤ s.by'.lo ∧ s.by'.lo ≤ s.by'.hi ∧ s.by'.hi ≤ 1048576) ∧ (0 ≤ s.g.lo ∧ s.g.lo ≤ s.g.hi ∧ s.g.hi ≤ 1000) ∧ s.l.all ISpot.ok = true ∧ (0 ≤ s.limit ∧ s.limit ≤ 1000) ∧ (0 ≤ s.flaws ∧ s.flaws ≤ 9) ∧ s.l.length ≤ 9 := by
  unfold ISheet.ok Sp.ok
  simp only [Bool.and_eq_true, decide_eq_true_eq]
  constructor
  · rintro ⟨⟨⟨⟨⟨⟨⟨h1, h2⟩, h3⟩, ⟨h4, h5⟩, h6⟩, h7⟩, h8⟩, h9⟩, h10⟩
    exact ⟨by omega, by omega, by omega, by omega, by omega, by omega, h7, h8, h9, h10⟩
  · rintro ⟨h1, h2, h3, h4, h5, h6, h7, h8, h9, h10⟩
    exact ⟨⟨⟨⟨⟨⟨⟨by omega, by omega⟩, by omega⟩, ⟨by omega, by omega⟩, by omega⟩, h7⟩, h8⟩, h9⟩, h10⟩
theorem spot_iff (p : ISpot) : p.ok = true ↔ (0 ≤ p.x.lo ∧ p.x.lo ≤ p.x.hi ∧ p.x.hi ≤ 1048576) ∧ (0 ≤ p.y.lo ∧ p.y.lo ≤ p.y.hi ∧ p.y.hi ≤ 1048576) ∧ (0 ≤ p.s.lo ∧ p.s.lo ≤ p.s.hi ∧ p.s.hi ≤ 1000) := by
  unfold ISpot.ok Sp.ok
  simp only [Bool.and_eq_true, decide_eq_true_eq]
  omega
theorem noSpot_ok : noSpot.ok = true := by decide
theorem at_ok {s : ISheet} (h : s.ok = true) (i : Int) : (s.at' i).ok = true := by
  have hl := ((iok_iff s).1 h).2.2.2.2.2.2.1
  unfold ISheet.at'
  by_cases hi : i.toNat < s.l.length
  · rw [List.getD_eq_getElem?_getD, List.getElem?_eq_getElem hi]
    exact List.all_eq_true.1 hl _ (List.getElem_mem _)
  · rw [List.getD_eq_getElem?_getD, List.getElem?_eq_none (by omega)]
    exact noSpot_ok

theorem starEnd_eq {o o' : IStar} (h : starEnd o = Option.none → starEnd o' = Option.none) (h' : ∀ u, starEnd o = some u → o = o') : starEnd o = starEnd o' := by
  cases ho : starEnd o with
  | none => rw [h ho]
  | some u => rw [← h' u ho, ho]
theorem starEnd_none (o : IStar) : starEnd o = Option.none ↔ (o.x.hi < o.x.lo ∨ o.y.hi < o.y.lo ∨ o.s.hi < o.s.lo) := by
  unfold starEnd Sp.none
  split
  · rename_i h; simp at h; simp; omega
  · rename_i h; simp at h; simp; omega

theorem star_same {s : ISheet} (hok : s.ok = true) (t : ITr) : s.starP t = s.star t := by
  obtain ⟨h1, h2, h3, h4, h5, h6, _, h8, _, _⟩ := (iok_iff s).1 hok
  have hp := (spot_iff _).1 (at_ok hok t.a)
  have hq := (spot_iff _).1 (at_ok hok t.b)
  have hr := (spot_iff _).1 (at_ok hok t.c)
  unfold ISheet.starP ISheet.star starStep
  generalize s.at' t.a = p at hp
  generalize s.at' t.b = q at hq
  generalize s.at' t.c = r at hr
  obtain ⟨⟨px1, px2⟩, ⟨py1, py2⟩, ⟨ps1, ps2⟩⟩ := p
  obtain ⟨⟨qx1, qx2⟩, ⟨qy1, qy2⟩, ⟨qs1, qs2⟩⟩ := q
  obtain ⟨⟨rx1, rx2⟩, ⟨ry1, ry2⟩, ⟨rs1, rs2⟩⟩ := r
  simp only at hp hq hr
  have m1 : min ps2 1000 = ps2 := by omega
  have m2 : min qs2 1000 = qs2 := by omega
  have m3 : min rs2 1000 = rs2 := by omega
  have key : ∀ (o o' : IStar), (o.x.lo = o'.x.lo ∧ o.x.hi = o'.x.hi ∧ o.y.lo = o'.y.lo ∧ o.y.hi = o'.y.hi ∧ o.s.lo = o'.s.lo ∧ o.s.hi = o'.s.hi) → starEnd o = starEnd o' := by
    rintro ⟨⟨a, b⟩, ⟨c, d⟩, ⟨e, f⟩⟩ ⟨⟨a', b'⟩, ⟨c', d'⟩, ⟨e', f'⟩⟩ ⟨rfl, rfl, rfl, rfl, rfl, rfl⟩
    rfl
  by_cases hb : t.b = -1
  · by_cases hc : t.c = -1
    · simp only [backTo, hb, hc, if_true, Option.bind_some, Sp.meet, m1]
      refine key _ _ ⟨?_, ?_, ?_, ?_, ?_, ?_⟩
      all_goals (dsimp only; try omega)
    · simp only [backTo, sizeBack, hb, hc, if_true, if_false, Option.bind_some, Sp.meet, Sp.less, Sp.none, m1, m3, decide_eq_true_eq]
      by_cases h : rs2 < max rs1 s.limit
      · simp only [h, if_true, Option.bind_none]
        rw [starEnd_none]
        right; right
        dsimp only
        clear m1 m2 m3 h1 h2 h4 h5 key
        omega
      · simp only [h, if_false, Option.bind_some]
        refine key _ _ ⟨?_, ?_, ?_, ?_, ?_, ?_⟩
        all_goals (dsimp only; try omega)
  · by_cases hc : t.c = -1
    · simp only [backTo, sizeBack, hb, hc, if_true, if_false, Option.bind_some, Sp.meet, Sp.less, Sp.none, m1, m2, decide_eq_true_eq]
      by_cases h : qs2 < max qs1 s.limit
      · simp only [h, if_true, Option.bind_none]
        rw [starEnd_none]
        right; right
        dsimp only
        clear m1 m2 m3 h1 h2 h4 h5 key
        omega
      · simp only [h, if_false, Option.bind_some]
        refine key _ _ ⟨?_, ?_, ?_, ?_, ?_, ?_⟩
        all_goals (dsimp only; try omega)
    · simp only [backTo, sizeBack, hb, hc, if_false, Sp.meet, Sp.less, Sp.none, m1, m2, m3, decide_eq_true_eq]
      by_cases h : qs2 < max qs1 s.limit
      · simp only [h, if_true, Option.bind_none]
        rw [starEnd_none]
        right; right
        dsimp only
        clear m1 m2 m3 h1 h2 h4 h5 key
        omega
      · simp only [h, if_false, Option.bind_some]
        by_cases h' : rs2 < max rs1 s.limit
        · simp only [h', if_true, Option.bind_none]
          rw [starEnd_none]
          right; right
          dsimp only
          clear m1 m2 m3 h1 h2 h4 h5 key
          omega
        · simp only [h', if_false, Option.bind_some]
          refine key _ _ ⟨?_, ?_, ?_, ?_, ?_, ?_⟩
          all_goals (dsimp only; try omega)
end Go.Proofs.Ytacioedolmaofaa
namespace Go.Proofs.Ytacioedolmaofaa
set_option linter.unusedVariables false
set_option maxRecDepth 100000

/-- Can these images go on? -/
def ISheet.can (s : ISheet) (used : Nat) (t : ITr) : Bool := t.ok s.l.length && (s.star t).isSome && (t.own &&& used == 0)
/-- The ways that go on with one trail. -/
def ISheet.with' (s : ISheet) (F : Int) (r : Nat) (used : Nat) (t : ITr) : List (List ITr) := if s.can used t then (waysOf s.trails s.l.length F r (t.a + 1) (used ||| t.own)).map (t :: ·) else []
def leafWays (n : Nat) (F : Int) (used : Nat) : List (List ITr) := if (n : Int) - bitsIn 9 used ≤ F then [[]] else []

theorem filter_flatMap' {α β : Type} (p : β → Bool) (f : α → List β) : ∀ (l : List α), (l.flatMap f).filter p = l.flatMap fun x => (f x).filter p
  | [] => rfl
  | x::l => by rw [List.flatMap_cons, List.flatMap_cons, List.filter_append, filter_flatMap' p f l]
theorem flatMap_flatMap' {α β γ : Type} (f : α → List β) (g : β → List γ) : ∀ (l : List α), (l.flatMap f).flatMap g = l.flatMap fun x => (f x).flatMap g
  | [] => rfl
  | x::l => by rw [List.flatMap_cons, List.flatMap_cons, List.flatMap_append, flatMap_flatMap' f g l]
theorem flatMap_filter_map {α β γ : Type} (f : α → β) (p q : β → Bool) (g : β → List γ) : ∀ (l : List α), (((l.map f).filter p).filter q).flatMap g = l.flatMap fun x => if p (f x) && q (f x) then g (f x) else []
  | [] => rfl
  | x::l => by
    rw [List.map_cons, List.flatMap_cons, ← flatMap_filter_map f p q g l]
    by_cases hp : p (f x) = true
    · by_cases hq : q (f x) = true
      · rw [List.filter_cons_of_pos hp, List.filter_cons_of_pos hq, List.flatMap_cons, hp, hq]; rfl
      · have hq' : q (f x) = false := by simpa using hq
        rw [List.filter_cons_of_pos hp, List.filter_cons_of_neg hq, hp, hq']; rfl
    · have hp' : p (f x) = false := by simpa using hp
      rw [List.filter_cons_of_neg hp, hp']; rfl

/-- All ways that go on, by the three numbers of their next trail. -/
theorem ways_by (s : ISheet) (F : Int) (r : Nat) (fr : Int) (used : Nat) :
    waysOf s.trails s.l.length F (r + 1) fr used = leafWays s.l.length F used ++ (List.range s.l.length).flatMap fun (a : Nat) => if fr ≤ a then (fromNo s.l.length).flatMap fun b => (fromNo s.l.length).flatMap fun c => s.with' F r used ⟨(a : Int), b, c⟩ else [] := by
  show leafWays s.l.length F used ++ _ = _
  congr 1
  unfold nextOf
  rw [show (s.trails.filter fun t => decide (fr ≤ t.a) && (t.own &&& used == 0)).flatMap (fun t => (waysOf s.trails s.l.length F r (t.a + 1) (used ||| t.own)).map (t :: ·)) = (s.trails.filter fun t => decide (fr ≤ t.a) && (t.own &&& used == 0)).flatMap (fun t => (waysOf s.trails s.l.length F r (t.a + 1) (used ||| t.own)).map (t :: ·)) from rfl]
  generalize hg : (fun t : ITr => (waysOf s.trails s.l.length F r (t.a + 1) (used ||| t.own)).map (t :: ·)) = g
  have hw : ∀ t : ITr, s.with' F r used t = if s.can used t then g t else [] := fun t => by rw [← hg]; rfl
  conv => lhs; unfold ISheet.trails
  rw [filter_flatMap', flatMap_flatMap']
  unfold List.flatMap
  congr 1
  refine List.map_congr_left fun a _ => ?_
  show List.flatMap g (List.filter _ (List.flatMap _ _)) = _
  rw [filter_flatMap', flatMap_flatMap']
  by_cases hfa : fr ≤ (a : Int)
  · rw [if_pos hfa]
    unfold List.flatMap
    congr 1
    refine List.map_congr_left fun b _ => ?_
    show List.flatMap g (List.filter _ (List.filter _ (List.map _ _))) = _
    rw [flatMap_filter_map]
    unfold List.flatMap
    congr 1
    refine List.map_congr_left fun c _ => ?_
    rw [hw]
    simp only [ISheet.can, hfa, decide_true, Bool.true_and]
    rfl
  · rw [if_neg hfa]
    rw [List.flatMap_eq_nil_iff]
    intro b _
    rw [flatMap_filter_map, List.flatMap_eq_nil_iff]
    intro c _
    rw [if_neg (by simp [hfa])]
end Go.Proofs.Ytacioedolmaofaa
namespace Go.Proofs.Ytacioedolmaofaa
set_option linter.unusedVariables false
set_option maxRecDepth 100000

theorem bit1_bit {i : Int} (h : i = -1 ∨ 0 ≤ i) (k : Nat) : (bit1 i).testBit k = decide (i = (k : Int)) := by
  unfold bit1
  rcases h with rfl | h
  · simp
  · obtain ⟨n, rfl⟩ := Int.eq_ofNat_of_zero_le h
    rw [if_neg (by omega), Int.toNat_natCast, Nat.testBit_two_pow]
    by_cases e : n = k <;> simp [e]
    omega
/-- All entries are numbers, or none. -/
structure ITr.wf (t : ITr) (n : Nat) : Prop where
  a : 0 ≤ t.a ∧ t.a < n
  b : t.b = -1 ∨ (0 ≤ t.b ∧ t.b < n)
  c : t.c = -1 ∨ (0 ≤ t.c ∧ t.c < n)
theorem ITr.wf_of {t : ITr} {n : Nat} (h : t.ok n = true) : t.wf n := by
  unfold ITr.ok isIm at h
  simp only [Bool.and_eq_true, Bool.or_eq_true, decide_eq_true_eq] at h
  obtain ⟨⟨h1, h2⟩, h3⟩ := h
  exact ⟨h1, h2.imp id (fun h => h.1), h3.imp id (fun h => h.1.1)⟩
theorem ITr.wf.own_bit {t : ITr} {n : Nat} (h : t.wf n) (k : Nat) : t.own.testBit k = true ↔ t.a = (k : Int) ∨ t.b = (k : Int) ∨ t.c = (k : Int) := by
  unfold ITr.own
  rw [Nat.testBit_or, Nat.testBit_or, bit1_bit (.inr h.a.1), bit1_bit (h.b.imp id (fun h => h.1)), bit1_bit (h.c.imp id (fun h => h.1))]
  simp [or_assoc]
theorem ITr.wf.own_lt {t : ITr} {n : Nat} (h : t.wf n) (hn : n ≤ 9) : t.own < 512 := by
  have hb : ∀ i : Int, (i = -1 ∨ (0 ≤ i ∧ i < n)) → bit1 i < 2 ^ 9 := fun i hi => by
    unfold bit1
    split
    · decide
    · exact Nat.pow_lt_pow_right (by decide) (by omega)
  exact Nat.or_lt_two_pow (n := 9) (Nat.or_lt_two_pow (hb _ (.inr h.a)) (hb _ h.b)) (hb _ h.c)
theorem and_zero_iff (u v : Nat) : (u &&& v = 0) ↔ ∀ k, u.testBit k = true → v.testBit k = false := by
  constructor
  · intro h k hk
    have := congrArg (·.testBit k) h
    simp only [Nat.testBit_and, hk, Bool.true_and, Nat.zero_testBit] at this
    exact this
  · intro h
    refine Nat.eq_of_testBit_eq (fun k => ?_)
    rw [Nat.testBit_and, Nat.zero_testBit]
    cases hk : u.testBit k
    · rfl
    · rw [h k hk]; rfl
/-- Is an image free? -/
def freeOf (used : Nat) (i : Int) : Bool := decide (i = -1) || !used.testBit i.toNat
theorem free_iff {t : ITr} {n : Nat} (h : t.wf n) (used : Nat) : (t.own &&& used == 0) = (freeOf used t.a && freeOf used t.b && freeOf used t.c) := by
  rw [Bool.eq_iff_iff, beq_iff_eq, and_zero_iff]
  have hf : ∀ i : Int, (i = -1 ∨ (0 ≤ i ∧ i < n)) → (freeOf used i = true ↔ ∀ k : Nat, i = (k : Int) → used.testBit k = false) := fun i hi => by
    unfold freeOf
    rcases hi with rfl | ⟨h0, _⟩
    · simp
    · obtain ⟨m, rfl⟩ := Int.eq_ofNat_of_zero_le h0
      simp only [Int.toNat_natCast, Bool.or_eq_true, decide_eq_true_eq, Bool.not_eq_true']
      constructor
      · rintro (h | h) k hk
        · omega
        · have : m = k := by omega
          rw [← this]; exact h
      · intro h
        exact .inr (h m rfl)
  rw [Bool.and_eq_true, Bool.and_eq_true, hf _ (.inr h.a), hf _ h.b, hf _ h.c]
  constructor
  · intro hk
    exact ⟨⟨fun k e => hk k ((h.own_bit k).2 (.inl e)), fun k e => hk k ((h.own_bit k).2 (.inr (.inl e)))⟩, fun k e => hk k ((h.own_bit k).2 (.inr (.inr e)))⟩
  · rintro ⟨⟨h1, h2⟩, h3⟩ k hk
    rcases (h.own_bit k).1 hk with e | e | e
    · exact h1 k e
    · exact h2 k e
    · exact h3 k e
/-- Has some of these trails an image? -/
def usedIn (l : List ITr) (i : Int) : Bool := l.any fun t => decide (t.a = i) || decide (t.b = i) || decide (t.c = i)
theorem usedIn_bit {n : Nat} : ∀ (l : List ITr), (∀ t ∈ l, t.wf n) → ∀ k : Nat, usedIn l (k : Int) = (ownAll l).testBit k
  | [], _, k => by simp [usedIn, ownAll]
  | t::l, h, k => by
    have ih := usedIn_bit l (fun x hx => h x (by simp [hx])) k
    unfold usedIn at ih ⊢
    have e : ownAll (t::l) = t.own ||| ownAll l := rfl
    rw [List.any_cons, ih, e, Nat.testBit_or]
    congr 1
    rw [Bool.eq_iff_iff, (h t (by simp)).own_bit k]
    simp [or_assoc]
theorem ownAll_snoc (l : List ITr) (t : ITr) : ownAll (l ++ [t]) = ownAll l ||| t.own := by
  induction l with
  | nil => simp [ownAll]
  | cons x l ih =>
    show x.own ||| ownAll (l ++ [t]) = (x.own ||| ownAll l) ||| t.own
    rw [ih, Nat.or_assoc]
theorem trails_wf {s : ISheet} : ∀ t ∈ s.trails, t.wf s.l.length := by
  intro t ht
  unfold ISheet.trails at ht
  rw [List.mem_flatMap] at ht
  obtain ⟨a, _, ht⟩ := ht
  rw [List.mem_flatMap] at ht
  obtain ⟨b, _, ht⟩ := ht
  have := (List.mem_filter.1 ht).2
  rw [Bool.and_eq_true] at this
  exact ITr.wf_of this.1
theorem trails_own {s : ISheet} (h9 : s.l.length ≤ 9) : ∀ t ∈ s.trails, t.own < 512 := fun t ht => (trails_wf t ht).own_lt h9
end Go.Proofs.Ytacioedolmaofaa
namespace Go.Proofs.Ytacioedolmaofaa
set_option linter.unusedVariables false
set_option maxRecDepth 100000

/-- How many of the first n images are not in a set. -/
def notIn (used n : Nat) : Nat := ((List.range n).filter fun k => !used.testBit k).length
theorem notIn_zero (used : Nat) : notIn used 0 = 0 := rfl
theorem notIn_succ (used n : Nat) : notIn used (n + 1) = notIn used n + if used.testBit n then 0 else 1 := by
  unfold notIn
  rw [List.range_succ, List.filter_append, List.length_append]
  cases h : used.testBit n <;> simp [h]
theorem notIn_bits (used n : Nat) : notIn used n + bitsIn n used = n := by
  induction n with
  | zero => rfl
  | succ n ih =>
    rw [notIn_succ]
    unfold bitsIn
    split <;> omega
theorem bitsIn_more {used n : Nat} (h : used < 2 ^ n) : ∀ m, n ≤ m → bitsIn m used = bitsIn n used := by
  intro m
  induction m with
  | zero =>
    intro hm
    have e : n = 0 := by omega
    rw [e]
  | succ m ih =>
    intro hm
    by_cases e : n = m + 1
    · rw [e]
    · have hb : used.testBit m = false := Nat.testBit_lt_two_pow (Nat.lt_of_lt_of_le h (Nat.pow_le_pow_right (by omega) (by omega)))
      have e2 : bitsIn (m + 1) used = (if used.testBit m then 1 else 0) + bitsIn m used := rfl
      rw [e2, hb, ih (by omega)]
      simp
theorem own_ltn {t : ITr} {n : Nat} (h : t.wf n) : t.own < 2 ^ n := by
  have hb : ∀ i : Int, (i = -1 ∨ (0 ≤ i ∧ i < n)) → bit1 i < 2 ^ n := fun i hi => by
    unfold bit1
    split
    · exact Nat.two_pow_pos _
    · exact Nat.pow_lt_pow_right (by decide) (by omega)
  exact Nat.or_lt_two_pow (Nat.or_lt_two_pow (hb _ (.inr h.a)) (hb _ h.b)) (hb _ h.c)
theorem ownAll_ltn {n : Nat} : ∀ (l : List ITr), (∀ t ∈ l, t.wf n) → ownAll l < 2 ^ n
  | [], _ => Nat.two_pow_pos _
  | t::l, h => Nat.or_lt_two_pow (own_ltn (h t (by simp))) (ownAll_ltn l (fun x hx => h x (by simp [hx])))
/-- The flaws of some trails. -/
theorem flaws_eq {n : Nat} (hn : n ≤ 9) {used : Nat} (h : used < 2 ^ n) : (notIn used n : Int) = (n : Int) - bitsIn 9 used := by
  have h1 := notIn_bits used n
  have h2 := bitsIn_more h 9 hn
  omega
end Go.Proofs.Ytacioedolmaofaa
namespace Go.Proofs.Ytacioedolmaofaa
set_option linter.unusedVariables false
set_option maxRecDepth 100000

theorem next_none {T : List ITr} {n : Nat} (hT : ∀ t ∈ T, t.a < n) {fr : Int} (h : (n : Int) ≤ fr) (used : Nat) : nextOf T fr used = [] := by
  unfold nextOf
  rw [List.filter_eq_nil_iff]
  intro t ht
  have := hT t ht
  simp
  omega
theorem next_mem {T : List ITr} {fr : Int} {used : Nat} {t : ITr} (h : t ∈ nextOf T fr used) : t ∈ T ∧ fr ≤ t.a ∧ t.own &&& used = 0 := by
  unfold nextOf at h
  rw [List.mem_filter] at h
  simp at h
  exact ⟨h.1, h.2.1, h.2.2⟩
theorem tell_fuel {T : List ITr} {n : Nat} (F : Int) (hT : ∀ t ∈ T, t.a < n) : ∀ (r r' : Nat) (fr : Int) (used : Nat), (n : Int) - fr ≤ r → (n : Int) - fr ≤ r' → tellOf T n F r fr used = tellOf T n F r' fr used := by
  intro r
  induction r with
  | zero =>
    intro r' fr used h h'
    cases r' with
    | zero => rfl
    | succ r' =>
      unfold tellOf
      rw [next_none hT (by omega)]
      rfl
  | succ r ih =>
    intro r' fr used h h'
    cases r' with
    | zero =>
      unfold tellOf
      rw [next_none hT (by omega)]
      rfl
    | succ r' =>
      unfold tellOf
      refine foldl_congr_mem _ _ (fun o t ht => ?_)
      obtain ⟨_, h1, _⟩ := next_mem ht
      rw [ih r' _ _ (by omega) (by omega)]
theorem ways_fuel {T : List ITr} {n : Nat} (F : Int) (hT : ∀ t ∈ T, t.a < n) : ∀ (r r' : Nat) (fr : Int) (used : Nat), (n : Int) - fr ≤ r → (n : Int) - fr ≤ r' → waysOf T n F r fr used = waysOf T n F r' fr used := by
  intro r
  induction r with
  | zero =>
    intro r' fr used h h'
    cases r' with
    | zero => rfl
    | succ r' =>
      unfold waysOf
      rw [next_none hT (by omega)]
      simp
  | succ r ih =>
    intro r' fr used h h'
    cases r' with
    | zero =>
      unfold waysOf
      rw [next_none hT (by omega)]
      simp
    | succ r' =>
      unfold waysOf
      congr 1
      unfold List.flatMap
      congr 1
      refine List.map_congr_left fun t ht => ?_
      obtain ⟨_, h1, _⟩ := next_mem ht
      rw [ih r' _ _ (by omega) (by omega)]

/-- The flaws of a way that goes on. -/
def flawsW (n used : Nat) (w : List ITr) : Int := (n : Int) - bitsIn 9 (used ||| ownAll w)
theorem flawsW_cons (n used : Nat) (t : ITr) (w : List ITr) : flawsW n used (t::w) = flawsW n (used ||| t.own) w := by
  unfold flawsW
  rw [Nat.or_assoc]; rfl
theorem flawsW_nil (n used : Nat) : flawsW n used [] = (n : Int) - bitsIn 9 used := by
  unfold flawsW
  rw [show ownAll [] = 0 from rfl, Nat.or_zero]
/-- With fewer flaws allowed. -/
theorem ways_filter (T : List ITr) (n : Nat) {F F' : Int} (hF : F ≤ F') : ∀ (r : Nat) (fr : Int) (used : Nat), waysOf T n F r fr used = (waysOf T n F' r fr used).filter fun w => decide (flawsW n used w ≤ F) := by
  have hleaf : ∀ used : Nat, (if (n : Int) - bitsIn 9 used ≤ F then [[]] else [] : List (List ITr)) = (if (n : Int) - bitsIn 9 used ≤ F' then [[]] else [] : List (List ITr)).filter fun w => decide (flawsW n used w ≤ F) := by
    intro used
    by_cases h : (n : Int) - bitsIn 9 used ≤ F
    · rw [if_pos h, if_pos (by omega)]
      rw [List.filter_cons_of_pos (by rw [flawsW_nil]; simpa using h)]; rfl
    · rw [if_neg h]
      split
      · rw [List.filter_cons_of_neg (by rw [flawsW_nil]; simpa using h)]; rfl
      · rfl
  intro r
  induction r with
  | zero => intro fr used; exact hleaf used
  | succ r ih =>
    intro fr used
    unfold waysOf
    rw [List.filter_append, ← hleaf, filter_flatMap']
    congr 1
    unfold List.flatMap
    congr 1
    refine List.map_congr_left fun t _ => ?_
    rw [ih, List.filter_map]
    congr 1
    refine List.filter_congr fun w _ => ?_
    show _ = decide (flawsW n used (t::w) ≤ F)
    rw [flawsW_cons]
end Go.Proofs.Ytacioedolmaofaa
namespace Go.Proofs.Ytacioedolmaofaa
set_option linter.unusedVariables false
set_option maxRecDepth 100000

/-- What is told from a state on. -/
def tellN (T : List ITr) (n : Nat) (F : Int) (fr : Int) (used : Nat) : ITold := tellOf T n F (n + 1) fr used
def tellStep (T : List ITr) (n : Nat) (F : Int) (used : Nat) (o : ITold) (t : ITr) : ITold := o.add t.own (tellN T n F (t.a + 1) (used ||| t.own))
def tellTo (T : List ITr) (n : Nat) (F : Int) (used : Nat) (pre : List ITr) : ITold := pre.foldl (tellStep T n F used) (leafTold n F used)
theorem tellTo_snoc (T : List ITr) (n : Nat) (F : Int) (used : Nat) (pre : List ITr) (t : ITr) : tellTo T n F used (pre ++ [t]) = tellStep T n F used (tellTo T n F used pre) t := by simp [tellTo]
theorem tellN_eq {T : List ITr} {n : Nat} (F : Int) (hT : ∀ t ∈ T, 0 ≤ t.a ∧ t.a < n) (fr : Int) (used : Nat) : tellN T n F fr used = tellTo T n F used (nextOf T fr used) := by
  unfold tellN tellTo
  show (nextOf T fr used).foldl (fun o t => o.add t.own (tellOf T n F n (t.a + 1) (used ||| t.own))) (leafTold n F used) = _
  refine foldl_congr_mem _ _ (fun o t ht => ?_)
  unfold tellStep tellN
  have := hT t (next_mem ht).1
  rw [tell_fuel F (fun t ht => (hT t ht).2) n (n + 1) (t.a + 1) (used ||| t.own) (by omega) (by omega)]

/-- What is told is small. -/
structure ToldB (r : Nat) (o : ITold) : Prop where
  fl : -9 ≤ o.flaws ∧ o.flaws ≤ 10
  lo : 0 ≤ o.lo ∧ o.lo ≤ 10
  hi : -1 ≤ o.hi ∧ o.hi ≤ r
  some : o.some < 512
  all : o.all < 2 ^ 64
theorem bitsIn_le : ∀ (n s : Nat), bitsIn n s ≤ n
  | 0, _ => Nat.le_refl _
  | n + 1, s => by unfold bitsIn; have := bitsIn_le n s; split <;> omega
theorem leaf_b {n : Nat} (hn : n ≤ 9) (F : Int) (used : Nat) (r : Nat) : ToldB r (leafTold n F used) := by
  have := bitsIn_le 9 used
  unfold leafTold
  split
  · exact ⟨⟨by simp only; omega, by simp only; omega⟩, ⟨by simp, by simp⟩, ⟨by simp, by simp⟩, by simp, by simp⟩
  · exact ⟨⟨by simp only; omega, by simp only; omega⟩, ⟨by simp only; omega, by simp only; omega⟩, ⟨by simp, by simp only; omega⟩, by simp, by simp⟩
theorem add_b {r : Nat} {o y : ITold} {own : Nat} (ho : ToldB (r + 1) o) (hy : ToldB r y) (hw : own < 512) : ToldB (r + 1) (o.add own y) := by
  unfold ITold.add
  split
  · exact ho
  · obtain ⟨f1, l1, h1, s1, a1⟩ := ho
    obtain ⟨f2, l2, h2, s2, a2⟩ := hy
    refine ⟨⟨?_, ?_⟩, ⟨?_, ?_⟩, ⟨?_, ?_⟩, ?_, ?_⟩
    · simp only; omega
    · simp only; omega
    · simp only; omega
    · simp only; omega
    · simp only; omega
    · simp only; omega
    · exact Nat.or_lt_two_pow (n := 9) (Nat.or_lt_two_pow (n := 9) s1 hw) s2
    · exact Nat.lt_of_le_of_lt Nat.and_le_left a1
theorem tell_b {T : List ITr} {n : Nat} (hn : n ≤ 9) (F : Int) (hT : ∀ t ∈ T, t.own < 512) : ∀ (r : Nat) (fr : Int) (used : Nat), ToldB r (tellOf T n F r fr used) := by
  intro r
  induction r with
  | zero => intro fr used; exact leaf_b hn F used 0
  | succ r ih =>
    intro fr used
    unfold tellOf
    have hsub : ∀ t ∈ nextOf T fr used, t ∈ T := fun t ht => (next_mem ht).1
    generalize nextOf T fr used = N at hsub
    have h0 := leaf_b hn F used (r + 1)
    generalize leafTold n F used = o at h0
    induction N generalizing o with
    | nil => exact h0
    | cons t N ihN =>
      rw [List.foldl_cons]
      exact ihN (fun x hx => hsub x (by simp [hx])) _ (add_b h0 (ih _ _) (hT t (hsub t (by simp))))
theorem tellN_b {T : List ITr} {n : Nat} (hn : n ≤ 9) (F : Int) (hT : ∀ t ∈ T, t.own < 512) (fr : Int) (used : Nat) : ToldB 10 (tellN T n F fr used) := by
  have h := tell_b hn F hT (n + 1) fr used
  exact ⟨h.fl, h.lo, ⟨h.hi.1, Int.le_trans h.hi.2 (by omega)⟩, h.some, h.all⟩
theorem tellTo_b {T : List ITr} {n : Nat} (hn : n ≤ 9) (F : Int) (hT : ∀ t ∈ T, t.own < 512) (used : Nat) (pre : List ITr) (hp : ∀ t ∈ pre, t ∈ T) : ToldB 11 (tellTo T n F used pre) := by
  unfold tellTo
  have h0 := leaf_b hn F used 11
  generalize leafTold n F used = o at h0
  induction pre generalizing o with
  | nil => exact h0
  | cons t N ihN =>
    rw [List.foldl_cons]
    exact ihN (fun x hx => hp x (by simp [hx])) _ (add_b (r := 10) h0 (tellN_b hn F hT _ _) (hT t (hp t (by simp))))

/-- How many ways there are: at most as many. -/
def weightOf (n : Nat) (t : ITr) : Nat := 101 ^ ((n : Int) - 1 - t.a).toNat
def sumW (n : Nat) (L : List ITr) : Nat := (L.map (weightOf n)).sum
theorem sumW_cons (n : Nat) (t : ITr) (L : List ITr) : sumW n (t::L) = weightOf n t + sumW n L := by simp [sumW]
theorem sumW_split (n : Nat) (fr : Int) (h0 : fr < n) : ∀ (T : List ITr), sumW n (T.filter fun t => decide (fr ≤ t.a)) = (T.filter fun t => decide (t.a = fr)).length * 101 ^ ((n : Int) - 1 - fr).toNat + sumW n (T.filter fun t => decide (fr + 1 ≤ t.a))
  | [] => by simp [sumW]
  | t::T => by
    have ih := sumW_split n fr h0 T
    simp only [List.filter_cons]
    rcases Int.lt_trichotomy t.a fr with h | h | h
    · rw [if_neg (by simp; omega), if_neg (by simp; omega), if_neg (by simp; omega)]
      exact ih
    · rw [if_pos (by simp; omega), if_pos (by simp; omega), if_neg (by simp; omega), sumW_cons, ih, List.length_cons, Nat.succ_mul]
      unfold weightOf
      rw [h]
      omega
    · rw [if_pos (by simp; omega), if_neg (by simp; omega), if_pos (by simp; omega), sumW_cons, sumW_cons, ih]
      omega
theorem sumW_le {T : List ITr} {n : Nat} (hT : ∀ t ∈ T, t.a < n) (hc : ∀ a : Int, (T.filter fun t => decide (t.a = a)).length ≤ 100) : ∀ (m : Nat) (fr : Int), ((n : Int) - fr).toNat = m → sumW n (T.filter fun t => decide (fr ≤ t.a)) + 1 ≤ 101 ^ m := by
  intro m
  induction m with
  | zero =>
    intro fr hm
    have : T.filter (fun t => decide (fr ≤ t.a)) = [] := by
      rw [List.filter_eq_nil_iff]
      intro t ht
      have := hT t ht
      simp; omega
    rw [this]
    simp [sumW]
  | succ m ih =>
    intro fr hm
    rw [sumW_split n fr (by omega)]
    have h1 := ih (fr + 1) (by omega)
    have e : ((n : Int) - 1 - fr).toNat = m := by omega
    rw [e]
    have h2 : (T.filter fun t => decide (t.a = fr)).length * 101 ^ m ≤ 100 * 101 ^ m := Nat.mul_le_mul_right _ (hc fr)
    rw [Nat.pow_succ]
    omega
theorem sumW_sub {n : Nat} {L M : List ITr} (h : L.Sublist M) : sumW n L ≤ sumW n M := by
  induction h with
  | slnil => exact Nat.le_refl _
  | cons a _ ih => rw [sumW_cons]; omega
  | cons_cons a _ ih => rw [sumW_cons, sumW_cons]; omega
theorem add_many (o : ITold) (own : Nat) (y : ITold) : (o.add own y).many = o.many + y.many := by
  unfold ITold.add
  split
  · rename_i h; rw [h]; rfl
  · rfl
theorem leaf_many (n : Nat) (F : Int) (used : Nat) : (leafTold n F used).many ≤ 1 := by
  unfold leafTold
  split <;> simp
theorem fold_many {n : Nat} (g : ITr → ITold) (hg : ∀ t : ITr, (g t).many ≤ weightOf n t) : ∀ (L : List ITr) (o : ITold), (L.foldl (fun o t => o.add t.own (g t)) o).many ≤ o.many + sumW n L
  | [], o => by simp [sumW]
  | t::L, o => by
    rw [List.foldl_cons, sumW_cons]
    have := fold_many g hg L (o.add t.own (g t))
    rw [add_many] at this
    have := hg t
    omega
theorem next_sub (T : List ITr) (fr : Int) (used : Nat) : (nextOf T fr used).Sublist (T.filter fun t => decide (fr ≤ t.a)) := by
  have : nextOf T fr used = (T.filter fun t => decide (fr ≤ t.a)).filter fun t => t.own &&& used == 0 := by
    rw [List.filter_filter]
    unfold nextOf
    congr 1
    funext t
    exact Bool.and_comm _ _
  rw [this]
  exact List.filter_sublist
theorem tell_many {T : List ITr} {n : Nat} (F : Int) (hT : ∀ t ∈ T, t.a < n) (hc : ∀ a : Int, (T.filter fun t => decide (t.a = a)).length ≤ 100) : ∀ (r : Nat) (fr : Int) (used : Nat), (tellOf T n F r fr used).many ≤ 101 ^ ((n : Int) - fr).toNat := by
  intro r
  induction r with
  | zero => intro fr used; exact Nat.le_trans (leaf_many _ _ _) (Nat.pow_pos (by omega))
  | succ r ih =>
    intro fr used
    unfold tellOf
    have h1 := fold_many (n := n) (fun t => tellOf T n F r (t.a + 1) (used ||| t.own)) (fun t => by
      have := ih (t.a + 1) (used ||| t.own)
      unfold weightOf
      have e : ((n : Int) - 1 - t.a) = (n : Int) - (t.a + 1) := by omega
      rw [e]; exact this) (nextOf T fr used) (leafTold n F used)
    have h2 := sumW_sub (n := n) (next_sub T fr used)
    have h3 := sumW_le hT hc _ fr rfl
    have h4 := leaf_many n F used
    omega
theorem tellTo_many {T : List ITr} {n : Nat} (hn : n ≤ 9) (F : Int) (hT : ∀ t ∈ T, t.a < n) (hc : ∀ a : Int, (T.filter fun t => decide (t.a = a)).length ≤ 100) {fr : Int} (h0 : 0 ≤ fr) (used : Nat) (pre : List ITr) (hp : pre.Sublist (nextOf T fr used)) : (tellTo T n F used pre).many < 4000000000000000000 := by
  have h1 := fold_many (n := n) (fun t => tellN T n F (t.a + 1) (used ||| t.own)) (fun t => by
      have := tell_many F hT hc (n + 1) (t.a + 1) (used ||| t.own)
      unfold weightOf
      have e : ((n : Int) - 1 - t.a) = (n : Int) - (t.a + 1) := by omega
      rw [e]; exact this) pre (leafTold n F used)
  have h2 := sumW_sub (n := n) (hp.trans (next_sub T fr used))
  have h3 := sumW_le hT hc _ fr rfl
  have h4 := leaf_many n F used
  have h5 : 101 ^ ((n : Int) - fr).toNat ≤ 101 ^ 9 := Nat.pow_le_pow_right (by omega) (by omega)
  have h6 : (101 : Nat) ^ 9 = 1093685272684360901 := by decide
  have e : tellTo T n F used pre = pre.foldl (fun o t => o.add t.own (tellN T n F (t.a + 1) (used ||| t.own))) (leafTold n F used) := rfl
  rw [e]
  omega
end Go.Proofs.Ytacioedolmaofaa
