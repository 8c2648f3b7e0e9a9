/- Plain Lean: what the law ImageMore asks. Plain Lean: a star that truly is where it is fits; what the laws ImageTrail and ImageTrue ask. -/
import Derived.Test.YtacioedolmaofaaLBA27
namespace Go.Proofs.Ytacioedolmaofaa
set_option linter.unusedVariables false
set_option maxRecDepth 100000

/-- A sheet with other Flaws. -/
def ISheet.withF (s : ISheet) (F : Int) : ISheet := { s with flaws := F }
theorem withF_trails (s : ISheet) (F : Int) : (s.withF F).trails = s.trails := rfl
theorem withF_ok {s : ISheet} (hok : s.ok = true) {F : Int} (h0 : 0 ≤ F) (h9 : F ≤ 9) : (s.withF F).ok = true := by
  obtain ⟨h1, h2, h3, h4, h5, h6, h7, h8, _, h10⟩ := (iok_iff s).1 hok
  exact (iok_iff _).2 ⟨h1, h2, h3, h4, h5, h6, h7, h8, ⟨h0, h9⟩, h10⟩
theorem withF_way {s : ISheet} {F : Int} (hF : s.flaws ≤ F) {w : List ITr} (h : IsWay s w) : IsWay (s.withF F) w := ⟨h.1, Int.le_trans h.2 hF⟩
theorem withF_count {s : ISheet} (hn : s.l.length ≤ 9) {F : Int} (hF : s.flaws ≤ F) : (wayTold s).many ≤ (wayTold (s.withF F)).many := by
  unfold wayTold
  rw [tellN_many s.flaws (tp_of hn) 0 (by omega), tellN_many (s.withF F).flaws (tp_of (s := s.withF F) hn) 0 (by omega), ways_filter s.trails s.l.length hF]
  exact List.length_filter_le _ _
theorem withF_tell {s : ISheet} (hok : s.ok = true) {F : Int} (hF : s.flaws ≤ F) (h9 : F ≤ 9) (hm : (wayTold s).many ≠ 0) : (∀ k, (tStars (s.withF F)).testBit k = true → (tStars s).testBit k = true) ∧ (∀ k, (tFlaws (s.withF F)).testBit k = true → (tFlaws s).testBit k = true) := by
  have h0 := ((iok_iff s).1 hok).2.2.2.2.2.2.2.2.1
  have hn := ((iok_iff s).1 hok).2.2.2.2.2.2.2.2.2
  have h1 := tellIs hok hm
  have h2 := tellIs (withF_ok hok (by omega) h9) (by have := withF_count hn hF; omega)
  refine ⟨fun k hk => ?_, fun k hk => ?_⟩
  · obtain ⟨a, b⟩ := (h2.stars k).1 hk
    exact (h1.stars k).2 ⟨a, fun w hw => b w (withF_way hF hw)⟩
  · obtain ⟨a, b⟩ := (h2.flaws k).1 hk
    exact (h1.flaws k).2 ⟨a, fun w hw => b w (withF_way hF hw)⟩
theorem withF_where {s : ISheet} (hok : s.ok = true) {F : Int} (hF : s.flaws ≤ F) {i : Int} {u : IStar} (hu : whereTo s i s.trails.length = some u) : ∃ v, whereTo (s.withF F) i s.trails.length = some v ∧ SWithin u v := by
  have hn : s.l.length ≤ 9 := ((iok_iff s).1 hok).2.2.2.2.2.2.2.2.2
  have hA := where_all s i
  have hB := where_all (s.withF F) i
  rw [hu] at hA
  have hS : ∀ v, StarsAt s s.trails i v → StarsAt (s.withF F) s.trails i v := by
    rintro v ⟨t, h1, h2, h3, h4⟩
    refine ⟨t, h1, h2, ?_, h4⟩
    obtain ⟨w, k1, k2, k3⟩ := (hasP_iff hn s.flaws h1).1 h3
    exact (hasP_iff (s := s.withF F) hn F h1).2 ⟨w, k1, Int.le_trans k2 hF, k3⟩
  rw [withF_trails] at hB
  cases hv : whereTo (s.withF F) i s.trails.length with
  | none =>
    rw [hv] at hB
    obtain ⟨v, hv2, _⟩ := hA.xl
    obtain ⟨t, h1, h2, h3, h4⟩ := hS v hv2
    have := hB t h1 h2
    rw [h3] at this
    cases this
  | some v =>
    rw [hv] at hB
    exact ⟨v, rfl, joinOf_within hA hB hS⟩

/-- Is an image known no better? -/
structure SpotSub (p q : ISpot) : Prop where
  x : q.x.lo ≤ p.x.lo ∧ p.x.hi ≤ q.x.hi
  y : q.y.lo ≤ p.y.lo ∧ p.y.hi ≤ q.y.hi
  s : q.s.lo ≤ p.s.lo ∧ p.s.hi ≤ q.s.hi
theorem SpotSub.refl (p : ISpot) : SpotSub p p := ⟨⟨Int.le_refl _, Int.le_refl _⟩, ⟨Int.le_refl _, Int.le_refl _⟩, ⟨Int.le_refl _, Int.le_refl _⟩⟩
/-- A sheet whose images are known no better. -/
structure Wider (s r : ISheet) : Prop where
  ax : r.ax = s.ax
  ay : r.ay = s.ay
  bx : r.bx = s.bx
  by' : r.by' = s.by'
  f : r.f = s.f
  g : r.g = s.g
  limit : r.limit = s.limit
  len : r.l.length = s.l.length
  sub : ∀ i, SpotSub (s.at' i) (r.at' i)
theorem starStep_wider {s r : ISheet} (h : Wider s r) {o p o' : IStar} (ho : SWithin o p) {i : Int} {sx sy fd : Sp} (he : starStep s o i sx sy fd = some o') : ∃ p', starStep r p i sx sy fd = some p' ∧ SWithin o' p' := by
  obtain ⟨h1, h2, h3, h4, h5, h6⟩ := ho
  unfold starStep at he ⊢
  by_cases hi : i = -1
  · rw [if_pos hi] at he ⊢
    cases he
    refine ⟨_, rfl, ?_⟩
    rw [h.limit]
    refine ⟨?_, ?_, ?_, ?_, ?_, ?_⟩ <;> dsimp only [Sp.meet] <;> omega
  · rw [if_neg hi] at he ⊢
    obtain ⟨⟨x1, x2⟩, ⟨y1, y2⟩, ⟨z1, z2⟩⟩ := h.sub i
    rw [h.limit]
    generalize s.at' i = a at *
    generalize r.at' i = b at *
    dsimp only [Sp.meet, Sp.less] at he ⊢
    have hnone : ∀ lo hi : Int, (Sp.none ⟨lo, hi⟩ = true) ↔ (hi < lo) := by simp [Sp.none]
    by_cases hne : Sp.none ⟨max a.s.lo s.limit, min a.s.hi 1000⟩ = true
    · rw [if_pos hne] at he
      cases he
    · rw [if_neg hne] at he
      cases he
      rw [hnone] at hne
      rw [if_neg (by rw [hnone]; omega)]
      refine ⟨_, rfl, ?_⟩
      refine ⟨?_, ?_, ?_, ?_, ?_, ?_⟩ <;> dsimp only <;> omega
theorem starEnd_some {o u : IStar} : starEnd o = some u ↔ o = u ∧ o.x.lo ≤ o.x.hi ∧ o.y.lo ≤ o.y.hi ∧ o.s.lo ≤ o.s.hi := by
  unfold starEnd Sp.none
  split
  · rename_i h; simp at h; simp; omega
  · rename_i h; simp at h; simp; omega
theorem star_wider {s r : ISheet} (h : Wider s r) {t : ITr} {u : IStar} (hu : s.star t = some u) : ∃ v, r.star t = some v ∧ SWithin u v := by
  unfold ISheet.star at hu ⊢
  dsimp only at hu ⊢
  rw [Option.bind_eq_some_iff] at hu
  obtain ⟨o1, h1, hu⟩ := hu
  rw [Option.bind_eq_some_iff] at hu
  obtain ⟨o2, h2, h3⟩ := hu
  have h0 : SWithin ⟨(s.at' t.a).x, (s.at' t.a).y, (s.at' t.a).s.meet ⟨s.limit, 1000⟩⟩ ⟨(r.at' t.a).x, (r.at' t.a).y, (r.at' t.a).s.meet ⟨r.limit, 1000⟩⟩ := by
    obtain ⟨⟨x1, x2⟩, ⟨y1, y2⟩, ⟨z1, z2⟩⟩ := h.sub t.a
    rw [h.limit]
    refine ⟨?_, ?_, ?_, ?_, ?_, ?_⟩ <;> dsimp only [Sp.meet] <;> omega
  obtain ⟨p1, k1, j1⟩ := starStep_wider h h0 h1
  obtain ⟨p2, k2, j2⟩ := starStep_wider h j1 h2
  obtain ⟨rfl, e1, e2, e3⟩ := starEnd_some.1 h3
  have := j2.xl; have := j2.xh; have := j2.yl; have := j2.yh; have := j2.sl; have := j2.sh
  rw [h.ax, h.ay, h.f, h.bx, h.by', h.g, k1, Option.bind_some, k2, Option.bind_some]
  exact ⟨p2, starEnd_some.2 ⟨rfl, by omega, by omega, by omega⟩, j2⟩
theorem wider_trails {s r : ISheet} (h : Wider s r) {t : ITr} (ht : t ∈ s.trails) : t ∈ r.trails := by
  obtain ⟨h1, h2⟩ := mem_trails.1 ht
  obtain ⟨u, hu⟩ := Option.isSome_iff_exists.1 h2
  obtain ⟨v, hv, _⟩ := star_wider h hu
  exact mem_trails.2 ⟨by rw [h.len]; exact h1, by rw [hv]; rfl⟩
theorem wider_goes {s r : ISheet} (h : Wider s r) {w : List ITr} (hw : Goes s.trails 0 0 w) : Goes r.trails 0 0 w := by
  obtain ⟨h1, h2⟩ := (goes_set w 0 0).1 hw
  exact (goes_set w 0 0).2 ⟨fun t ht => ⟨wider_trails h (h1 t ht).1, (h1 t ht).2⟩, h2⟩
theorem wider_needs {s r : ISheet} (hn : s.l.length ≤ 9) (h : Wider s r) : (tellN r.trails r.l.length r.l.length 0 0).flaws ≤ (tellN s.trails s.l.length s.l.length 0 0).flaws := by
  have h1 := needsAre (s := s) hn
  have h2 := needsAre (s := r) (by rw [h.len]; exact hn)
  obtain ⟨w, hw, e⟩ := h1.one
  have := h2.min w (wider_goes h hw)
  rw [h.len] at this ⊢
  omega
theorem wider_fits {s r : ISheet} (hs : s.ok = true) (hr : r.ok = true) (h : Wider s r) (t : ITr) : (itFits s t).2 = (itFits r t).2 ∧ ((itFits s t).1 = true → (itFits r t).1 = true) := by
  unfold itFits
  rw [hs, hr, if_pos rfl, if_pos rfl, h.len]
  split
  · refine ⟨rfl, fun hh => ?_⟩
    obtain ⟨u, hu⟩ := Option.isSome_iff_exists.1 (show (s.star t).isSome = true from hh)
    obtain ⟨v, hv, _⟩ := star_wider h hu
    show (r.star t).isSome = true
    rw [hv]; rfl
  · exact ⟨rfl, fun hh => hh⟩

/-- The image k is known less well. -/
def widenP (p : ISpot) (b : Nat) : ISpot := ⟨⟨max 0 (p.x.lo - (b % 4 : Nat)), min 1048576 (p.x.hi + (b / 4 % 4 : Nat))⟩, p.y, ⟨p.s.lo, min 1000 (p.s.hi + (b / 16 % 4 : Nat))⟩⟩
def widenS (s : ISheet) (k b : Nat) : ISheet := { s with l := s.l.set k (widenP (s.l.getD k noSpot) b) }
theorem widenP_sub {p : ISpot} (hp : p.ok = true) (b : Nat) : SpotSub p (widenP p b) ∧ (widenP p b).ok = true := by
  have h := (spot_iff p).1 hp
  unfold widenP
  refine ⟨⟨?_, ?_, ?_⟩, (spot_iff _).2 ?_⟩ <;> dsimp only <;> omega
theorem widenS_wider {s : ISheet} (hok : s.ok = true) (k b : Nat) : Wider s (widenS s k b) := by
  refine ⟨rfl, rfl, rfl, rfl, rfl, rfl, rfl, by simp [widenS], fun i => ?_⟩
  unfold ISheet.at' widenS
  rw [List.getD_eq_getElem?_getD, List.getD_eq_getElem?_getD]
  show SpotSub _ ((s.l.set k _)[i.toNat]?.getD noSpot)
  by_cases e : k = i.toNat
  · subst e
    by_cases hk : i.toNat < s.l.length
    · rw [List.getElem?_set_self hk]
      have : s.l.getD i.toNat noSpot = s.l[i.toNat]?.getD noSpot := List.getD_eq_getElem?_getD
      rw [this]
      exact (widenP_sub (by have := at_ok hok i; unfold ISheet.at' at this; rwa [List.getD_eq_getElem?_getD] at this) b).1
    · rw [List.getElem?_eq_none (by simpa using hk), List.getElem?_eq_none (by simpa using hk)]
      exact SpotSub.refl _
  · rw [List.getElem?_set_ne e]
    exact SpotSub.refl _
theorem widenS_ok {s : ISheet} (hok : s.ok = true) (k b : Nat) (hk : k < s.l.length) : (widenS s k b).ok = true := by
  obtain ⟨h1, h2, h3, h4, h5, h6, h7, h8, h9, h10⟩ := (iok_iff s).1 hok
  refine (iok_iff _).2 ⟨h1, h2, h3, h4, h5, h6, ?_, h8, h9, by simpa [widenS] using h10⟩
  rw [List.all_eq_true] at h7 ⊢
  intro p hp
  rcases List.mem_or_eq_of_mem_set hp with hp | rfl
  · exact h7 p hp
  · refine (widenP_sub (h7 _ ?_) b).2
    rw [List.getD_eq_getElem?_getD, List.getElem?_eq_getElem hk]
    exact List.getElem_mem hk
end Go.Proofs.Ytacioedolmaofaa
namespace Go.Proofs.Ytacioedolmaofaa
set_option linter.unusedVariables false
set_option maxRecDepth 100000

def Sp.cov (a : Sp) (n : Int) : Prop := a.lo ≤ n ∧ n ≤ a.hi
/-- Is image p what a star at X, Y of size Z leaves, after such a step, and fade? -/
def Left (s : ISheet) (i X Y Z : Int) (sx sy fd : Sp) : Prop :=
  if i = -1 then Z ≤ s.limit - 1 + fd.hi
  else ∃ dx dy df, sx.cov dx ∧ sy.cov dy ∧ fd.cov df ∧ (s.at' i).x.cov (X + dx) ∧ (s.at' i).y.cov (Y + dy) ∧ (s.at' i).s.cov (Z - df) ∧ s.limit ≤ Z - df ∧ Z - df ≤ 1000
structure Pt (s : ISheet) (t : ITr) (X Y Z : Int) : Prop where
  x : (s.at' t.a).x.cov X
  y : (s.at' t.a).y.cov Y
  z : (s.at' t.a).s.cov Z
  l : s.limit ≤ Z
  h : Z ≤ 1000
  z0 : 0 ≤ Z
  b : Left s t.b X Y Z s.ax s.ay s.f
  c : Left s t.c X Y Z s.bx s.by' s.g
def SHas (u : IStar) (X Y Z : Int) : Prop := u.x.cov X ∧ u.y.cov Y ∧ u.s.cov Z
theorem starStep_pt {s : ISheet} {o : IStar} {i X Y Z : Int} {sx sy fd : Sp} (h : SHas o X Y Z) (hz : 0 ≤ Z) (hl : Left s i X Y Z sx sy fd) : ∃ o', starStep s o i sx sy fd = some o' ∧ SHas o' X Y Z := by
  obtain ⟨⟨h1, h2⟩, ⟨h3, h4⟩, ⟨h5, h6⟩⟩ := h
  unfold Left at hl
  unfold starStep
  by_cases hi : i = -1
  · rw [if_pos hi] at hl ⊢
    refine ⟨_, rfl, ⟨h1, h2⟩, ⟨h3, h4⟩, ?_⟩
    constructor <;> dsimp only [Sp.meet] <;> omega
  · rw [if_neg hi] at hl ⊢
    obtain ⟨dx, dy, df, ⟨a1, a2⟩, ⟨b1, b2⟩, ⟨c1, c2⟩, ⟨d1, d2⟩, ⟨e1, e2⟩, ⟨f1, f2⟩, g1, g2⟩ := hl
    generalize s.at' i = p at *
    have hnone : ∀ lo hi : Int, (Sp.none ⟨lo, hi⟩ = true) ↔ (hi < lo) := by simp [Sp.none]
    dsimp only [Sp.meet, Sp.less]
    rw [if_neg (by rw [hnone]; omega)]
    refine ⟨_, rfl, ⟨?_, ?_⟩, ⟨?_, ?_⟩, ⟨?_, ?_⟩⟩ <;> dsimp only <;> omega
/-- A star that truly is there fits, and lies within what is told of it. -/
theorem star_pt {s : ISheet} {t : ITr} {X Y Z : Int} (h : Pt s t X Y Z) : ∃ u, s.star t = some u ∧ SHas u X Y Z := by
  have h0 : SHas ⟨(s.at' t.a).x, (s.at' t.a).y, (s.at' t.a).s.meet ⟨s.limit, 1000⟩⟩ X Y Z := by
    obtain ⟨z1, z2⟩ := h.z
    have := h.l; have := h.h
    refine ⟨h.x, h.y, ?_⟩
    constructor <;> dsimp only [Sp.meet] <;> omega
  obtain ⟨o1, e1, k1⟩ := starStep_pt h0 h.z0 h.b
  obtain ⟨o2, e2, k2⟩ := starStep_pt k1 h.z0 h.c
  refine ⟨o2, ?_, k2⟩
  unfold ISheet.star
  dsimp only
  rw [e1, Option.bind_some, e2, Option.bind_some]
  obtain ⟨⟨a1, a2⟩, ⟨b1, b2⟩, ⟨c1, c2⟩⟩ := k2
  exact starEnd_some.2 ⟨rfl, by omega, by omega, by omega⟩
/-- What a later exposure leaves of a star. -/
theorem starStep_out {s : ISheet} {o o' : IStar} {i : Int} {sx sy fd : Sp} (h : starStep s o i sx sy fd = some o') : (i = -1 → o'.s.hi ≤ s.limit - 1 + fd.hi) ∧ (i ≠ -1 → (s.at' i).x.lo - sx.hi ≤ o'.x.lo ∧ o'.x.hi ≤ (s.at' i).x.hi - sx.lo) := by
  unfold starStep at h
  by_cases hi : i = -1
  · rw [if_pos hi] at h
    cases h
    refine ⟨fun _ => ?_, fun hh => absurd hi hh⟩
    dsimp only [Sp.meet]
    omega
  · rw [if_neg hi] at h
    dsimp only at h
    split at h
    · cases h
    · cases h
      refine ⟨fun hh => absurd hh hi, fun _ => ?_⟩
      dsimp only [Sp.meet, Sp.less]
      omega
theorem star_out {s : ISheet} {t : ITr} {u : IStar} (h : s.star t = some u) :
    (t.b = -1 → u.s.hi ≤ s.limit - 1 + s.f.hi) ∧ (t.c = -1 → u.s.hi ≤ s.limit - 1 + s.g.hi) ∧ (t.b ≠ -1 → (s.at' t.b).x.lo - s.ax.hi ≤ u.x.lo) ∧ (t.c ≠ -1 → (s.at' t.c).x.lo - s.bx.hi ≤ u.x.lo) := by
  unfold ISheet.star at h
  dsimp only at h
  rw [Option.bind_eq_some_iff] at h
  obtain ⟨o1, h1, h⟩ := h
  rw [Option.bind_eq_some_iff] at h
  obtain ⟨o2, h2, h3⟩ := h
  obtain ⟨rfl, _⟩ := starEnd_some.1 h3
  have a := starStep_out h1
  have b := starStep_out h2
  have k := starStep_in h2
  refine ⟨fun e => ?_, b.1, fun e => ?_, fun e => (b.2 e).1⟩
  · have := a.1 e; omega
  · have := (a.2 e).1; omega

/-! ### ImageTrail -/
def exSp (n : Int) : Sp := ⟨n, n⟩
def exIm (x y z : Int) : ISpot := ⟨exSp x, exSp y, exSp z⟩
/-- One exposure more: the images, and the number of the star's. -/
def leftL (l : List ISpot) (lim x y z a b f : Int) : List ISpot := if lim ≤ z - f then l ++ [exIm (x + a) (y + b) (z - f)] else l
def leftN (l : List ISpot) (lim z f : Int) : Int := if lim ≤ z - f then l.length else -1
structure Exact where
  lim : Int
  x : Int
  y : Int
  z : Int
  a : Int
  b : Int
  f : Int
  c : Int
  d : Int
  g : Int
structure Exact.in' (e : Exact) : Prop where
  lim : 10 ≤ e.lim ∧ e.lim ≤ 29
  x : 100 ≤ e.x ∧ e.x ≤ 399
  y : 100 ≤ e.y ∧ e.y ≤ 399
  z : e.lim ≤ e.z ∧ e.z ≤ e.lim + 29
  a : 1 ≤ e.a ∧ e.a ≤ 40
  b : 0 ≤ e.b ∧ e.b ≤ 39
  f : 0 ≤ e.f ∧ e.f ≤ 11
  c : 1 ≤ e.c ∧ e.c ≤ 40
  d : 0 ≤ e.d ∧ e.d ≤ 39
  g : 0 ≤ e.g ∧ e.g ≤ 11
def Exact.l1 (e : Exact) : List ISpot := leftL [exIm e.x e.y e.z] e.lim e.x e.y e.z e.a e.b e.f
def Exact.l2 (e : Exact) : List ISpot := leftL e.l1 e.lim e.x e.y e.z e.c e.d e.g
def Exact.l3 (e : Exact) : List ISpot := e.l2 ++ [exIm 1000 1000 e.z]
def Exact.sheet (e : Exact) : ISheet := ⟨exSp e.a, exSp e.b, exSp e.c, exSp e.d, exSp e.f, exSp e.g, e.lim, 0, e.l3⟩
def Exact.tr (e : Exact) : ITr := ⟨0, leftN [exIm e.x e.y e.z] e.lim e.z e.f, leftN e.l1 e.lim e.z e.g⟩
theorem Exact.sheet_ok {e : Exact} (h : e.in') : e.sheet.ok = true := by
  obtain ⟨h1, h2, h3, h4, h5, h6, h7, h8, h9, h10⟩ := h
  have him : ∀ x y z : Int, 0 ≤ x → x ≤ 1048576 → 0 ≤ y → y ≤ 1048576 → 0 ≤ z → z ≤ 1000 → (exIm x y z).ok = true := fun x y z _ _ _ _ _ _ => by
    refine (spot_iff _).2 ?_
    simp only [exIm, exSp]
    omega
  have hl1 : e.l1.all ISpot.ok = true ∧ e.l1.length ≤ 2 := by
    unfold Exact.l1 leftL
    split
    · simp only [List.all_append, List.all_cons, List.all_nil, Bool.and_true, Bool.and_eq_true]
      exact ⟨⟨him _ _ _ (by omega) (by omega) (by omega) (by omega) (by omega) (by omega), him _ _ _ (by omega) (by omega) (by omega) (by omega) (by omega) (by omega)⟩, by simp⟩
    · simp only [List.all_cons, List.all_nil, Bool.and_true]
      exact ⟨him _ _ _ (by omega) (by omega) (by omega) (by omega) (by omega) (by omega), by simp⟩
  have hl2 : e.l2.all ISpot.ok = true ∧ e.l2.length ≤ 3 := by
    unfold Exact.l2 leftL
    split
    · simp only [List.all_append, List.all_cons, List.all_nil, Bool.and_true, Bool.and_eq_true]
      exact ⟨⟨hl1.1, him _ _ _ (by omega) (by omega) (by omega) (by omega) (by omega) (by omega)⟩, by simp; omega⟩
    · exact ⟨hl1.1, by omega⟩
  refine (iok_iff _).2 ?_
  unfold Exact.sheet
  simp only [exSp]
  refine ⟨by omega, by omega, by omega, by omega, by omega, by omega, ?_, by omega, by omega, ?_⟩
  · unfold Exact.l3
    simp only [List.all_append, List.all_cons, List.all_nil, Bool.and_true, Bool.and_eq_true]
    exact ⟨hl2.1, him _ _ _ (by omega) (by omega) (by omega) (by omega) (by omega) (by omega)⟩
  · unfold Exact.l3
    simp; omega

theorem Exact.l3_tr (e : Exact) : e.tr.a = 0 := rfl
/-- What ImageTrail asks: the star's images fit, without one of them, or with one far away, they do not. -/
structure TrailIs (e : Exact) : Prop where
  fits : itFits e.sheet e.tr = (true, 0)
  ub : itFits e.sheet ⟨0, -1, e.tr.c⟩ = (decide (e.tr.b = -1), 0)
  uc : itFits e.sheet ⟨0, e.tr.b, -1⟩ = (decide (e.tr.c = -1), 0)
  vb : itFits e.sheet ⟨0, (e.l3.length : Int) - 1, e.tr.c⟩ = (false, 0)
  vc : itFits e.sheet ⟨0, e.tr.b, (e.l3.length : Int) - 1⟩ = (false, 0)
theorem itFits_of {s : ISheet} {t : ITr} (hs : s.ok = true) (ht : t.ok s.l.length = true) : itFits s t = ((s.star t).isSome, 0) := by
  unfold itFits
  rw [hs, ht]
  rfl
/-- The images, and where they are told to be. -/
structure ImsAre (e : Exact) : Prop where
  n1 : (1 : Int) < e.l3.length
  a : e.sheet.at' 0 = exIm e.x e.y e.z
  b : (e.tr.b = -1 ∧ e.z - e.f < e.lim) ∨ (0 < e.tr.b ∧ e.tr.b < e.l3.length - 1 ∧ e.lim ≤ e.z - e.f ∧ e.sheet.at' e.tr.b = exIm (e.x + e.a) (e.y + e.b) (e.z - e.f))
  c : (e.tr.c = -1 ∧ e.z - e.g < e.lim) ∨ (0 < e.tr.c ∧ e.tr.c < e.l3.length - 1 ∧ e.lim ≤ e.z - e.g ∧ e.sheet.at' e.tr.c = exIm (e.x + e.c) (e.y + e.d) (e.z - e.g))
  bc : e.tr.b ≠ -1 → e.tr.b ≠ e.tr.c
  far : e.sheet.at' ((e.l3.length : Int) - 1) = exIm 1000 1000 e.z
theorem imsAre (e : Exact) : ImsAre e := by
  by_cases h1 : e.lim ≤ e.z - e.f
  · have e1 : e.l1 = [exIm e.x e.y e.z, exIm (e.x + e.a) (e.y + e.b) (e.z - e.f)] := by unfold Exact.l1 leftL; rw [if_pos h1]; rfl
    have b1 : e.tr.b = 1 := by unfold Exact.tr leftN; simp [h1]
    by_cases h2 : e.lim ≤ e.z - e.g
    · have e3 : e.l3 = [exIm e.x e.y e.z, exIm (e.x + e.a) (e.y + e.b) (e.z - e.f), exIm (e.x + e.c) (e.y + e.d) (e.z - e.g), exIm 1000 1000 e.z] := by unfold Exact.l3 Exact.l2 leftL; rw [if_pos h2, e1]; rfl
      have c1 : e.tr.c = 2 := by unfold Exact.tr leftN; simp [h2, e1]
      have hl : e.sheet.l = e.l3 := rfl
      refine ⟨by rw [e3]; simp, ?_, .inr ⟨by omega, by rw [e3, b1]; simp, h1, ?_⟩, .inr ⟨by omega, by rw [e3, c1]; simp, h2, ?_⟩, by omega, ?_⟩
      · unfold ISheet.at'; rw [hl, e3]; rfl
      · unfold ISheet.at'; rw [hl, e3, b1]; rfl
      · unfold ISheet.at'; rw [hl, e3, c1]; rfl
      · unfold ISheet.at'; rw [hl, e3]; rfl
    · have e3 : e.l3 = [exIm e.x e.y e.z, exIm (e.x + e.a) (e.y + e.b) (e.z - e.f), exIm 1000 1000 e.z] := by unfold Exact.l3 Exact.l2 leftL; rw [if_neg h2, e1]; rfl
      have c1 : e.tr.c = -1 := by unfold Exact.tr leftN; simp [h2]
      have hl : e.sheet.l = e.l3 := rfl
      refine ⟨by rw [e3]; simp, ?_, .inr ⟨by omega, by rw [e3, b1]; simp, h1, ?_⟩, .inl ⟨c1, by omega⟩, by omega, ?_⟩
      · unfold ISheet.at'; rw [hl, e3]; rfl
      · unfold ISheet.at'; rw [hl, e3, b1]; rfl
      · unfold ISheet.at'; rw [hl, e3]; rfl
  · have e1 : e.l1 = [exIm e.x e.y e.z] := by unfold Exact.l1 leftL; rw [if_neg h1]
    have b1 : e.tr.b = -1 := by unfold Exact.tr leftN; simp [h1]
    by_cases h2 : e.lim ≤ e.z - e.g
    · have e3 : e.l3 = [exIm e.x e.y e.z, exIm (e.x + e.c) (e.y + e.d) (e.z - e.g), exIm 1000 1000 e.z] := by unfold Exact.l3 Exact.l2 leftL; rw [if_pos h2, e1]; rfl
      have c1 : e.tr.c = 1 := by unfold Exact.tr leftN; simp [h2, e1]
      have hl : e.sheet.l = e.l3 := rfl
      refine ⟨by rw [e3]; simp, ?_, .inl ⟨b1, by omega⟩, .inr ⟨by omega, by rw [e3, c1]; simp, h2, ?_⟩, by omega, ?_⟩
      · unfold ISheet.at'; rw [hl, e3]; rfl
      · unfold ISheet.at'; rw [hl, e3, c1]; rfl
      · unfold ISheet.at'; rw [hl, e3]; rfl
    · have e3 : e.l3 = [exIm e.x e.y e.z, exIm 1000 1000 e.z] := by unfold Exact.l3 Exact.l2 leftL; rw [if_neg h2, e1]; rfl
      have c1 : e.tr.c = -1 := by unfold Exact.tr leftN; simp [h2]
      have hl : e.sheet.l = e.l3 := rfl
      refine ⟨by rw [e3]; simp, ?_, .inl ⟨b1, by omega⟩, .inl ⟨c1, by omega⟩, by omega, ?_⟩
      · unfold ISheet.at'; rw [hl, e3]; rfl
      · unfold ISheet.at'; rw [hl, e3]; rfl
theorem trail_ok_of {n : Nat} {b c : Int} (hn : (0 : Int) < n) (hb : b = -1 ∨ (0 < b ∧ b < n)) (hc : c = -1 ∨ (0 < c ∧ c < n)) (hne : b ≠ -1 → b ≠ c) : (⟨0, b, c⟩ : ITr).ok n = true := by
  unfold ITr.ok isIm
  simp only [Bool.and_eq_true, Bool.or_eq_true, decide_eq_true_eq]
  omega
theorem star_none {s : ISheet} {t : ITr} (h : ∀ u, s.star t = some u → False) : (s.star t).isSome = false := by
  cases hu : s.star t with
  | none => rfl
  | some u => exact (h u hu).elim
theorem trailIs {e : Exact} (h : e.in') : TrailIs e := by
  have hok := e.sheet_ok h
  obtain ⟨h1n, ha, hb, hc, hbc, hf⟩ := imsAre e
  have h0 : (0 : Int) < e.l3.length := by omega
  have hlen : e.sheet.l.length = e.l3.length := rfl
  have htr : e.tr = ⟨0, e.tr.b, e.tr.c⟩ := rfl
  obtain ⟨g1, g2, g3, g4, g5, g6, g7, g8, g9, g10⟩ := h
  obtain ⟨b, eb⟩ : ∃ b, e.tr.b = b := ⟨_, rfl⟩
  obtain ⟨c, ec⟩ : ∃ c, e.tr.c = c := ⟨_, rfl⟩
  rw [eb] at hb hbc htr
  rw [ec] at hc hbc htr
  have hb' : b = -1 ∨ (0 < b ∧ b < (e.l3.length : Int)) := by omega
  have hc' : c = -1 ∨ (0 < c ∧ c < (e.l3.length : Int)) := by omega
  have hbL : Left e.sheet b e.x e.y e.z e.sheet.ax e.sheet.ay e.sheet.f := by
    unfold Left
    rcases hb with ⟨e1, e2⟩ | ⟨e1, _, e2, e3⟩
    · rw [if_pos e1]; show e.z ≤ e.lim - 1 + e.f; omega
    · rw [if_neg (by omega), e3]
      exact ⟨e.a, e.b, e.f, ⟨Int.le_refl _, Int.le_refl _⟩, ⟨Int.le_refl _, Int.le_refl _⟩, ⟨Int.le_refl _, Int.le_refl _⟩, ⟨Int.le_refl _, Int.le_refl _⟩, ⟨Int.le_refl _, Int.le_refl _⟩, ⟨Int.le_refl _, Int.le_refl _⟩, e2, by omega⟩
  have hcL : Left e.sheet c e.x e.y e.z e.sheet.bx e.sheet.by' e.sheet.g := by
    unfold Left
    rcases hc with ⟨e1, e2⟩ | ⟨e1, _, e2, e3⟩
    · rw [if_pos e1]; show e.z ≤ e.lim - 1 + e.g; omega
    · rw [if_neg (by omega), e3]
      exact ⟨e.c, e.d, e.g, ⟨Int.le_refl _, Int.le_refl _⟩, ⟨Int.le_refl _, Int.le_refl _⟩, ⟨Int.le_refl _, Int.le_refl _⟩, ⟨Int.le_refl _, Int.le_refl _⟩, ⟨Int.le_refl _, Int.le_refl _⟩, ⟨Int.le_refl _, Int.le_refl _⟩, e2, by omega⟩
  have hpt : Pt e.sheet ⟨0, b, c⟩ e.x e.y e.z := by
    refine ⟨?_, ?_, ?_, g4.1, by omega, by omega, hbL, hcL⟩
    · show (e.sheet.at' 0).x.cov _; rw [ha]; exact ⟨Int.le_refl _, Int.le_refl _⟩
    · show (e.sheet.at' 0).y.cov _; rw [ha]; exact ⟨Int.le_refl _, Int.le_refl _⟩
    · show (e.sheet.at' 0).s.cov _; rw [ha]; exact ⟨Int.le_refl _, Int.le_refl _⟩
  obtain ⟨u, hu, _⟩ := star_pt hpt
  have hfits : itFits e.sheet ⟨0, b, c⟩ = (true, 0) := by
    rw [itFits_of hok (by rw [hlen]; exact trail_ok_of h0 hb' hc' hbc), hu]; rfl
  have hz : ∀ t : ITr, t.a = 0 → ∀ u, e.sheet.star t = some u → e.z ≤ u.s.hi ∧ u.x.lo ≤ e.x := fun t h0 u hu => by
    have hin := star_in hu
    rw [h0] at hin
    have a := hin.s
    have b := hin.x
    rw [ha] at a b
    simp only [exIm, exSp] at a b
    have l1 : e.sheet.limit = e.lim := rfl
    omega
  refine ⟨by rw [htr]; exact hfits, ?_, ?_, ?_, ?_⟩
  · rw [eb, ec]
    by_cases hbe : b = -1
    · rw [hbe] at hfits ⊢; rw [hfits]; rfl
    · rw [itFits_of hok (by rw [hlen]; exact trail_ok_of h0 (.inl rfl) hc' (by omega))]
      rw [star_none (fun u hu => ?_)]
      · simp [hbe]
      · have h1 := (hz _ rfl u hu).1
        have h2 := (star_out hu).1 rfl
        have h3 : e.sheet.limit - 1 + e.sheet.f.hi = e.lim - 1 + e.f := rfl
        omega
  · rw [eb, ec]
    by_cases hce : c = -1
    · rw [hce] at hfits ⊢; rw [hfits]; rfl
    · rw [itFits_of hok (by rw [hlen]; exact trail_ok_of h0 hb' (.inl rfl) (by omega))]
      rw [star_none (fun u hu => ?_)]
      · simp [hce]
      · have h1 := (hz _ rfl u hu).1
        have h2 := (star_out hu).2.1 rfl
        have h3 : e.sheet.limit - 1 + e.sheet.g.hi = e.lim - 1 + e.g := rfl
        omega
  · rw [ec, itFits_of hok (by rw [hlen]; exact trail_ok_of h0 (.inr (by omega)) hc' (by omega))]
    rw [star_none (fun u hu => ?_)]
    have h1 := (hz _ rfl u hu).2
    have h2 := (star_out hu).2.2.1 (by show (e.l3.length : Int) - 1 ≠ -1; omega)
    have h3 : e.sheet.ax.hi = e.a := rfl
    rw [show (⟨0, (e.l3.length : Int) - 1, c⟩ : ITr).b = (e.l3.length : Int) - 1 from rfl, hf, h3] at h2
    simp only [exIm, exSp] at h2
    omega
  · rw [eb, itFits_of hok (by rw [hlen]; exact trail_ok_of h0 hb' (.inr (by omega)) (by omega))]
    rw [star_none (fun u hu => ?_)]
    have h1 := (hz _ rfl u hu).2
    have h2 := (star_out hu).2.2.2 (by show (e.l3.length : Int) - 1 ≠ -1; omega)
    have h3 : e.sheet.bx.hi = e.c := rfl
    rw [show (⟨0, b, (e.l3.length : Int) - 1⟩ : ITr).c = (e.l3.length : Int) - 1 from rfl, hf, h3] at h2
    simp only [exIm, exSp] at h2
    omega
end Go.Proofs.Ytacioedolmaofaa
