/- Fewest: one round over the trails that go on. The loop of Fewest. Fewest. What the document fixes of its sample: it holds. -/
import Derived.Test.YtacioedolmaofaaLBA23
import Derived.Test.YtacioedolmaofaaLBA13
namespace Go.Proofs.Ytacioedolmaofaa
open Go.RowKit Go.Shelf
attribute [local go_sem] Oper.semAt_some
set_option maxHeartbeats 6400000
set_option maxRecDepth 100000
set_option linter.unusedSimpArgs false
set_option linter.unusedVariables false

/-- Between rounds: no trail so far goes on. -/
structure FewJ (w0 : World) (r n : Nat) (T : List ITr) (F : Int) (used : Nat) (own : Nat → Prop) (pre : List ITr) (W : World) : Prop where
  own : ∀ k, own k → w0.heap.size ≤ k ∧ k < W.heap.size
  st : Steps (fun k => k = r ∨ w0.heap.size ≤ k) w0 W
  kn : KnownT W r T n F (fun _ => True)
  no : ∀ t ∈ pre, goesOn T n F used t = false
theorem FewJ.bides {w0 : World} {r n : Nat} {T : List ITr} {F : Int} {used : Nat} (hr : r < w0.heap.size) : Bides (FewJ w0 r n T F used) := by
  rintro own own' s A B ⟨h1, h2, h3, h4⟩ hs ho
  have hsz := hs.size
  have hz2 := h2.size
  refine ⟨fun k hk => ?_, h2.trans hs (fun k _ hk => .inr (h1 k hk).1), h3.steps hs (fun h => by have := (h1 _ h).1; omega), h4⟩
  rcases ho k hk with h | h
  · exact ⟨(h1 k h).1, by have := (h1 k h).2; omega⟩
  · omega
/-- Behind the round that ends the range: the trail that goes on has been taken. -/
structure FewX (w0 : World) (r n bl q7 base : Nat) (T : List ITr) (F : Int) (used : Nat) (done : List ITr) (v : Value) (c : Code) (own : Nat → Prop) (pre : List ITr) (W : World) : Prop where
  c : c = .exit 2
  bd : ∀ k, own k → w0.heap.size ≤ k ∧ k < W.heap.size
  st : Steps (fun k => k = r ∨ k = q7 ∨ k = bl ∨ v.ownBlock = some k ∨ w0.heap.size ≤ k) w0 W
  kn : KnownT W r T n F (fun _ => True)
  ex : ∃ p' t v', pre = p' ++ [t] ∧ (∀ x ∈ p', goesOn T n F used x = false) ∧ goesOn T n F used t = true ∧ W.ownsRow base 32 3 v' (done ++ [t]).length (trsCells (done ++ [t])) ∧ W.heap[bl]? = some (.cells #[v'] 41) ∧ W.heap[q7]? = some (.cells #[.int .i64 (t.a + 1), .int .u64 (used ||| t.own : Nat)] 94) ∧ ∀ g, v'.ownBlock = some g → ¬ own g
theorem FewX.bides {w0 : World} {r n bl q7 base : Nat} {T : List ITr} {F : Int} {used : Nat} {done : List ITr} {v : Value} {c : Code} (hr : r < w0.heap.size) (hb : bl < w0.heap.size) (hq : q7 < w0.heap.size) : Bides (FewX w0 r n bl q7 base T F used done v c) := by
  rintro own own' s A B ⟨h0, h1, h2, h3, p', t, v', e1, e2, e3, e4, e5, e6, e7⟩ hs ho
  have hsz := hs.size
  have hz2 := h2.size
  refine ⟨h0, fun k hk => ?_, h2.trans hs (fun k _ hk => .inr (.inr (.inr (.inr (h1 k hk).1)))), h3.steps hs (fun h => by have := (h1 _ h).1; omega), p', t, v', e1, e2, e3, ownsRow_same e4 (fun g hg => hs.block g (e4.lt g hg).2 (e7 g hg)), hs.obj (fun h => by have := (h1 _ h).1; omega) e5, hs.obj (fun h => by have := (h1 _ h).1; omega) e6, fun g hg h => ?_⟩
  · rcases ho k hk with h | h
    · exact ⟨(h1 k h).1, by have := (h1 k h).2; omega⟩
    · omega
  · rcases ho g h with h | h
    · exact e7 g hg h
    · have := (e4.lt g hg).2; omega

theorem few_round (z p B1 B2 B3 B4 r n bl q6 q7 Bs Bf Bu base : Nat) (fa : Option Addr) (fc : Nat) (ta : Option Addr) (tc : Nat) (T : List ITr) (F fr : Int) (used : Nat) (done : List ITr) (v : Value) (w0 : World) {z0 z1 z3 z5 z8 z9 z10 z11 z12 z13 z14 z15 z16 z17 z18 z19 z20 z21 z22 z23 z24 z25 z26 z27 z28 z29 z30 z31 z32 z33 z34 z35 z36 z37 z38 z39 z40 z41 z42 z43 z44 z45 z46 z47 z48 z49 z50 z51 z52 z53 z54 z55 z56 z57 z58 z59 z60 z61 : Value}
    (hat : TellAt w0 p B1 B2 B3 B4 r n F fa fc ta tc T) (h6 : w0.heap[q6]? = some (.cells #[onV B1 B2 B3 B4] 91)) (h7 : w0.heap[q7]? = some (.cells #[.int .i64 fr, .int .u64 used] 94)) (hL : w0.heap[bl]? = some (.cells #[v] 41)) (hrow : w0.ownsRow base 32 3 v done.length (trsCells done)) (hdl : done.length ≤ 5000)
    (hz : r < base ∧ bl < base ∧ q6 < base ∧ q7 < base ∧ base ≤ w0.heap.size ∧ r ≠ bl ∧ r ≠ q6 ∧ r ≠ q7 ∧ bl ≠ q7 ∧ bl ≠ q6 ∧ q7 ≠ q6) (hne : ∀ k, (k = p ∨ k = B1 ∨ k = B2 ∨ k = B3 ∨ k = B4 ∨ (T ≠ [] ∧ ∃ a, ta = some a ∧ a.block = k)) → k < base ∧ k ≠ r ∧ k ≠ bl ∧ k ≠ q7) (hB : ∀ k, (k = Bs ∨ k = Bf ∨ k = Bu) → base ≤ k ∧ k < w0.heap.size ∧ v.ownBlock ≠ some k)
    (hn : n ≤ 9) (hT : TOk T n) (h0 : 0 ≤ fr) (hu : used < 512) :
    RoundOwn Fence.wide Try.prog #[40] ((((Try.f19.body.bind rangeOf).map (·.1)).getD .skip)) ((((Try.f19.body.bind rangeOf).map (·.2)).getD .skip))
      (⟨(z0::z1::(.pointer (some ⟨bl, 0, none⟩))::z3::(.pointer (some ⟨p, 0, none⟩))::z5::(.pointer (some ⟨q6, 0, none⟩))::(.pointer (some ⟨q7, 0, none⟩))::z8::z9::z10::z11::z12::z13::z14::z15::z16::z17::z18::z19::z20::z21::z22::z23::z24::z25::z26::z27::z28::z29::z30::z31::z32::z33::z34::z35::z36::z37::z38::z39::z40::z41::z42::z43::z44::z45::z46::z47::z48::z49::z50::z51::z52::z53::z54::z55::z56::z57::z58::z59::z60::z61 :: []).toArray, []⟩ : Act).tmps w0.heap.size
      (fun _ x vals _ => vals = #[trV x]) (KeepCells (NxB p Bs Bf Bu ta)) (FewJ w0 r n T F used) (FewX w0 r n bl q7 base T F used done v) (nextOf T fr used) := by
  rintro l own pre x vals W hl hol hrec hpost ⟨hown, hsW, hkW, hno⟩ rfl
  obtain ⟨y1, y2, y3, y4, y5, y6, y7, y8, y9, y10, y11⟩ := hz
  have hmem : x ∈ nextOf T fr used := by obtain ⟨post, e⟩ := hpost; rw [e]; simp
  obtain ⟨hxT, hxa, hxu⟩ := next_mem hmem
  have hwf := hT.wf x hxT
  have hT0 : T ≠ [] := fun e => by rw [e] at hxT; cases hxT
  have hxo : x.own < 512 := hwf.own_lt hn
  have hor : used ||| x.own < 512 := Nat.or_lt_two_pow (n := 9) hu hxo
  have hxb : ∀ i ∈ [x.a, x.b, x.c], -1 ≤ i ∧ i < 9 := by
    intro i hi
    simp only [List.mem_cons, List.not_mem_nil, or_false] at hi
    have ha := hwf.a
    rcases hi with rfl | rfl | rfl
    · omega
    · rcases hwf.b with h | h <;> omega
    · rcases hwf.c with h | h <;> omega
  have hvge : ∀ g, v.ownBlock = some g → base ≤ g ∧ g < w0.heap.size := fun g hg => hrow.lt g hg
  have hnx : ∀ k, NxB p Bs Bf Bu ta k → k < w0.heap.size ∧ k ≠ r ∧ k ≠ bl ∧ k ≠ q7 ∧ v.ownBlock ≠ some k := by
    intro k hk
    rcases hk with rfl | rfl | rfl | rfl | ⟨a, ha, rfl⟩
    · have := hne k (.inl rfl)
      exact ⟨by omega, this.2.1, this.2.2.1, this.2.2.2, fun e => by have := (hvge _ e).1; omega⟩
    · have := hB k (.inl rfl)
      exact ⟨this.2.1, by omega, by omega, by omega, this.2.2⟩
    · have := hB k (.inr (.inl rfl))
      exact ⟨this.2.1, by omega, by omega, by omega, this.2.2⟩
    · have := hB k (.inr (.inr rfl))
      exact ⟨this.2.1, by omega, by omega, by omega, this.2.2⟩
    · have := hne a.block (.inr (.inr (.inr (.inr (.inr ⟨hT0, a, ha, rfl⟩)))))
      exact ⟨by omega, this.2.1, this.2.2.1, this.2.2.2, fun e => by have := (hvge _ e).1; omega⟩
  have hsteps : ∀ (A : World), Steps (fun k => k = r ∨ w0.heap.size ≤ k) w0 A → TellAt A p B1 B2 B3 B4 r n F fa fc ta tc T := fun A hs =>
    hat.steps hs (by have := hne p (.inl rfl); omega) (by have := hne B1 (.inr (.inl rfl)); omega) (by have := hne B2 (.inr (.inr (.inl rfl))); omega) (by have := hne B3 (.inr (.inr (.inr (.inl rfl)))); omega) (by have := hne B4 (.inr (.inr (.inr (.inr (.inl rfl))))); omega)
      (fun k hk b o e h => by have := hne b (.inr (.inr (.inr (.inr (.inr ⟨hT0, _, e, rfl⟩))))); omega)
  have HNX := Lib.hid hnx
  have HVG := Lib.hid hvge
  have HVR : Hid (∀ k, v.ownBlock = some k → base ≤ k) := Lib.hid (fun k hk => (hvge k hk).1)
  clear hnx hpost
  conv => arg 4; whnf
  unfold trV
  gi_wp2
  have hzW := hsW.size
  have hlW := (Array.getElem?_eq_some_iff.1 hrec.choose_spec).1
  refine ⟨fun k hk => Below.heap_alloc _ _ _ (hown k hk).2, by simp, fun W2 h2 hz2 hl2 => ?_⟩
  have hal := (Steps.alloc (fun k => k = l) W (.cells #[.int .i64 x.a, .int .i64 x.b, .int .i64 x.c] 32)).trans h2 (fun _ _ h => h)
  have e0 : W2.heap[W.heap.size]? = some (.cells #[.int .i64 x.a, .int .i64 x.b, .int .i64 x.c] 32) := (h2.block W.heap.size (by simp) (by omega)).trans (obj_new _ _)
  have hz2' : W.heap.size < W2.heap.size := (Array.getElem?_eq_some_iff.1 e0).1
  obtain ⟨q8, hq8⟩ : ∃ q, W.heap.size = q := ⟨_, rfl⟩
  try rw [hq8]
  rw [hq8] at e0 hz2' hlW hzW
  have hsW2 : Steps (fun k => k = r ∨ w0.heap.size ≤ k) w0 W2 := hsW.trans hal (fun k _ h => .inr (by omega))
  have hkW2 : KnownT W2 r T n F (fun _ => True) := hkW.steps hal (fun h => by omega)
  have h72 := hsW2.obj (k := q7) (by omega) h7
  have h62 := hsW2.obj (k := q6) (by omega) h6
  have HOW := Lib.hid hown
  have HS2 := Lib.hid hal
  clear hrec hl2 h2 hal hz2 hkW hsW
  conv => arg 4; whnf
  gi_wp2
  refine few_reg9 l q7 q8 used x W2 (cell_block h72 1) e0 (by omega) (by omega) hxb _ _ ?_
  intro s41 s42 s43 s44 s45 s46 s47 s48 s49 s50 q9 W3 hq9 h93 hs3
  have hsW3 : Steps (fun k => k = r ∨ w0.heap.size ≤ k) w0 W3 := hsW2.trans hs3 (fun _ _ h => h.elim)
  have hkW3 := hkW2.steps hs3 (fun h => h)
  have h63 := hs3.obj (fun h => h) h62
  have e3 := hs3.obj (fun h => h) e0
  have hat3 := hsteps W3 hsW3
  have hz3 := hs3.size
  have hon := ion_from hn hT hat3 hkW3 (x.a + 1) (used ||| x.own) (by have := hwf.a; omega) hor
  unfold onV at h63
  have k6 := cell_block h63 0
  have k90 := cell_block h93 0
  have k91 := cell_block h93 1
  simp only [gA, gB, gC] at k6 k90 k91
  obtain ⟨y, hy⟩ : ∃ y, tellN T n F (x.a + 1) (used ||| x.own) = y := ⟨_, rfl⟩
  have tf := tfield0 (.int .i64 y.many) (.int .i64 y.flaws) (.int .i64 y.lo) (.int .i64 y.hi) (.int .u64 y.some) (.int .u64 y.all)
  have hgo : goesOn T n F used x = decide (y.many ≠ 0) := by unfold goesOn; rw [hy]
  have HGO := Lib.hid hgo
  clear hgo h62 hkW2 h72
  by_cases hm : y.many = 0
  · have hmi : ¬ (0 : Int) < (y.many : Int) := by omega
    have hmb : decide ((0 : Int) < (y.many : Int)) = false := decide_eq_false hmi
    have HM := Lib.hid hm
    clear hm
    gi_wp2_with (refine ⟨trivial, rfl, ?_⟩; gi_at_call 73; refine (CallsIn.inRound l (callsIn_wide.2 hon)).mono ?_; rintro e W4 ⟨rfl, hs4, hk4⟩; rw [hy]; unfold tdV)
    have hk4' := hk4.mono (Ky' := fun _ => True) (fun _ _ => trivial)
    have hsW4 : Steps (fun k => k = r) W2 W4 := (hs3.mono (own' := fun k => k = r) (fun _ _ h => h.elim)).trans hs4 (fun _ _ h => h)
    have hz4 := hs4.size
    refine ⟨fun k hk => ?_, by omega, ?_, ⟨fun k hk => ?_, hsW2.trans hsW4 (fun _ _ h => .inl h), hk4', fun t ht => ?_⟩⟩
    · have := HOW.out k hk
      exact hsW4.block k (by omega) (by omega)
    · exact (KeepCells.of_steps HS2.out (fun k hk (h : k = l) => by have := (HNX.out k hk).1; omega)).trans (KeepCells.of_steps hsW4 (fun k hk h => (HNX.out k hk).2.1 h))
    · have := HOW.out k hk
      omega
    · rcases List.mem_append.1 ht with ht | ht
      · exact hno t ht
      · rw [List.mem_singleton] at ht
        subst ht
        rw [HGO.out, HM.out]
        rfl
  · have hmi : (0 : Int) < (y.many : Int) := by omega
    have hmb : decide ((0 : Int) < (y.many : Int)) = true := decide_eq_true hmi
    gi_wp2_with (refine ⟨trivial, rfl, ?_⟩; gi_at_call 73; refine (CallsIn.inRound l (callsIn_wide.2 hon)).mono ?_; rintro e W4 ⟨rfl, hs4, hk4⟩; rw [hy]; unfold tdV)
    have hk4' := hk4.mono (Ky' := fun _ => True) (fun _ _ => trivial)
    have hsW4 : Steps (fun k => k = r) W2 W4 := (hs3.mono (own' := fun k => k = r) (fun _ _ h => h.elim)).trans hs4 (fun _ _ h => h)
    have hall4 : Steps (fun k => k = r ∨ w0.heap.size ≤ k) w0 W4 := hsW2.trans hsW4 (fun _ _ h => .inl h)
    have hz4 := hs4.size
    have hz04 := hall4.size
    have h94 := hs4.obj (k := q9) (by omega) h93
    have e4 := hs4.obj (k := q8) (by omega) e3
    have h74 := hall4.obj (k := q7) (by omega) h7
    have hL4 := hall4.obj (k := bl) (by omega) hL
    have hrow4 : W4.ownsRow base 32 3 v done.length (trsCells done) := ownsRow_same hrow (fun g hg => hall4.block g (HVG.out g hg).2 (fun h => by have := HVG.out g hg; omega))
    refine wpIn_last (few_reg11 l base bl q7 q8 q9 done v x (x.a + 1) (used ||| x.own) _ _ W4 hL4 hrow4 hdl h74 e4 h94 ⟨by omega, by omega, by omega, by omega, by omega, by omega, by omega⟩ (fun g hg => by have := HVG.out g hg; omega) (by omega) _ _ ?_)
    intro s56 s57 s58 s59 s60 v' W5 hown5 hL5 h75 hs5 hnx5
    have hall5 : Steps (fun k => k = r ∨ k = q7 ∨ k = bl ∨ v.ownBlock = some k ∨ w0.heap.size ≤ k) w0 W5 := (hall4.mono (own' := fun k => k = r ∨ k = q7 ∨ k = bl ∨ v.ownBlock = some k ∨ w0.heap.size ≤ k) (fun k _ h => by rcases h with h | h; exact .inl h; exact .inr (.inr (.inr (.inr h))))).trans hs5 (fun k _ h => by rcases h with h | h | h; exact .inr (.inl h); exact .inr (.inr (.inl h)); exact .inr (.inr (.inr (.inl h))))
    have hs25 : Steps (fun k => k = r ∨ k = q7 ∨ k = bl ∨ v.ownBlock = some k) W2 W5 := (hsW4.mono (own' := fun k => k = r ∨ k = q7 ∨ k = bl ∨ v.ownBlock = some k) (fun _ _ h => .inl h)).trans hs5 (fun _ _ h => .inr h)
    have hk5 : KnownT W5 r T n F (fun _ => True) := hk4'.steps hs5 (fun h => by rcases h with h | h | h; omega; omega; have := HVG.out _ h; have := HVR.out r h; omega)
    have hz5 := hs5.size
    have hvx : ∀ g, v'.ownBlock = some g → ¬ own g := by
      intro g hg ho
      have h1 := HOW.out g ho
      rcases hnx5 with h | ⟨u, h, hu⟩
      · rw [h] at hg
        have := HVG.out g hg
        omega
      · rw [h] at hg
        cases hg
        omega
    gi_wp2
    refine ⟨fun k hk => ?_, by omega, ?_, ⟨rfl, fun k hk => ?_, hall5, hk5, pre, x, v', rfl, hno, ?_, hown5, hL5, h75, hvx⟩⟩
    · have := HOW.out k hk
      exact hs25.block k (by omega) (fun h => by rcases h with h | h | h | h; omega; omega; omega; have := HVG.out _ h; omega)
    · exact (KeepCells.of_steps HS2.out (fun k hk (h : k = l) => by have := (HNX.out k hk).1; omega)).trans (KeepCells.of_steps hs25 (fun k hk h => by have h1 := HNX.out k hk; rcases h with h | h | h | h; exact h1.2.1 h; exact h1.2.2.2.1 h; exact h1.2.2.1 h; exact h1.2.2.2.2 h))
    · have := HOW.out k hk
      omega
    · rw [HGO.out]
      exact decide_eq_true hm
end Go.Proofs.Ytacioedolmaofaa
namespace Go.Proofs.Ytacioedolmaofaa
open Go.RowKit Go.Shelf
attribute [local go_sem] Oper.semAt_some
set_option maxHeartbeats 6400000
set_option maxRecDepth 100000
set_option linter.unusedSimpArgs false
set_option linter.unusedVariables false

/-- The first loop of a text. -/
def loopOf : Code → Option Code
  | .loop c => some (.loop c)
  | .seq a b => match loopOf a with
    | some c => some c
    | none => loopOf b
  | .cond _ a b => match loopOf a with
    | some c => some c
    | none => loopOf b
  | .block _ c => loopOf c
  | .scope c => loopOf c
  | _ => none
def markOf (D : Nat) : Deferred := { target := .collected D, args := #[] }
/-- The marks that ranges over functions have left. -/
structure MarksAt (base : Nat) (Ds : List Nat) (W : World) : Prop where
  nd : Ds.Nodup
  at' : ∀ D ∈ Ds, base ≤ D ∧ W.heap[D]? = some (.deferred (some []))
theorem MarksAt.nil (base : Nat) (W : World) : MarksAt base [] W := ⟨List.nodup_nil, by simp⟩
theorem MarksAt.lt {base : Nat} {Ds : List Nat} {W : World} (h : MarksAt base Ds W) : ∀ D ∈ Ds, D < W.heap.size := fun D hD => (Array.getElem?_eq_some_iff.1 (h.at' D hD).2).1
theorem MarksAt.steps {base : Nat} {Ds : List Nat} {A C : World} {own : Nat → Prop} (h : MarksAt base Ds A) (hs : Steps own A C) (hn : ∀ D ∈ Ds, ¬ own D) : MarksAt base Ds C :=
  ⟨h.nd, fun D hD => ⟨(h.at' D hD).1, hs.obj (hn D hD) (h.at' D hD).2⟩⟩
/-- A return, all marks taken. -/
theorem marks_all {P : Program} {fn : Func} {tmps : Array Value} {v : Value} {base : Nat} : ∀ (Ds : List Nat) (W : World) (R : Ending → World → Prop), MarksAt base Ds W →
    (∀ X, Steps (fun k => k ∈ Ds) W X → X.heap.size = W.heap.size → (results fn tmps).run P X = .ok v X ∧ R (.returned v) X) → bodyPostM Fence.wide 0 P fn R .ret { tmps, defers := Ds.map markOf } W := by
  intro Ds
  have key : ∀ (Ds : List Nat) (W : World) (R : Ending → World → Prop), MarksAt base Ds W → (∀ X, Steps (fun k => k ∈ Ds) W X → X.heap.size = W.heap.size → (results fn tmps).run P X = .ok v X ∧ R (.returned v) X) → LeavesInM Fence.wide 0 P fn tmps R (Ds.map markOf) .returning W := by
    intro Ds
    induction Ds with
    | nil =>
      intro W R _ hr
      obtain ⟨h1, h2⟩ := hr W (Steps.refl _ _) rfl
      exact ⟨_, h1, h2⟩
    | cons D Ds ih =>
      intro W R hm hr
      have hD := hm.at' D (by simp)
      have hnd := List.nodup_cons.1 hm.nd
      refine ⟨by simp, .inl ⟨_, _, rfl, run_takeDeferred hD.2, ?_⟩⟩
      have hst : Steps (fun k => k = D) W (W.putObj D (.deferred none)) := Steps.putObj (own := fun k => k = D) W rfl (.deferred none)
      refine ih _ _ ⟨hnd.2, fun E hE => ⟨(hm.at' E (by simp [hE])).1, hst.obj (fun e => hnd.1 (e ▸ hE)) (hm.at' E (by simp [hE])).2⟩⟩ (fun X hX hsz => ?_)
      exact hr X ((hst.mono (own' := fun k => k ∈ D::Ds) (fun k _ h => by simp [h])).trans hX (fun k _ h => by simp [h])) (by rw [hsz]; simp)
  intro W R hm hr
  exact key Ds W R hm hr

def fromAt (q7 : Nat) (W : World) : Nat := match W.cell? ⟨q7, 0, none⟩ with
  | some (.int _ i) => (10 - i).toNat
  | _ => 0
/-- What is so in the loop. -/
structure FewL (w : World) (r n bl q7 base : Nat) (T : List ITr) (F : Int) (Ds : List Nat) (fr : Int) (used : Nat) (done : List ITr) (v : Value) (W : World) : Prop where
  st : Steps (fun k => k = r ∨ k = bl ∨ k = q7 ∨ base ≤ k) w W
  kn : KnownT W r T n F (fun _ => True)
  mks : MarksAt base Ds W
  l : W.heap[bl]? = some (.cells #[v] 41)
  row : W.ownsRow base 32 3 v done.length (trsCells done)
  s : W.heap[q7]? = some (.cells #[.int .i64 fr, .int .u64 used] 94)
  f0 : 0 ≤ fr ∧ fr ≤ n
  u : used < 512
  m : (tellN T n F fr used).many ≠ 0
  w : done ++ fewW T n F 10 fr used = fewW T n F 10 0 0
  d : (done.length : Int) ≤ fr

theorem few_loop (z p B1 B2 B3 B4 r n bl q5 q6 q7 base : Nat) (fa : Option Addr) (fc : Nat) (ta : Option Addr) (tc : Nat) (T : List ITr) (F : Int) (w : World) {z0 z3 z8 z9 z10 z11 z12 z13 z14 z15 z16 z17 z18 z19 z20 z21 z22 z23 z40 z41 z42 z43 z44 z45 z46 z47 z48 z49 z50 z51 z52 z53 z54 z55 z56 z57 z58 z59 z60 z61 : Value} {z24 z25 z26 z27 z28 z29 z30 z31 z32 z33 z34 z35 z36 z37 z38 z39 : Value}
    (hat : TellAt w p B1 B2 B3 B4 r n F fa fc ta tc T) (hz14 : w.cell? ⟨z, 14, none⟩ = some (.slice fa n fc)) (h5 : w.cell? ⟨q5, 1, none⟩ = some (.int .i64 F)) (h6 : w.heap[q6]? = some (.cells #[onV B1 B2 B3 B4] 91))
    (hz : r < base ∧ bl < base ∧ q5 < base ∧ q6 < base ∧ q7 < base ∧ z < base ∧ base = w.heap.size ∧ r ≠ bl ∧ r ≠ q6 ∧ r ≠ q7 ∧ r ≠ q5 ∧ r ≠ z ∧ bl ≠ q7 ∧ bl ≠ q6 ∧ bl ≠ q5 ∧ bl ≠ z ∧ q7 ≠ q6 ∧ q7 ≠ q5 ∧ q7 ≠ z) (hne : ∀ k, (k = p ∨ k = B1 ∨ k = B2 ∨ k = B3 ∨ k = B4 ∨ (∃ a, ta = some a ∧ a.block = k)) → k < base ∧ k ≠ r ∧ k ≠ bl ∧ k ≠ q7)
    (hn : n ≤ 9) (hT : TOk T n) (hL : FewL w r n bl q7 base T F [] 0 0 [] (.slice none 0 0) w) (Q : Exit → Act → World → Prop)
    (hexit : ∀ (s24 s25 s26 s27 s28 s29 s30 s31 s32 s33 s34 s35 s36 s37 s38 s39 : Value) (Ds : List Nat) (v : Value) (W : World), Steps (fun k => k = r ∨ k = bl ∨ k = q7 ∨ base ≤ k) w W → MarksAt base Ds W → W.heap[bl]? = some (.cells #[v] 41) → W.ownsRow base 32 3 v (fewW T n F 10 0 0).length (trsCells (fewW T n F 10 0 0)) → Q (.exit 0) { (⟨(z0::(.pointer (some ⟨z, 0, none⟩))::(.pointer (some ⟨bl, 0, none⟩))::z3::(.pointer (some ⟨p, 0, none⟩))::(.pointer (some ⟨q5, 0, none⟩))::(.pointer (some ⟨q6, 0, none⟩))::(.pointer (some ⟨q7, 0, none⟩))::z8::z9::z10::z11::z12::z13::z14::z15::z16::z17::z18::z19::z20::z21::z22::z23::s24::s25::s26::s27::s28::s29::s30::s31::s32::s33::s34::s35::s36::s37::s38::s39::z40::z41::z42::z43::z44::z45::z46::z47::z48::z49::z50::z51::z52::z53::z54::z55::z56::z57::z58::z59::z60::z61 :: []).toArray, []⟩ : Act) with defers := Ds.map markOf } W) :
    Code.wpIn Fence.wide 0 Try.prog ((Try.f19.body.bind loopOf).getD .skip) Q ⟨(z0::(.pointer (some ⟨z, 0, none⟩))::(.pointer (some ⟨bl, 0, none⟩))::z3::(.pointer (some ⟨p, 0, none⟩))::(.pointer (some ⟨q5, 0, none⟩))::(.pointer (some ⟨q6, 0, none⟩))::(.pointer (some ⟨q7, 0, none⟩))::z8::z9::z10::z11::z12::z13::z14::z15::z16::z17::z18::z19::z20::z21::z22::z23::z24::z25::z26::z27::z28::z29::z30::z31::z32::z33::z34::z35::z36::z37::z38::z39::z40::z41::z42::z43::z44::z45::z46::z47::z48::z49::z50::z51::z52::z53::z54::z55::z56::z57::z58::z59::z60::z61 :: []).toArray, []⟩ w := by
  conv => arg 4; whnf
  refine wpIn_loop (fun a W => ∃ (s24 s25 s26 s27 s28 s29 s30 s31 s32 s33 s34 s35 s36 s37 s38 s39 : Value) (Ds : List Nat) (fr : Int) (used : Nat) (done : List ITr) (v : Value), a = { (⟨(z0::(.pointer (some ⟨z, 0, none⟩))::(.pointer (some ⟨bl, 0, none⟩))::z3::(.pointer (some ⟨p, 0, none⟩))::(.pointer (some ⟨q5, 0, none⟩))::(.pointer (some ⟨q6, 0, none⟩))::(.pointer (some ⟨q7, 0, none⟩))::z8::z9::z10::z11::z12::z13::z14::z15::z16::z17::z18::z19::z20::z21::z22::z23::s24::s25::s26::s27::s28::s29::s30::s31::s32::s33::s34::s35::s36::s37::s38::s39::z40::z41::z42::z43::z44::z45::z46::z47::z48::z49::z50::z51::z52::z53::z54::z55::z56::z57::z58::z59::z60::z61 :: []).toArray, []⟩ : Act) with defers := Ds.map markOf } ∧ FewL w r n bl q7 base T F Ds fr used done v W) (fun _ W => fromAt q7 W) ⟨_, _, _, _, _, _, _, _, _, _, _, _, _, _, _, _, [], 0, 0, [], _, rfl, hL⟩ ?_
  rintro a wr ⟨s24, s25, s26, s27, s28, s29, s30, s31, s32, s33, s34, s35, s36, s37, s38, s39, Ds, fr, used, done, v, rfl, hI⟩
  obtain ⟨y1, y2, y3, y4, y5, y6, y7, y8, y9, y10, y11, y12, y13, y14, y15, y16, y17, y18, y19⟩ := hz
  have HEX := Lib.hid hexit
  clear hexit hL
  obtain ⟨hst, hkn, hmk, hl, hrow, hs7, ⟨hf0, hfn⟩, hu, hm, hw, hd⟩ := hI
  have hnb : ∀ k, (k = p ∨ k = B1 ∨ k = B2 ∨ k = B3 ∨ k = B4 ∨ (∃ a, ta = some a ∧ a.block = k)) → ¬ (k = r ∨ k = bl ∨ k = q7 ∨ base ≤ k) := fun k hk h => by have := hne k hk; omega
  have hatr : TellAt wr p B1 B2 B3 B4 r n F fa fc ta tc T := hat.steps hst (hnb p (.inl rfl)) (hnb B1 (.inr (.inl rfl))) (hnb B2 (.inr (.inr (.inl rfl)))) (hnb B3 (.inr (.inr (.inr (.inl rfl))))) (hnb B4 (.inr (.inr (.inr (.inr (.inl rfl)))))) (fun k hk b o e => hnb b (.inr (.inr (.inr (.inr (.inr ⟨_, e, rfl⟩))))))
  have h14r := cell_apart hst (show ¬ (z = r ∨ z = bl ∨ z = q7 ∨ base ≤ z) by omega) hz14
  have h5r := cell_apart hst (show ¬ (q5 = r ∨ q5 = bl ∨ q5 = q7 ∨ base ≤ q5) by omega) h5
  have h6r := hst.obj (k := q6) (by omega) h6
  have hzr := hst.size
  have k14 : ∀ W', Steps (fun _ => False) wr W' → W'.cell? ⟨z, 14, none⟩ = some (.slice fa n fc) := fun W' h => cell_apart h (fun h => h) h14r
  have k5 : ∀ W', Steps (fun _ => False) wr W' → W'.cell? ⟨q5, 1, none⟩ = some (.int .i64 F) := fun W' h => cell_apart h (fun h => h) h5r
  have k7 : ∀ W', Steps (fun _ => False) wr W' → W'.cell? ⟨q7, 1, none⟩ = some (.int .u64 used) := fun W' h => cell_apart h (fun h => h) (cell_block hs7 1)
  have hbl := bitsIn_le 9 used
  obtain ⟨m, hmm⟩ : ∃ m : Nat, bitsIn 9 used = m := ⟨_, rfl⟩
  have hsize := isize_any used hu
  rw [hmm] at hbl hsize
  have HM := Lib.hid hmm
  have ews : IntKind.i64.wrap ((n : Int) - (m : Int)) = (n : Int) - (m : Int) := by rw [IntKind.wrap_i64]; omega
  have HN := Lib.hid hn
  have HW := Lib.hid hw
  have HMM := Lib.hid hm
  have HD := Lib.hid hd
  have HROW := Lib.hid hrow
  have hmks := hmk
  clear hmm hm hw hd hrow hmk
  gi_wp2
  refine wpIn_region_Wn (S := fun W' => Steps (fun _ => False) wr W') 10 (by kernel_rfl) (by kernel_rfl) (Steps.refl _ wr).drew (fun H0 => ?_)
  generalize wr.drew = w0 at H0 ⊢
  refine wTk 0 24 ?_ ?_ ?_
  rotate_left
  · intro o h w k; (try dsimp only at k); simp only [gA, gB, gC, gG] at h; subst h; go_simp; try with_reducible rfl
  simp only [Act.put, gD, gE, gF]
  refine wTk 1 25 ?_ ?_ ?_
  rotate_left
  · intro o h w k; (try dsimp only at k); simp only [gA, gB, gC, gG] at h; subst h; go_simp; try with_reducible rfl
  simp only [Act.put, gD, gE, gF]
  refine wTk 2 26 ?_ ?_ ?_
  rotate_left
  · intro o h w k; (try dsimp only at k); simp only [gA, gB, gC, gG] at h; subst h; go_simp; try with_reducible rfl
  simp only [Act.put, gD, gE, gF]
  refine wTk 3 27 ?_ ?_ ?_
  rotate_left
  · intro o h w k; (try dsimp only at k); simp only [gA, gB, gC, gG] at h; subst h; go_simp; try with_reducible rfl
  simp only [Act.put, gD, gE, gF]
  refine wTk 4 28 ?_ ?_ ?_
  rotate_left
  · intro o h w k; (try dsimp only at k); simp only [gA, gB, gC, gG] at h; subst h; go_simp; try with_reducible rfl
  simp only [Act.put, gD, gE, gF]
  refine wTk 7 31 ?_ ?_ ?_
  rotate_left
  · intro o h w k; (try dsimp only at k); simp only [gA, gB, gC, gG] at h; subst h; go_simp; try with_reducible rfl
  simp only [Act.put, gD, gE, gF]
  refine wTk 8 32 ?_ ?_ ?_
  rotate_left
  · intro o h w k; (try dsimp only at k); simp only [gA, gB, gC, gG] at h; subst h; go_simp; try with_reducible rfl
  simp only [Act.put, gD, gE, gF]
  clear k14 k5 k7
  refine wpAnyW_one 5 (by kernel_rfl) (by kernel_rfl) ?_
  intro o ho K hK
  simp only [gA, gB, gC, gG] at ho
  subst ho
  go_simp
  refine ⟨trivial, rfl, CallsIn.mono (callsIn_wide.2 (hsize w0)) ?_⟩
  rintro e w1 ⟨rfl, rfl⟩
  refine hK _ _ H0 (fun _ => ?_)
  clear hK K
  try simp only [Act.put, gD, gE, gF]
  refine wTk 6 30 ?_ ?_ ?_
  rotate_left
  · intro o h w k; (try dsimp only at k); simp only [gA, gB, gC, gG] at h; subst h; go_simp; try with_reducible rfl
  simp only [Act.put, gD, gE, gF]
  refine wTk 9 33 ?_ ?_ ?_
  rotate_left
  · intro o h w k; (try dsimp only at k); simp only [gA, gB, gC, gG] at h; subst h; go_simp; try with_reducible rfl
  simp only [Act.put, gD, gE, gF]
  refine wpAnyW_done (by kernel_rfl) ?_ _
  dsimp only [onNormal]
  have hst0 : Steps (fun k => k = r ∨ k = bl ∨ k = q7 ∨ base ≤ k) w w0 := hst.trans H0 (fun _ _ h => h.elim)
  have hat0 := hatr.later H0
  have h60 := H0.obj (fun h => h) h6r
  have h70 := H0.obj (fun h => h) hs7
  have hl0 := H0.obj (fun h => h) hl
  have hrow0 : w0.ownsRow base 32 3 v done.length (trsCells done) := ownsRow_same HROW.out (fun g hg => H0.block g (HROW.out.lt g hg).2 (fun h => h))
  have hkn0 := hkn.steps H0 (fun h => h)
  have hmk0 := hmks.steps H0 (fun _ _ h => h)
  have hz0 := H0.size
  by_cases hF : F < (n : Int) - (m : Int)
  · have hFb : ¬ (n : Int) - bitsIn 9 used ≤ F := by rw [HM.out]; omega
    obtain ⟨t, ht⟩ := goes_some (fun t ht => (hT.wf t ht).a) HMM.out hFb
    have htm := List.mem_of_find?_eq_some ht
    obtain ⟨htT, hta, _⟩ := next_mem htm
    have htw := hT.wf t htT
    have HFB := Lib.hid hFb
    clear hFb
    have c70 := cell_block h70 0
    have c71 := cell_block h70 1
    simp only [gA, gB, gC] at c70 c71
    gi_wp2_with (refine ⟨trivial, rfl, ?_⟩; gi_at_call 48; refine (callsIn_wide.2 (inext_made p fr used _)).mono ?_; rintro e W5 ⟨rfl, rfl⟩)
    obtain ⟨W5, hW5⟩ : ∃ W, (((w0.alloc (.cells #[.pointer (some ⟨p, 0, none⟩)] 77)).alloc (.cells #[.int .i64 fr] 3)).alloc (.cells #[.int .u64 used] 88)) = W := ⟨_, rfl⟩
    rw [hW5]
    try simp only [Nat.add_assoc, Nat.reduceAdd]
    have hst_W5 : Steps (fun _ => False) w0 W5 := by rw [← hW5]; exact ((Steps.alloc _ w0 _).trans (Steps.alloc (fun _ => False) _ _) (fun _ _ h => h)).trans (Steps.alloc (fun _ => False) _ _) (fun _ _ h => h)
    have hz_W5 : W5.heap.size = w0.heap.size + 3 := by rw [← hW5]; simp
    have g0_W5 : W5.heap[w0.heap.size]? = some (.cells #[.pointer (some ⟨p, 0, none⟩)] 77) := by rw [← hW5]; simp only [alloc_get, World.size_alloc]; repeat (first | exact if_pos trivial | exact if_pos (by omega) | rw [if_neg (by omega)])
    have g1_W5 : W5.heap[w0.heap.size + 1]? = some (.cells #[.int .i64 fr] 3) := by rw [← hW5]; simp only [alloc_get, World.size_alloc]; repeat (first | exact if_pos trivial | exact if_pos (by omega) | rw [if_neg (by omega)])
    have g2_W5 : W5.heap[w0.heap.size + 2]? = some (.cells #[.int .u64 used] 88) := by rw [← hW5]; simp only [alloc_get, World.size_alloc]; repeat (first | exact if_pos trivial | exact if_pos (by omega) | rw [if_neg (by omega)])
    clear hW5
    obtain ⟨b, hb⟩ : ∃ b, w0.heap.size = b := ⟨_, rfl⟩
    rw [hb] at g0_W5 g1_W5 g2_W5 hz_W5 hz0
    try rw [hb]
    have hat5 := hat0.later hst_W5
    have h65 := hst_W5.obj (fun h => h) h60
    have h75 := hst_W5.obj (fun h => h) h70
    have hl5 := hst_W5.obj (fun h => h) hl0
    have hrow5 : W5.ownsRow base 32 3 v done.length (trsCells done) := ownsRow_same hrow0 (fun g hg => hst_W5.block g (hrow0.lt g hg).2 (fun h => h))
    have hkn5 := hkn0.steps hst_W5 (fun h => h)
    have hmk5 := hmk0.steps hst_W5 (fun _ _ h => h)
    have hst5 : Steps (fun k => k = r ∨ k = bl ∨ k = q7 ∨ base ≤ k) w W5 := hst0.trans hst_W5 (fun _ _ h => h.elim)
    have hvb : ∀ g, v.ownBlock = some g → base ≤ g ∧ g < b := fun g hg => by have := hrow0.lt g hg; omega
    clear c70 c71 hat0 h60 h70 hl0 hkn0 hmk0
    refine wpIn_range_own (α := ITr) (gf := 76) (lb := #[.pointer (some ⟨b, 0, none⟩), .pointer (some ⟨b + 1, 0, none⟩), .pointer (some ⟨b + 2, 0, none⟩)]) (L := nextOf T fr used) (Enc := fun _ x vals _ => vals = #[trV x]) (Kp := KeepCells (NxB p b (b + 1) (b + 2) ta))
      rfl (enters_of Try.func76 (by kernel_rfl) rfl) ?seq KeepCells.trans ?kb ?ps
      (FewJ W5 r n T F used) (FewX W5 r n bl q7 base T F used done v) (FewJ.bides (by omega)) (fun c => FewX.bides (by omega) (by omega) (by omega))
      ⟨fun k h => h.elim, Steps.refl _ _, hkn5, by simp⟩ (fun _ _ _ _ _ _ h => h) ?round ?done ?stop
    case seq =>
      intro Wn hs hzn
      have hatn := hat5.later hs
      refine inext_seq p b (b + 1) (b + 2) fr used ta tc T Wn ⟨cell_apart hs (fun h => h) (cell_block g0_W5 0), cell_apart hs (fun h => h) (cell_block g1_W5 0), cell_apart hs (fun h => h) (cell_block g2_W5 0), hatn.t, hatn.tr⟩ (fun t ht i hi => ?_) hT.len (by omega)
      have hwf := hT.wf t ht
      have ha := hwf.a
      have hn9 := HN.out
      simp only [List.mem_cons, List.not_mem_nil, or_false] at hi
      rcases hi with rfl | rfl | rfl
      · omega
      · rcases hwf.b with h | h <;> omega
      · rcases hwf.c with h | h <;> omega
    case kb =>
      intro A C hA hs
      refine KeepCells.of_steps hs (fun k hk h => ?_)
      rcases hk with rfl | rfl | rfl | rfl | ⟨a, ha, rfl⟩
      · have := hne k (.inl rfl); omega
      · omega
      · omega
      · omega
      · have := hne a.block (.inr (.inr (.inr (.inr (.inr ⟨a, ha, rfl⟩))))); omega
    case ps => rintro own x vals W rfl; rfl
    case round =>
      exact few_round z p B1 B2 B3 B4 r n bl q6 q7 b (b + 1) (b + 2) base fa fc ta tc T F fr used done v W5 hat5 h65 h75 hl5 hrow5 (by have := HD.out; have := HN.out; omega) ⟨by omega, by omega, by omega, by omega, by omega, by omega, by omega, by omega, by omega, by omega, by omega⟩ (fun k hk => hne k (by rcases hk with h | h | h | h | h | ⟨_, h⟩; exact .inl h; exact .inr (.inl h); exact .inr (.inr (.inl h)); exact .inr (.inr (.inr (.inl h))); exact .inr (.inr (.inr (.inr (.inl h)))); exact .inr (.inr (.inr (.inr (.inr h))))))
        (fun k hk => ⟨by omega, by omega, fun e => by have := hvb k e; omega⟩) HN.out hT hf0 hu
    case done =>
      rintro D own W hD hoD ⟨_, _, _, hno⟩ hK
      exfalso
      have h1 := hno t htm
      have h2 := List.find?_some ht
      rw [h1] at h2
      cases h2
    case stop =>
      rintro D c own pre W hD hoD hpre ⟨rfl, hown, hsW, hkW, p', t', v', rfl, hp', ht', hownW, hlW, h7W, hvo⟩ hK
      have hDl := (Array.getElem?_eq_some_iff.1 hK).1
      have hlast : t' = t := by
        obtain ⟨post, e⟩ := hpre
        have h2 := ht
        rw [← e, List.append_assoc, List.find?_append, List.find?_eq_none.2 (fun x hx => by rw [hp' x hx]; simp)] at h2
        simp only [Option.none_or, List.cons_append, List.nil_append, List.find?_cons, ht'] at h2
        exact (Option.some.inj h2)
      subst hlast
      have hstW : Steps (fun k => k = r ∨ k = bl ∨ k = q7 ∨ base ≤ k) w W := hst5.trans hsW (fun k hk h => by
        rcases h with h | h | h | h | h
        · exact .inl h
        · exact .inr (.inr (.inl h))
        · exact .inr (.inl h)
        · exact .inr (.inr (.inr (hvb k h).1))
        · exact .inr (.inr (.inr (by omega))))
      have hmkW : MarksAt base (D::Ds) W := by
        refine ⟨List.nodup_cons.2 ⟨fun h => ?_, hmk5.nd⟩, fun E hE => ?_⟩
        · have h1 := hmks.lt D h
          have := H0.size
          omega
        · rcases List.mem_cons.1 hE with rfl | hE
          · exact ⟨by omega, hK⟩
          · have hEb := hmk5.at' E hE
            have hEl := hmks.lt E hE
            have := H0.size
            refine ⟨hEb.1, hsW.obj (fun h => ?_) hEb.2⟩
            rcases h with h | h | h | h | h
            · omega
            · omega
            · omega
            · rcases hrow5.2 with ⟨hv, _⟩ | ⟨g, cap, cur, hv, _, hg, _⟩
              · rw [hv] at h; cases h
              · rw [hv] at h
                simp only [Value.ownBlock] at h
                cases h
                rw [hEb.2] at hg
                cases hg
            · omega
      have htl : t'.a < 9 := by have := htw.a; have := HN.out; omega
      have hFI : FewL w r n bl q7 base T F (D::Ds) (t'.a + 1) (used ||| t'.own) (done ++ [t']) v' W := by
        have hf := few_step (r := 9) (F := F) (n := n) (used := used) (by have := HFB.out; omega) ht
        refine ⟨hstW, hkW, hmkW, hlW, hownW, h7W, ⟨by omega, by have := htw.a; omega⟩, Nat.or_lt_two_pow (n := 9) hu (htw.own_lt HN.out), ?_, ?_, ?_⟩
        · unfold goesOn at ht'
          simpa using ht'
        · rw [← HW.out, hf, List.append_assoc]
          rw [few_fuel (fun t ht => (hT.wf t ht).a.2) 10 9 (t'.a + 1) _ (by omega) (by omega)]
          rfl
        · rw [List.length_append]
          have := HD.out
          simp
          omega
      have hmu : fromAt q7 W < fromAt q7 wr := by
        unfold fromAt
        rw [cell_block h7W 0, cell_block hs7 0]
        simp only [List.getElem?_toArray, List.getElem?_cons_zero]
        omega
      gi_wp2
      exact ⟨⟨_, _, _, _, _, _, _, _, _, _, _, _, _, _, _, _, D::Ds, t'.a + 1, used ||| t'.own, done ++ [t'], v', rfl, hFI⟩, hmu⟩
  · have hdone : done = fewW T n F 10 0 0 := by
      rw [← HW.out, few_end (by rw [HM.out]; omega), List.append_nil]
    gi_wp2
    rw [hdone] at hrow0
    exact HEX.out _ _ _ _ _ _ _ _ _ _ _ _ _ _ _ _ Ds v w0 hst0 hmk0 hl0 hrow0
end Go.Proofs.Ytacioedolmaofaa
namespace Go.Proofs.Ytacioedolmaofaa
open Go.RowKit Go.Shelf
attribute [local go_sem] Oper.semAt_some
set_option maxHeartbeats 6400000
set_option maxRecDepth 100000
set_option linter.unusedSimpArgs false
set_option linter.unusedVariables false

def itFewest (s : ISheet) : List ITr × Int := if wayErr s true = 0 then (fewW s.trails s.l.length (wayTold s).flaws 10 0 0, 0) else ([], wayErr s true)
def FewRet (s : ISheet) (w : World) (e : Ending) (w' : World) : Prop := ∃ a c, e = .returned (.tuple #[.slice a (itFewest s).1.length c, .int .i64 (itFewest s).2]) ∧ TrSl w' a (itFewest s).1 ∧ Below w.heap.size w w' ∧ (itFewest s).1.length ≤ c

theorem iFewest_any (s : ISheet) (fa : Option Addr) (fc : Nat) (w : World) (hl : ImSl w fa s.l) (hlen : s.l.length < 9223372036854775807) :
    Calls Try.prog 19 #[.agg #[.int .i64 s.ax.lo, .int .i64 s.ax.hi, .int .i64 s.ay.lo, .int .i64 s.ay.hi, .int .i64 s.bx.lo, .int .i64 s.bx.hi, .int .i64 s.by'.lo, .int .i64 s.by'.hi, .int .i64 s.f.lo, .int .i64 s.f.hi, .int .i64 s.g.lo, .int .i64 s.g.hi, .int .i64 s.limit, .int .i64 s.flaws, .slice fa s.l.length fc]] w (FewRet s w) := by
  have HPO : Hid (∀ (l : List ITr) (er : Int), itFewest s = (l, er) → ∀ (e : Ending) (w' : World) (a : Option Addr) (c : Nat), e = .returned (.tuple #[.slice a l.length c, .int .i64 er]) → TrSl w' a l → Below w.heap.size w w' → l.length ≤ c → FewRet s w e w') := Lib.hid (fun l er h e w' a c h1 h2 h3 h4 => ⟨a, c, by rw [h]; exact h1, by rw [h]; exact h2, h3, by rw [h]; exact h4⟩)
  refine (callsIn_wide (n := 0)).1 ?_
  refine callsIn_of_wp_marks Try.func19 rfl trivial ?_ rfl
  simp only [Try.ntmps19, List.size_toArray, List.length_cons, List.length_nil, Nat.reduceAdd, Nat.reduceSub, Array.replicate_succ, Array.replicate_zero, List.push_toArray, List.append_toArray, List.nil_append, List.cons_append]
  gi_wp2_with fail
  obtain ⟨W0, hW0⟩ : ∃ W, ((w.alloc (.cells #[.int .i64 s.ax.lo, .int .i64 s.ax.hi, .int .i64 s.ay.lo, .int .i64 s.ay.hi, .int .i64 s.bx.lo, .int .i64 s.bx.hi, .int .i64 s.by'.lo, .int .i64 s.by'.hi, .int .i64 s.f.lo, .int .i64 s.f.hi, .int .i64 s.g.lo, .int .i64 s.g.hi, .int .i64 s.limit, .int .i64 s.flaws, .slice fa s.l.length fc] 30)).alloc (.cells #[.slice none 0 0] 41)) = W := ⟨_, rfl⟩
  rw [hW0]
  try simp only [Nat.add_assoc, Nat.reduceAdd]
  have hst_W0 : Steps (fun _ => False) w W0 := by rw [← hW0]; exact (Steps.alloc _ w _).trans (Steps.alloc (fun _ => False) _ _) (fun _ _ h => h)
  have hz_W0 : W0.heap.size = w.heap.size + 2 := by rw [← hW0]; simp
  have g0_W0 : W0.heap[w.heap.size]? = some (.cells #[.int .i64 s.ax.lo, .int .i64 s.ax.hi, .int .i64 s.ay.lo, .int .i64 s.ay.hi, .int .i64 s.bx.lo, .int .i64 s.bx.hi, .int .i64 s.by'.lo, .int .i64 s.by'.hi, .int .i64 s.f.lo, .int .i64 s.f.hi, .int .i64 s.g.lo, .int .i64 s.g.hi, .int .i64 s.limit, .int .i64 s.flaws, .slice fa s.l.length fc] 30) := by rw [← hW0]; simp only [alloc_get, World.size_alloc]; repeat (first | exact if_pos trivial | exact if_pos (by omega) | rw [if_neg (by omega)])
  have g1_W0 : W0.heap[w.heap.size + 1]? = some (.cells #[.slice none 0 0] 41) := by rw [← hW0]; simp only [alloc_get, World.size_alloc]; repeat (first | exact if_pos trivial | exact if_pos (by omega) | rw [if_neg (by omega)])
  clear hW0
  have hb0 : Below w.heap.size w W0 := hst_W0.below (Nat.le_refl _) (fun _ _ h => h)
  have hl0 := hl.below hb0 (Nat.le_refl _)
  refine ⟨trivial, rfl, (callsIn_wide.2 (iways_any s fa fc true W0 hl0 hlen)).mono ?_⟩
  rintro e w1 ⟨hb1, h1⟩
  have hB1 := hb0.trans (hb1.mono hb0.size)
  have hx1 := obj_later hb1 g0_W0
  have hy1 := obj_later hb1 g1_W0
  have hz1 := hb1.size
  obtain ⟨z, hz⟩ : ∃ z, w.heap.size = z := ⟨_, rfl⟩
  rw [hz] at hx1 hy1 hz_W0
  try rw [hz]
  have HZ := Lib.hid hz
  have s0 := cell_block hy1 0
  have f0 := frozen_block hy1 0
  simp only [List.getElem?_toArray, List.getElem?_cons_zero] at s0
  have hy1l := (Array.getElem?_eq_some_iff.1 hy1).1
  obtain ⟨er, her⟩ : ∃ er, wayErr s true = er := ⟨_, rfl⟩
  rw [her] at h1
  have HER := Lib.hid her
  clear her hz hst_W0 g0_W0 g1_W0 hb0 hb1 hl0
  by_cases h0 : er = 0
  · subst h0
    rw [if_pos rfl] at h1
    obtain ⟨hok, p, ta, tc, rfl, hp, hS⟩ := h1
    have hn9 : s.l.length ≤ 9 := ((iok_iff s).1 hok).2.2.2.2.2.2.2.2.2
    have hIT : itFewest s = (fewW s.trails s.l.length (wayTold s).flaws 10 0 0, 0) := by unfold itFewest; rw [HER.out, if_pos rfl]
    have hwm : (wayTold s).many ≠ 0 := by
      intro h
      have := HER.out
      unfold wayErr at this
      rw [if_pos hok, if_pos rfl, if_pos h] at this
      cases this
    have hfm := (few_many s.flaws (fun t ht => (trails_wf t ht).a.2) (trails_own hn9) hwm).1
    have hT := trailsOk s hn9
    obtain ⟨t, ht⟩ : ∃ t, wayTold s = t := ⟨_, rfl⟩
    have hfm' : (tellN s.trails s.l.length t.flaws 0 0).many ≠ 0 := by rw [← ht]; exact hfm
    rw [ht] at hIT
    rw [ht]
    have HIT := Lib.hid hIT
    have HFM := Lib.hid hfm'
    clear hwm hfm hfm' hIT ht
    unfold tdV
    have hq5 := obj_new w1 (.cells #[.int .i64 t.many, .int .i64 t.flaws, .int .i64 t.lo, .int .i64 t.hi, .int .u64 t.some, .int .u64 t.all] 90)
    have hb5 := below_alloc w1 (.cells #[.int .i64 t.many, .int .i64 t.flaws, .int .i64 t.lo, .int .i64 t.hi, .int .u64 t.some, .int .u64 t.all] 90)
    have hx14 := cell_block hx1 14
    simp only [gA, gB, gC] at hx14
    gi_wp2_with fail
    generalize w1.alloc (.cells #[.int .i64 t.many, .int .i64 t.flaws, .int .i64 t.lo, .int .i64 t.hi, .int .u64 t.some, .int .u64 t.all] 90) = w1a at hq5 hb5 ⊢
    obtain ⟨q5, hq5e⟩ : ∃ q, w1.heap.size = q := ⟨_, rfl⟩
    have hSa := hS.later hb5
    have hya := obj_later hb5 hy1
    have hxa := cell_later hb5 hx14
    have hBa := hB1.trans (hb5.mono (by have := hB1.size; omega))
    have hz5 := (Array.getElem?_eq_some_iff.1 hq5).1
    rw [hq5e] at hq5 hz5 hz1 hy1l
    try rw [hq5e]
    have hti := itell_any p s.l.length t.flaws fa fc ta tc s.trails w1a hSa.c14 hSa.c15 hSa.tr hSa.tb
    clear hS hq5e s0 f0 hx1 hy1
    refine ⟨trivial, rfl, (callsIn_wide.2 hti).mono ?_⟩
    rintro e w2 ⟨B1, B2, B3, B4, r, rfl, hat, hkn, hr, hb2⟩
    have hy2 := obj_later hb2 hya
    have hx2 := cell_later hb2 hxa
    have hq52 := obj_later hb2 hq5
    have hB2 := hBa.trans (hb2.mono hBa.size)
    have hz2 := hb2.size
    unfold onV
    gi_wp2_with fail
    obtain ⟨W1, hW1⟩ : ∃ W, ((w2.alloc (.cells #[.func (.func 73) #[] #[.pointer (some ⟨B1, 0, none⟩), .pointer (some ⟨B2, 0, none⟩), .pointer (some ⟨B3, 0, none⟩), .pointer (some ⟨B4, 0, none⟩)]] 91)).alloc (.cells #[.int .i64 0, .int .u64 0] 94)) = W := ⟨_, rfl⟩
    rw [hW1]
    try simp only [Nat.add_assoc, Nat.reduceAdd]
    have hst_W1 : Steps (fun _ => False) w2 W1 := by rw [← hW1]; exact (Steps.alloc _ w2 _).trans (Steps.alloc (fun _ => False) _ _) (fun _ _ h => h)
    have hz_W1 : W1.heap.size = w2.heap.size + 2 := by rw [← hW1]; simp
    have g0_W1 : W1.heap[w2.heap.size]? = some (.cells #[.func (.func 73) #[] #[.pointer (some ⟨B1, 0, none⟩), .pointer (some ⟨B2, 0, none⟩), .pointer (some ⟨B3, 0, none⟩), .pointer (some ⟨B4, 0, none⟩)]] 91) := by rw [← hW1]; simp only [alloc_get, World.size_alloc]; repeat (first | exact if_pos trivial | exact if_pos (by omega) | rw [if_neg (by omega)])
    have g1_W1 : W1.heap[w2.heap.size + 1]? = some (.cells #[.int .i64 0, .int .u64 0] 94) := by rw [← hW1]; simp only [alloc_get, World.size_alloc]; repeat (first | exact if_pos trivial | exact if_pos (by omega) | rw [if_neg (by omega)])
    clear hW1
    obtain ⟨b, hb⟩ : ∃ b, W1.heap.size = b := ⟨_, rfl⟩
    obtain ⟨c, hc⟩ : ∃ c, w2.heap.size = c := ⟨_, rfl⟩
    rw [hc] at g0_W1 g1_W1 hz_W1 hz2
    try rw [hc]
    have hatW := hat.later hst_W1
    have hknW := hkn.steps hst_W1 (fun h => h)
    have hyW := hst_W1.obj (fun h => h) hy2
    have hxW := cell_apart hst_W1 (fun h => h) hx2
    have hqW := hst_W1.obj (fun h => h) hq52
    have hBW : Below z w W1 := by rw [← HZ.out]; exact hB2.trans (hst_W1.below (by rw [hc]; have := hB2.size; omega) (fun k hk h => h))
    have hrl := hkn.lt
    have hkb : ∀ k, (k = p ∨ k = B1 ∨ k = B2 ∨ k = B3 ∨ k = B4 ∨ (∃ a, ta = some a ∧ a.block = k)) → k < c ∧ k ≠ r ∧ k ≠ z + 1 := by
      intro k hk
      have hcl := cell_block hy2 0
      simp only [List.getElem?_toArray, List.getElem?_cons_zero] at hcl
      rcases hk with h | h | h | h | h | ⟨a, ha, h⟩
      · subst h; exact ⟨by rw [← hc]; exact World.block_lt_of_cell? w2 _ hat.t, hkn.ne hat.t, by omega⟩
      · subst h; exact ⟨by rw [← hc]; exact World.block_lt_of_cell? w2 _ hat.k, hkn.ne hat.k, fun e => by have h := hat.k; rw [e, hcl] at h; cases h⟩
      · subst h; exact ⟨by rw [← hc]; exact World.block_lt_of_cell? w2 _ hat.s, hkn.ne hat.s, fun e => by have h := hat.s; rw [e, hcl] at h; cases h⟩
      · subst h; exact ⟨by rw [← hc]; exact World.block_lt_of_cell? w2 _ hat.f, hkn.ne hat.f, fun e => by have h := hat.f; rw [e, hcl] at h; cases h⟩
      · subst h; exact ⟨by rw [← hc]; exact World.block_lt_of_cell? w2 _ hat.o, hkn.ne hat.o, fun e => by have h := hat.o; rw [e, hcl] at h; cases h⟩
      · subst h
        have h1 := hSa.tp a ha
        have h2 := hSa.tb a ha
        exact ⟨by omega, by omega, by omega⟩
    have hFL : FewL W1 r s.l.length (z + 1) (c + 1) b s.trails t.flaws [] 0 0 [] (.slice none 0 0) W1 :=
      ⟨Steps.refl _ _, hknW.mono (fun _ h => h.elim), MarksAt.nil _ _, hyW, World.ownsRow_nil _ _ _ _, g1_W1, ⟨Int.le_refl _, by omega⟩, by decide, HFM.out, rfl, by simp⟩
    refine few_loop z p B1 B2 B3 B4 r s.l.length (z + 1) q5 c (c + 1) b fa fc ta tc s.trails t.flaws W1 hatW hxW (cell_block hqW 1) g0_W1
      ⟨by omega, by omega, by omega, by omega, by omega, by omega, hb.symm, by omega, by omega, by omega, by omega, by omega, by omega, by omega, by omega, by omega, by omega, by omega, by omega⟩ (fun k hk => by have := hkb k hk; omega) hn9 hT hFL _ ?_
    intro s24 s25 s26 s27 s28 s29 s30 s31 s32 s33 s34 s35 s36 s37 s38 s39 Ds v W hsW hmW hlW hrowW
    obtain ⟨va, vc, rfl⟩ := ownsRow_form hrowW
    have m0 := cell_block hlW 0
    have mf := frozen_block hlW 0
    simp only [List.getElem?_toArray, List.getElem?_cons_zero] at m0
    gi_wp2
    have hset := Steps.setCell (own := fun k => k = z + 1) W (p := ⟨z + 1, 0, none⟩) rfl (.slice va (fewW s.trails s.l.length t.flaws 10 0 0).length vc)
    have zz := block_set hlW 0 (.slice va (fewW s.trails s.l.length t.flaws 10 0 0).length vc)
    simp only [List.setIfInBounds_toArray, List.set_cons_zero] at zz
    have hrowF := ownsRow_set (p := z + 1) (o := 0) (u := .slice va (fewW s.trails s.l.length t.flaws 10 0 0).length vc) hrowW (by omega)
    generalize W.setCell ⟨z + 1, 0, none⟩ (.slice va (fewW s.trails s.l.length t.flaws 10 0 0).length vc) = WF at hset zz hrowF ⊢
    have hmF : MarksAt b Ds WF := hmW.steps hset (fun D hD h => by have := (hmW.at' D hD).1; omega)
    refine marks_all (v := .tuple #[.slice va (fewW s.trails s.l.length t.flaws 10 0 0).length vc, .int .i64 0]) Ds WF _ hmF (fun X hX hsz => ?_)
    have zX := hX.obj (k := z + 1) (fun h => by have := (hmF.at' _ h).1; omega) zz
    have m0 := cell_block zX 0
    simp only [List.getElem?_toArray, List.getElem?_cons_zero] at m0
    have hrowX := ownsRow_same (w' := X) hrowF (fun g hg => hX.block g (hrowF.lt g hg).2 (fun h => by
      have hD := (hmF.at' g h).2
      rcases hrowF.2 with ⟨hv, _⟩ | ⟨g', cap, cur, hv, _, hg', _⟩
      · rw [hv] at hg; cases hg
      · rw [hv] at hg
        simp only [Value.ownBlock] at hg
        cases hg
        rw [hD] at hg'
        cases hg'))
    have hBX : Below w.heap.size w X := by
      rw [HZ.out]
      exact hBW.trans ((hsW.below (by omega) (fun k hk h => by omega)).trans ((hset.below (by have := hsW.size; omega) (fun k hk h => by omega)).trans (hX.below (by have := hsW.size; have := hset.size; omega) (fun k hk h => by have := (hmF.at' k h).1; omega))))
    refine ⟨by simp [results, Try.results19, go_sem, m0], HPO.out _ _ HIT.out _ _ va vc rfl (TrSl.owned hrowX) hBX (by
      rcases hrowX.2 with ⟨e, hn⟩ | ⟨_, _, _, e, _, _, hnc, _⟩
      · rw [hn]; exact Nat.zero_le _
      · cases e; exact hnc)⟩
  · rw [if_neg h0] at h1
    have hIT : itFewest s = ([], er) := by unfold itFewest; rw [HER.out, if_neg h0]
    subst h1
    gi_wp2_with fail
    have zz := block_set hy1 0 (.slice none 0 0)
    have hBs := (Below.refl (z + 1) w1).setCell (p := ⟨z + 1, 0, none⟩) (Nat.le_refl _) (.slice none 0 0)
    simp only [List.setIfInBounds_toArray, List.set_cons_zero] at zz
    generalize w1.setCell ⟨z + 1, 0, none⟩ (.slice none 0 0) = WF at zz hBs ⊢
    have m0 := fun o => cell_block (obj_later (below_alloc WF o) zz) 0
    have hBF : Below w.heap.size w WF := hB1.trans (hBs.mono (by have := HZ.out; omega))
    exact imarks_none (v := .tuple #[.slice none 0 0, .int .i64 er]) ⟨by simp [results, Try.results19, go_sem, m0], HPO.out _ _ hIT _ _ none 0 rfl (TrSl.nil _ _) (hBF.alloc hBF.size _) (Nat.le_refl _)⟩
end Go.Proofs.Ytacioedolmaofaa
namespace Go.Proofs.Ytacioedolmaofaa
open Go.RowKit Go.Shelf
set_option maxHeartbeats 6400000
set_option maxRecDepth 100000
set_option linter.unusedSimpArgs false
set_option linter.unusedVariables false

theorem ismp_fits : itFits ismp ⟨0, 1, 2⟩ = (true, 0) := by decide +kernel
theorem ismp_count : itCount ismp = (2, 0) := by decide +kernel
theorem ismp_needs : itNeeds ismp = (1, 0) := by decide +kernel
theorem ismp_few : itFewest ismp = ([⟨0, 1, 2⟩, ⟨3, 4, -1⟩], 0) := by decide +kernel
theorem ismp_tell : itTell ismp = (23, 32, 0) := by decide +kernel
theorem ismp_stars : itStars ismp = (2, 2, 0) := by decide +kernel
theorem ismp_where : itWhere ismp 3 = (some ⟨⟨300, 301⟩, ⟨50, 51⟩, ⟨13, 14⟩⟩, 0) := by decide +kernel

theorem iawake_any (w : World) : Calls Try.prog 12 #[] w fun e w' => e = .returned (.bool true) ∧ Below w.heap.size w w' := by
  have n0 : ∀ w, (binOp .eql 23 (.agg #[.int .i64 2, .int .i64 2]) (.agg #[.int .i64 2, .int .i64 2])).run Try.prog w = .ok (.bool true) w := fun w => by kernel_rfl
  have n1 : ∀ w, (binOp .eql 23 (.agg #[.int .i64 300, .int .i64 301]) (.agg #[.int .i64 300, .int .i64 301])).run Try.prog w = .ok (.bool true) w := fun w => by kernel_rfl
  have n2 : ∀ w, (binOp .eql 23 (.agg #[.int .i64 50, .int .i64 51]) (.agg #[.int .i64 50, .int .i64 51])).run Try.prog w = .ok (.bool true) w := fun w => by kernel_rfl
  have n3 : ∀ w, (binOp .eql 23 (.agg #[.int .i64 13, .int .i64 14]) (.agg #[.int .i64 13, .int .i64 14])).run Try.prog w = .ok (.bool true) w := fun w => by kernel_rfl
  go_enter Try.func12, Try.ntmps12
  go_wp2_with fail
  refine (ilsample_any _).mono ?_
  rintro e w1 ⟨q, rfl, him, hb⟩
  have hb0 := hb
  clear hb
  go_wp2_with fail
  have hc := iFits_any ismp (some ⟨q, 0, none⟩) 6 ⟨0, 1, 2⟩ w1 him (by decide)
  refine hc.mono ?_
  clear hc
  rintro e w2 ⟨he, hb⟩
  rw [ismp_fits] at he
  subst he
  replace hb0 := hb0.trans (hb.mono hb0.size)
  clear hb him
  go_wp2_with fail
  refine (ilsample_any _).mono ?_
  rintro e w3 ⟨q, rfl, him, hb⟩
  replace hb0 := hb0.trans (hb.mono hb0.size)
  clear hb
  go_wp2_with fail
  have hc := iCount_any ismp (some ⟨q, 0, none⟩) 6 w3 him (by decide)
  refine hc.mono ?_
  clear hc
  rintro e w4 ⟨he, hb⟩
  rw [ismp_count] at he
  subst he
  replace hb0 := hb0.trans (hb.mono hb0.size)
  clear hb him
  go_wp2_with fail
  refine (ilsample_any _).mono ?_
  rintro e w5 ⟨q, rfl, him, hb⟩
  replace hb0 := hb0.trans (hb.mono hb0.size)
  clear hb
  go_wp2_with fail
  have hc := iNeeds_any ismp (some ⟨q, 0, none⟩) 6 w5 him (by decide)
  refine hc.mono ?_
  clear hc
  rintro e w6 ⟨he, hb⟩
  rw [ismp_needs] at he
  subst he
  replace hb0 := hb0.trans (hb.mono hb0.size)
  clear hb him
  go_wp2_with fail
  refine (ilsample_any _).mono ?_
  rintro e w7 ⟨q, rfl, him, hb⟩
  replace hb0 := hb0.trans (hb.mono hb0.size)
  clear hb
  go_wp2_with fail
  have hc := iFewest_any ismp (some ⟨q, 0, none⟩) 6 w7 him (by decide)
  refine hc.mono ?_
  clear hc
  rintro e w8 ⟨a, c, he, htr, hb, _⟩
  replace hb0 := hb0.trans (hb.mono hb0.size)
  clear hb him
  rw [ismp_few] at he htr
  subst he
  go_wp2_with fail
  refine (ilsample_any _).mono ?_
  rintro e w9 ⟨q, rfl, him, hb⟩
  replace htr := htr.below hb (Nat.le_refl _)
  replace hb0 := hb0.trans (hb.mono hb0.size)
  clear hb
  go_wp2_with fail
  have hc := iTell_any ismp (some ⟨q, 0, none⟩) 6 w9 him (by decide)
  refine hc.mono ?_
  clear hc
  rintro e w10 ⟨he, hb⟩
  rw [ismp_tell] at he
  subst he
  replace htr := htr.below hb (Nat.le_refl _)
  replace hb0 := hb0.trans (hb.mono hb0.size)
  clear hb him
  go_wp2_with fail
  refine (ilsample_any _).mono ?_
  rintro e w11 ⟨q, rfl, him, hb⟩
  replace htr := htr.below hb (Nat.le_refl _)
  replace hb0 := hb0.trans (hb.mono hb0.size)
  clear hb
  go_wp2_with fail
  have hc := iStars_any ismp (some ⟨q, 0, none⟩) 6 w11 him (by decide)
  refine hc.mono ?_
  clear hc
  rintro e w12 ⟨he, hb⟩
  rw [ismp_stars] at he
  subst he
  replace htr := htr.below hb (Nat.le_refl _)
  replace hb0 := hb0.trans (hb.mono hb0.size)
  clear hb him
  go_wp2_with fail
  obtain ⟨W0, hW0⟩ : ∃ W, (w12.alloc (.cells #[.int .i64 2, .int .i64 2] 23)) = W := ⟨_, rfl⟩
  rw [hW0]
  try simp only [Nat.add_assoc, Nat.reduceAdd]
  have hst_W0 : Steps (fun _ => False) w12 W0 := by rw [← hW0]; exact Steps.alloc _ w12 _
  have hz_W0 : W0.heap.size = w12.heap.size + 1 := by rw [← hW0]; simp
  have g0_W0 : W0.heap[w12.heap.size]? = some (.cells #[.int .i64 2, .int .i64 2] 23) := by rw [← hW0]; simp only [alloc_get, World.size_alloc]; repeat (first | exact if_pos trivial | exact if_pos (by omega) | rw [if_neg (by omega)])
  clear hW0
  have hbW := hst_W0.below (Nat.le_refl _) (fun _ _ h => h)
  have s0 := g0_W0
  replace htr := htr.below hbW (Nat.le_refl _)
  replace hb0 := hb0.trans (hbW.mono hb0.size)
  clear g0_W0 hst_W0 hz_W0 hbW
  obtain ⟨b0, hb00⟩ : ∃ x, w12.heap.size = x := ⟨_, rfl⟩
  rw [hb00] at s0 ⊢
  clear hb00
  refine (ilsample_any _).mono ?_
  rintro e w13 ⟨q, rfl, him, hb⟩
  replace htr := htr.below hb (Nat.le_refl _)
  replace s0 := obj_later hb s0
  replace hb0 := hb0.trans (hb.mono hb0.size)
  clear hb
  go_wp2_with fail
  have hc := iWhere_any ismp (some ⟨q, 0, none⟩) 6 3 w13 him (by decide) (by decide)
  refine hc.mono ?_
  clear hc
  rintro e w14 ⟨he, hb⟩
  rw [ismp_where] at he
  unfold whereV at he
  simp only at he
  subst he
  replace htr := htr.below hb (Nat.le_refl _)
  replace s0 := obj_later hb s0
  replace hb0 := hb0.trans (hb.mono hb0.size)
  clear hb him
  go_upto_region 8 with fail
  obtain ⟨W1, hW1⟩ : ∃ W, (((w14.alloc (.cells #[.int .i64 300, .int .i64 301] 23)).alloc (.cells #[.int .i64 50, .int .i64 51] 23)).alloc (.cells #[.int .i64 13, .int .i64 14] 23)) = W := ⟨_, rfl⟩
  rw [hW1]
  try simp only [Nat.add_assoc, Nat.reduceAdd]
  have hst_W1 : Steps (fun _ => False) w14 W1 := by rw [← hW1]; exact ((Steps.alloc _ w14 _).trans (Steps.alloc (fun _ => False) _ _) (fun _ _ h => h)).trans (Steps.alloc (fun _ => False) _ _) (fun _ _ h => h)
  have hz_W1 : W1.heap.size = w14.heap.size + 3 := by rw [← hW1]; simp
  have g0_W1 : W1.heap[w14.heap.size]? = some (.cells #[.int .i64 300, .int .i64 301] 23) := by rw [← hW1]; simp only [alloc_get, World.size_alloc]; repeat (first | exact if_pos trivial | exact if_pos (by omega) | rw [if_neg (by omega)])
  have g1_W1 : W1.heap[w14.heap.size + 1]? = some (.cells #[.int .i64 50, .int .i64 51] 23) := by rw [← hW1]; simp only [alloc_get, World.size_alloc]; repeat (first | exact if_pos trivial | exact if_pos (by omega) | rw [if_neg (by omega)])
  have g2_W1 : W1.heap[w14.heap.size + 2]? = some (.cells #[.int .i64 13, .int .i64 14] 23) := by rw [← hW1]; simp only [alloc_get, World.size_alloc]; repeat (first | exact if_pos trivial | exact if_pos (by omega) | rw [if_neg (by omega)])
  clear hW1
  have hbW := hst_W1.below (Nat.le_refl _) (fun _ _ h => h)
  replace s0 := obj_later hbW s0
  have s1 := g0_W1
  have s2 := g1_W1
  have s3 := g2_W1
  replace htr := htr.below hbW (Nat.le_refl _)
  replace hb0 := hb0.trans (hbW.mono hb0.size)
  clear g0_W1 g1_W1 g2_W1 hst_W1 hz_W1 hbW
  obtain ⟨b1, hb11⟩ : ∃ x, w14.heap.size = x := ⟨_, rfl⟩
  rw [hb11] at s1 s2 s3 ⊢
  clear hb11
  go_wp2_with fail
  have hbl := below_alloc W1 (.cells #[.int .i64 0, .int .i64 1, .int .i64 2, .int .i64 3, .int .i64 4, .int .i64 (-1)] 32)
  have hsl : TrSl (W1.alloc (.cells #[.int .i64 0, .int .i64 1, .int .i64 2, .int .i64 3, .int .i64 4, .int .i64 (-1)] 32)) (some ⟨W1.heap.size, 0, none⟩) [⟨0, 1, 2⟩, ⟨3, 4, -1⟩] := fun k hk => by
    have ho := obj_new W1 (.cells #[.int .i64 0, .int .i64 1, .int .i64 2, .int .i64 3, .int .i64 4, .int .i64 (-1)] 32)
    have hlt := (Array.getElem?_eq_some_iff.1 ho).1
    match k, hk with
    | 0, _ => exact ⟨_, _, rfl, hlt, cell_block ho 0, cell_block ho 1, cell_block ho 2⟩
    | 1, _ => exact ⟨_, _, rfl, hlt, cell_block ho 3, cell_block ho 4, cell_block ho 5⟩
  have hc := irTrails_any a (some ⟨W1.heap.size, 0, none⟩) c 2 [⟨0, 1, 2⟩, ⟨3, 4, -1⟩] [⟨0, 1, 2⟩, ⟨3, 4, -1⟩] _ (htr.below hbl (Nat.le_refl _)) hsl (by decide) (by decide)
  replace s0 := obj_later hbl s0
  replace s1 := obj_later hbl s1
  replace s2 := obj_later hbl s2
  replace s3 := obj_later hbl s3
  replace hb0 := hb0.trans (hbl.mono hb0.size)
  clear htr hsl hbl
  refine hc.mono ?_
  clear hc
  rintro e w20 ⟨he, hb⟩
  have ht : (decide (([⟨0, 1, 2⟩, ⟨3, 4, -1⟩] : List ITr) = [⟨0, 1, 2⟩, ⟨3, 4, -1⟩])) = true := by decide
  rw [ht] at he
  subst he
  replace s0 := obj_later hb s0
  replace s1 := obj_later hb s1
  replace s2 := obj_later hb s2
  replace s3 := obj_later hb s3
  replace hb0 := hb0.trans (hb.mono hb0.size)
  clear hb
  go_upto_region 10 with fail
  have d00 := cell_block s0 0
  have d01 := cell_block s0 1
  simp only [gA, gB, gC] at d00 d01
  have k00 := iheld d00 (Nat.le_refl _)
  have k01 := iheld d01 (Nat.le_refl _)
  have d10 := cell_block s1 0
  have d11 := cell_block s1 1
  simp only [gA, gB, gC] at d10 d11
  have k10 := iheld d10 (Nat.le_refl _)
  have k11 := iheld d11 (Nat.le_refl _)
  have d20 := cell_block s2 0
  have d21 := cell_block s2 1
  simp only [gA, gB, gC] at d20 d21
  have k20 := iheld d20 (Nat.le_refl _)
  have k21 := iheld d21 (Nat.le_refl _)
  have d30 := cell_block s3 0
  have d31 := cell_block s3 1
  simp only [gA, gB, gC] at d30 d31
  have k30 := iheld d30 (Nat.le_refl _)
  have k31 := iheld d31 (Nat.le_refl _)
  clear s0 s1 s2 s3 d00 d01 d10 d11 d20 d21 d30 d31
  refine (wpIn_wide (n := 1)).1 ?_
  refine wpIn_region_Wn (S := fun W => Below w20.heap.size w20 W) 39 (by kernel_rfl) (by kernel_rfl) (Below.refl _ _).drew (fun hHeld => ?_)
  refine wTk 0 91 ?_ ?_ ?_
  rotate_left
  · intro o h w k; (try dsimp only at k); simp only [gA, gB, gC, gG] at h; subst h; go_simp; try with_reducible rfl
  simp only [Act.put, gD, gE, gF]
  refine wTk 1 92 ?_ ?_ ?_
  rotate_left
  · intro o h w k; (try dsimp only at k); simp only [gA, gB, gC, gG] at h; subst h; go_simp; try with_reducible rfl
  simp only [Act.put, gD, gE, gF]
  refine wTk 2 93 ?_ ?_ ?_
  rotate_left
  · intro o h w k; (try dsimp only at k); simp only [gA, gB, gC, gG] at h; subst h; go_simp; try with_reducible rfl
  simp only [Act.put, gD, gE, gF]
  refine wTk 3 94 ?_ ?_ ?_
  rotate_left
  · intro o h w k; (try dsimp only at k); simp only [gA, gB, gC, gG] at h; subst h; go_simp; try with_reducible rfl
  simp only [Act.put, gD, gE, gF]
  refine wTk 4 95 ?_ ?_ ?_
  rotate_left
  · intro o h w k; (try dsimp only at k); simp only [gA, gB, gC, gG] at h; subst h; go_simp; try with_reducible rfl
  simp only [Act.put, gD, gE, gF]
  refine wTk 5 96 ?_ ?_ ?_
  rotate_left
  · intro o h w k; (try dsimp only at k); simp only [gA, gB, gC, gG] at h; subst h; go_simp; try with_reducible rfl
  simp only [Act.put, gD, gE, gF]
  refine wTk 6 97 ?_ ?_ ?_
  rotate_left
  · intro o h w k; (try dsimp only at k); simp only [gA, gB, gC, gG] at h; subst h; go_simp; try with_reducible rfl
  simp only [Act.put, gD, gE, gF]
  refine wTk 7 98 ?_ ?_ ?_
  rotate_left
  · intro o h w k; (try dsimp only at k); simp only [gA, gB, gC, gG] at h; subst h; go_simp; try with_reducible rfl
  simp only [Act.put, gD, gE, gF]
  refine wTk 8 99 ?_ ?_ ?_
  rotate_left
  · intro o h w k; (try dsimp only at k); simp only [gA, gB, gC, gG] at h; subst h; go_simp; try with_reducible rfl
  simp only [Act.put, gD, gE, gF]
  refine wTk 9 100 ?_ ?_ ?_
  rotate_left
  · intro o h w k; (try dsimp only at k); simp only [gA, gB, gC, gG] at h; subst h; go_simp; try with_reducible rfl
  simp only [Act.put, gD, gE, gF]
  refine wTk 10 101 ?_ ?_ ?_
  rotate_left
  · intro o h w k; (try dsimp only at k); simp only [gA, gB, gC, gG] at h; subst h; go_simp; try with_reducible rfl
  simp only [Act.put, gD, gE, gF]
  refine wTk 11 102 ?_ ?_ ?_
  rotate_left
  · intro o h w k; (try dsimp only at k); simp only [gA, gB, gC, gG] at h; subst h; go_simp; try with_reducible rfl
  simp only [Act.put, gD, gE, gF]
  refine wpAnyW_one 12 (by kernel_rfl) (by kernel_rfl) ?_
  intro o ho K hK
  simp only [gA, gB, gC, gG] at ho
  subst ho
  go_simp
  refine ⟨trivial, CallsIn.mono (callsIn_wide.2 (ilspan_any 2 2 _)) ?_⟩
  rintro e v0 ⟨rfl, hb⟩
  have H0 := hHeld.trans (hb.mono hHeld.size)
  refine hK _ _ H0 (fun _ => ?_)
  clear hK K hb
  try simp only [Act.put, gD, gE, gF]
  refine wTk 13 104 ?_ ?_ ?_
  rotate_left
  · intro o h w k; (try dsimp only at k); simp only [gA, gB, gC, gG] at h; subst h; go_simp; try with_reducible rfl
  simp only [Act.put, gD, gE, gF]
  refine wTk 14 105 ?_ ?_ ?_
  rotate_left
  · intro o h w k; (try dsimp only at k); simp only [gA, gB, gC, gG] at h; subst h; go_simp; try with_reducible rfl
  simp only [Act.put, gD, gE, gF]
  refine wTk 15 106 ?_ ?_ ?_
  rotate_left
  · intro o h w k; (try dsimp only at k); simp only [gA, gB, gC, gG] at h; subst h; go_simp; try with_reducible rfl
  simp only [Act.put, gD, gE, gF]
  refine wTk 16 107 ?_ ?_ ?_
  rotate_left
  · intro o h w k; (try dsimp only at k); simp only [gA, gB, gC, gG] at h; subst h; go_simp; try with_reducible rfl
  simp only [Act.put, gD, gE, gF]
  refine wTk 17 108 ?_ ?_ ?_
  rotate_left
  · intro o h w k; (try dsimp only at k); simp only [gA, gB, gC, gG] at h; subst h; go_simp; try with_reducible rfl
  simp only [Act.put, gD, gE, gF]
  refine wTk 18 109 ?_ ?_ ?_
  rotate_left
  · intro o h w k; (try dsimp only at k); simp only [gA, gB, gC, gG] at h; subst h; go_simp; try with_reducible rfl
  simp only [Act.put, gD, gE, gF]
  refine wTk 19 110 ?_ ?_ ?_
  rotate_left
  · intro o h w k; (try dsimp only at k); simp only [gA, gB, gC, gG] at h; subst h; go_simp; try with_reducible rfl
  simp only [Act.put, gD, gE, gF]
  refine wTk 20 111 ?_ ?_ ?_
  rotate_left
  · intro o h w k; (try dsimp only at k); simp only [gA, gB, gC, gG] at h; subst h; go_simp; try with_reducible rfl
  simp only [Act.put, gD, gE, gF]
  refine wpAnyW_one 21 (by kernel_rfl) (by kernel_rfl) ?_
  intro o ho K hK
  simp only [gA, gB, gC, gG] at ho
  subst ho
  go_simp
  refine ⟨trivial, CallsIn.mono (callsIn_wide.2 (ilspan_any 300 301 _)) ?_⟩
  rintro e v1 ⟨rfl, hb⟩
  have H1 := H0.trans (hb.mono H0.size)
  refine hK _ _ H1 (fun _ => ?_)
  clear hK K hb
  try simp only [Act.put, gD, gE, gF]
  refine wTk 22 113 ?_ ?_ ?_
  rotate_left
  · intro o h w k; (try dsimp only at k); simp only [gA, gB, gC, gG] at h; subst h; go_simp; try with_reducible rfl
  simp only [Act.put, gD, gE, gF]
  refine wTk 23 114 ?_ ?_ ?_
  rotate_left
  · intro o h w k; (try dsimp only at k); simp only [gA, gB, gC, gG] at h; subst h; go_simp; try with_reducible rfl
  simp only [Act.put, gD, gE, gF]
  refine wTk 24 115 ?_ ?_ ?_
  rotate_left
  · intro o h w k; (try dsimp only at k); simp only [gA, gB, gC, gG] at h; subst h; go_simp; try with_reducible rfl
  simp only [Act.put, gD, gE, gF]
  refine wTk 25 116 ?_ ?_ ?_
  rotate_left
  · intro o h w k; (try dsimp only at k); simp only [gA, gB, gC, gG] at h; subst h; go_simp; try with_reducible rfl
  simp only [Act.put, gD, gE, gF]
  refine wpAnyW_one 26 (by kernel_rfl) (by kernel_rfl) ?_
  intro o ho K hK
  simp only [gA, gB, gC, gG] at ho
  subst ho
  go_simp
  refine ⟨trivial, CallsIn.mono (callsIn_wide.2 (ilspan_any 50 51 _)) ?_⟩
  rintro e v2 ⟨rfl, hb⟩
  have H2 := H1.trans (hb.mono H1.size)
  refine hK _ _ H2 (fun _ => ?_)
  clear hK K hb
  try simp only [Act.put, gD, gE, gF]
  refine wTk 27 118 ?_ ?_ ?_
  rotate_left
  · intro o h w k; (try dsimp only at k); simp only [gA, gB, gC, gG] at h; subst h; go_simp; try with_reducible rfl
  simp only [Act.put, gD, gE, gF]
  refine wTk 28 119 ?_ ?_ ?_
  rotate_left
  · intro o h w k; (try dsimp only at k); simp only [gA, gB, gC, gG] at h; subst h; go_simp; try with_reducible rfl
  simp only [Act.put, gD, gE, gF]
  refine wTk 29 120 ?_ ?_ ?_
  rotate_left
  · intro o h w k; (try dsimp only at k); simp only [gA, gB, gC, gG] at h; subst h; go_simp; try with_reducible rfl
  simp only [Act.put, gD, gE, gF]
  refine wTk 30 121 ?_ ?_ ?_
  rotate_left
  · intro o h w k; (try dsimp only at k); simp only [gA, gB, gC, gG] at h; subst h; go_simp; try with_reducible rfl
  simp only [Act.put, gD, gE, gF]
  refine wpAnyW_one 31 (by kernel_rfl) (by kernel_rfl) ?_
  intro o ho K hK
  simp only [gA, gB, gC, gG] at ho
  subst ho
  go_simp
  refine ⟨trivial, CallsIn.mono (callsIn_wide.2 (ilspan_any 13 14 _)) ?_⟩
  rintro e v3 ⟨rfl, hb⟩
  have H3 := H2.trans (hb.mono H2.size)
  refine hK _ _ H3 (fun _ => ?_)
  clear hK K hb
  try simp only [Act.put, gD, gE, gF]
  refine wTk 32 123 ?_ ?_ ?_
  rotate_left
  · intro o h w k; (try dsimp only at k); simp only [gA, gB, gC, gG] at h; subst h; go_simp; try with_reducible rfl
  simp only [Act.put, gD, gE, gF]
  refine wTk 33 124 ?_ ?_ ?_
  rotate_left
  · intro o h w k; (try dsimp only at k); simp only [gA, gB, gC, gG] at h; subst h; go_simp; try with_reducible rfl
  simp only [Act.put, gD, gE, gF]
  refine wTk 34 125 ?_ ?_ ?_
  rotate_left
  · intro o h w k; (try dsimp only at k); simp only [gA, gB, gC, gG] at h; subst h; go_simp; try with_reducible rfl
  simp only [Act.put, gD, gE, gF]
  refine wTk 35 126 ?_ ?_ ?_
  rotate_left
  · intro o h w k; (try dsimp only at k); simp only [gA, gB, gC, gG] at h; subst h; go_simp; try with_reducible rfl
  simp only [Act.put, gD, gE, gF]
  refine wTk 36 127 ?_ ?_ ?_
  rotate_left
  · intro o h w k; (try dsimp only at k); simp only [gA, gB, gC, gG] at h; subst h; go_simp; try with_reducible rfl
  simp only [Act.put, gD, gE, gF]
  refine wTk 37 128 ?_ ?_ ?_
  rotate_left
  · intro o h w k; (try dsimp only at k); simp only [gA, gB, gC, gG] at h; subst h; go_simp; try with_reducible rfl
  simp only [Act.put, gD, gE, gF]
  refine wTk 38 0 ?_ ?_ ?_
  rotate_left
  · intro o h w k; (try dsimp only at k); simp only [gA, gB, gC, gG] at h; subst h; go_simp; try with_reducible rfl
  simp only [Act.put, gD, gE, gF]
  refine wpAnyW_done (by kernel_rfl) ?_ _
  dsimp only [onNormal]
  replace hb0 := hb0.trans (H3.mono hb0.size)
  go_wp2_with fail
  go_ret
  exact ⟨rfl, hb0⟩
end Go.Proofs.Ytacioedolmaofaa
