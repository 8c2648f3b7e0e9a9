/- tell: what is read, what is known; two regions of the rounds. -/
import Derived.Test.YtacioedolmaofaaLBA14
import Derived.Test.YtacioedolmaofaaLBA1
import Derived.Test.YtacioedolmaofaaLBA6
import Derived.Test.YtacioedolmaofaaLBA17
import Derived.WalkMore
namespace Go.Proofs.Ytacioedolmaofaa
open Go.RowKit Go.Shelf
attribute [local go_sem] Oper.semAt_some
set_option maxHeartbeats 6400000
set_option maxRecDepth 100000
set_option linter.unusedSimpArgs false
set_option linter.unusedVariables false

def stV (x : Int × Nat) : Value := .agg #[.int .i64 x.1, .int .u64 x.2]
def tdV (o : ITold) : Value := .agg #[.int .i64 o.many, .int .i64 o.flaws, .int .i64 o.lo, .int .i64 o.hi, .int .u64 o.some, .int .u64 o.all]
def tdA (o : ITold) : Array Value := #[.int .i64 o.many, .int .i64 o.flaws, .int .i64 o.lo, .int .i64 o.hi, .int .u64 o.some, .int .u64 o.all]
theorem stKey : KeyFacts Try.prog 94 stV where
  eq s s' w := by
    refine ⟨s.1 == s'.1 && (s.2 : Int) == (s'.2 : Int), ?_, ?_⟩
    · unfold Op.equal stV
      rw [show Op.maxDepth = 9999 + 1 from rfl, run_equalIn_agg _ _ _ _ _ (by kernel_rfl) (by kernel_rfl)]
      go_simp
      by_cases h1 : s.1 = s'.1 <;> by_cases h2 : (s.2 : Int) = (s'.2 : Int) <;> simp [h1, h2]
    · rcases s with ⟨a, c⟩; rcases s' with ⟨d, e⟩
      simp
      omega
  inj s s' h := by
    rcases s with ⟨a, c⟩; rcases s' with ⟨d, e⟩
    simp only [stV, Value.agg.injEq, Array.mk.injEq, List.cons.injEq, Value.int.injEq] at h
    have h2 : c = e := by have := h.2.1.2; omega
    simp [h.1.2, h2]
  check em s w := by
    unfold stV
    unfold Instr.checkKey
    go_simp
    unfold Instr.checkKey
    go_simp
  now := ⟨_, rfl, fun s s' => by simp [Instr.sameNow, stV]⟩

/-- The map of what is known holds what is so, of states for which Ky. -/
def KnownT (w : World) (r : Nat) (T : List ITr) (n : Nat) (F : Int) (Ky : Int × Nat → Prop) : Prop := ∃ es clk, w.heap[r]? = some (.map es clk) ∧ ∀ en ∈ es, ∃ x : Int × Nat, Ky x ∧ en.key = stV x ∧ en.val = tdV (tellN T n F x.1 x.2)
theorem KnownT.steps {A C : World} {r n : Nat} {T : List ITr} {F : Int} {Ky : Int × Nat → Prop} {own : Nat → Prop} (h : KnownT A r T n F Ky) (hs : Steps own A C) (hn : ¬ own r) : KnownT C r T n F Ky := by
  obtain ⟨es, clk, h1, h2⟩ := h
  exact ⟨es, clk, hs.obj hn h1, h2⟩
theorem KnownT.mono {A : World} {r n : Nat} {T : List ITr} {F : Int} {Ky Ky' : Int × Nat → Prop} (h : KnownT A r T n F Ky) (hk : ∀ x, Ky x → Ky' x) : KnownT A r T n F Ky' := by
  obtain ⟨es, clk, h1, h2⟩ := h
  refine ⟨es, clk, h1, fun en he => ?_⟩
  obtain ⟨x, a, b⟩ := h2 en he
  exact ⟨x, hk x a, b⟩
theorem KnownT.lt {A : World} {r n : Nat} {T : List ITr} {F : Int} {Ky : Int × Nat → Prop} (h : KnownT A r T n F Ky) : r < A.heap.size := by
  obtain ⟨es, clk, h1, h2⟩ := h
  exact (Array.getElem?_eq_some_iff.1 h1).1
theorem KnownT.ne {A : World} {r n b o : Nat} {T : List ITr} {F : Int} {Ky : Int × Nat → Prop} {v : Value} (h : KnownT A r T n F Ky) (hc : A.cell? ⟨b, o, none⟩ = some v) : b ≠ r := by
  obtain ⟨es, clk, h1, h2⟩ := h
  rintro rfl
  unfold World.cell? at hc
  rw [h1] at hc
  simp at hc

/-- The function that tells. -/
def onV (B1 B2 B3 B4 : Nat) : Value := .func (.func 73) #[] #[.pointer (some ⟨B1, 0, none⟩), .pointer (some ⟨B2, 0, none⟩), .pointer (some ⟨B3, 0, none⟩), .pointer (some ⟨B4, 0, none⟩)]
/-- What it reads. -/
structure TellAt (W : World) (p B1 B2 B3 B4 r : Nat) (n : Nat) (F : Int) (fa : Option Addr) (fc : Nat) (ta : Option Addr) (tc : Nat) (T : List ITr) : Prop where
  k : W.cell? ⟨B1, 0, none⟩ = some (.map (some r))
  s : W.cell? ⟨B2, 0, none⟩ = some (.pointer (some ⟨p, 0, none⟩))
  f : W.cell? ⟨B3, 0, none⟩ = some (.int .i64 F)
  o : W.cell? ⟨B4, 0, none⟩ = some (onV B1 B2 B3 B4)
  l : W.cell? ⟨p, 14, none⟩ = some (.slice fa n fc)
  t : W.cell? ⟨p, 15, none⟩ = some (.slice ta T.length tc)
  tr : TrSl W ta T
  tb : ∀ a, ta = some a → a.block < W.heap.size
/-- A step that turns blocks that hold no cells of it. -/
theorem cell_apart {w w' : World} {own : Nat → Prop} (hs : Steps own w w') {a : Addr} {v : Value} (hn : ¬ own a.block) (h : w.cell? a = some v) : w'.cell? a = some v := by
  rw [World.cell?_of_block (w := w) (hs.block a.block (World.block_lt_of_cell? w a h) hn)]
  exact h
theorem TellAt.steps {A C : World} {p B1 B2 B3 B4 r n : Nat} {F : Int} {fa : Option Addr} {fc : Nat} {ta : Option Addr} {tc : Nat} {T : List ITr} {own : Nat → Prop} (h : TellAt A p B1 B2 B3 B4 r n F fa fc ta tc T) (hs : Steps own A C) (hp : ¬ own p) (h1 : ¬ own B1) (h2 : ¬ own B2) (h3 : ¬ own B3) (h4 : ¬ own B4) (ht : ∀ k (hk : k < T.length) b o, ta = some ⟨b, o, none⟩ → ¬ own b) : TellAt C p B1 B2 B3 B4 r n F fa fc ta tc T :=
  ⟨cell_apart hs h1 h.k, cell_apart hs h2 h.s, cell_apart hs h3 h.f, cell_apart hs h4 h.o, cell_apart hs hp h.l, cell_apart hs hp h.t, fun k hk => by
    obtain ⟨b, o, ha, hlt, hx⟩ := h.tr k hk
    exact ⟨b, o, ha, Nat.lt_of_lt_of_le hlt hs.size, hx.same (hs.block b hlt (ht k hk b o ha))⟩, fun a ha => Nat.lt_of_lt_of_le (h.tb a ha) hs.size⟩
theorem TellAt.known {A C : World} {p B1 B2 B3 B4 r n : Nat} {F : Int} {fa : Option Addr} {fc : Nat} {ta : Option Addr} {tc : Nat} {T T' : List ITr} {n' : Nat} {F' : Int} {Ky : Int × Nat → Prop} (h : TellAt A p B1 B2 B3 B4 r n F fa fc ta tc T) (hk : KnownT A r T' n' F' Ky) (hs : Steps (fun k => k = r) A C) : TellAt C p B1 B2 B3 B4 r n F fa fc ta tc T :=
  h.steps hs (hk.ne h.t) (hk.ne h.k) (hk.ne h.s) (hk.ne h.f) (hk.ne h.o) (fun k hk' b o e => by
    obtain ⟨b', o', ha, _, hx⟩ := h.tr k hk'
    rw [ha] at e
    cases e
    exact hk.ne hx.c0)
theorem TellAt.later {A C : World} {p B1 B2 B3 B4 r n : Nat} {F : Int} {fa : Option Addr} {fc : Nat} {ta : Option Addr} {tc : Nat} {T : List ITr} (h : TellAt A p B1 B2 B3 B4 r n F fa fc ta tc T) (hs : Steps (fun _ => False) A C) : TellAt C p B1 B2 B3 B4 r n F fa fc ta tc T :=
  h.steps hs id id id id id (fun _ _ _ _ _ => id)
/-- How it ends. -/
def OnP (r n : Nat) (T : List ITr) (F : Int) (fr : Int) (used : Nat) (Ky : Int × Nat → Prop) (w : World) (e : Ending) (w' : World) : Prop := e = .returned (tdV (tellN T n F fr used)) ∧ Steps (fun k => k = r) w w' ∧ KnownT w' r T n F (fun x => Ky x ∨ fr ≤ x.1)

/-- A region of a function's text, rounds of loops included. -/
def findRegIn (n : Nat) : Code → Option Code
  | .region m ops d => if m == n then some (.region m ops d) else none
  | .seq a b => match findRegIn n a with
    | some c => some c
    | none => findRegIn n b
  | .cond _ a b => match findRegIn n a with
    | some c => some c
    | none => findRegIn n b
  | .block _ c => findRegIn n c
  | .loop c => findRegIn n c
  | .scope c => findRegIn n c
  | .rangeFunc _ _ a b => match findRegIn n a with
    | some c => some c
    | none => findRegIn n b
  | _ => none
theorem six_steps (q : Nat) (a0 a1 a2 a3 a4 a5 : Value) (w : World) : Steps (fun k => k = q) w ((((((w.setCell ⟨q, 0, none⟩ a0).setCell ⟨q, 1, none⟩ a1).setCell ⟨q, 2, none⟩ a2).setCell ⟨q, 3, none⟩ a3).setCell ⟨q, 4, none⟩ a4).setCell ⟨q, 5, none⟩ a5) :=
  have s : ∀ (A : World) (o : Nat) (v : Value), Steps (fun k => k = q) A (A.setCell ⟨q, o, none⟩ v) := fun A o v => Steps.setCell (own := fun k => k = q) A (p := ⟨q, o, none⟩) rfl v
  (((((s w 0 a0).trans (s _ 1 a1) (fun _ _ h => h)).trans (s _ 2 a2) (fun _ _ h => h)).trans (s _ 3 a3) (fun _ _ h => h)).trans (s _ 4 a4) (fun _ _ h => h)).trans (s _ 5 a5) (fun _ _ h => h)

theorem tell_reg11 (l0 p B1 B2 B3 B4 r n q5 q11 : Nat) (fa : Option Addr) (fc : Nat) (ta : Option Addr) (tc : Nat) (T : List ITr) (F fr : Int) (used : Nat) (t : ITr) (Ky : Int × Nat → Prop) (W : World) {z0 z1 z2 z3 z6 z7 z8 z9 z10 z14 z15 z16 z17 z18 z19 z20 z21 z22 z23 z24 z25 z26 z27 z28 z29 z30 z31 z32 z33 z34 z35 z36 z37 z38 z39 z40 z41 z42 z43 z44 z45 z46 z47 z48 z49 z50 z51 z52 z53 z54 z55 z56 z57 z58 z59 z60 z61 z73 z74 z75 z76 z77 z78 z79 z80 z81 z82 z83 z84 z85 z86 z87 z88 z89 z90 z91 z92 z93 z94 z95 z96 z97 z98 z99 z100 z101 z102 z103 z104 z105 z106 z107 z108 z109 z110 z111 z112 z113 z114 z115 z116 z117 z118 z119 z120 z121 : Value} {z13 z62 z63 z64 z65 z66 z67 z68 z69 z70 z71 z72 : Value}
    (h4 : W.cell? ⟨B4, 0, none⟩ = some (onV B1 B2 B3 B4)) (hq5 : W.cell? ⟨q5, 1, none⟩ = some (.int .u64 used)) (hq11 : W.cell? ⟨q11, 0, none⟩ = some (.int .i64 t.a)) (ha : 0 ≤ t.a ∧ t.a < 9) (hu : used < 2 ^ 64) (hown : t.own < 2 ^ 64) (hrW : r < W.heap.size) (n4 : B4 ≠ r) (n5 : q5 ≠ r) (n11 : q11 ≠ r)
    (hon : ∀ w0, Steps (fun _ => False) W w0 → Calls Try.prog 73 #[stV (t.a + 1, used ||| t.own), .pointer (some ⟨B1, 0, none⟩), .pointer (some ⟨B2, 0, none⟩), .pointer (some ⟨B3, 0, none⟩), .pointer (some ⟨B4, 0, none⟩)] w0 (OnP r n T F (t.a + 1) (used ||| t.own) Ky w0))
    (K : Act → World → Prop) (Q : Exit → Act → World → Prop)
    (hfin : ∀ (s62 s63 s64 s65 s66 s67 s68 s69 s70 s71 s72 : Value) (q13 : Nat) (w' : World), W.heap.size ≤ q13 → w'.heap[q13]? = some (.cells (tdA (tellN T n F (t.a + 1) (used ||| t.own))) 90) → Steps (fun k => k = r) W w' → KnownT w' r T n F (fun x => Ky x ∨ t.a + 1 ≤ x.1) → K ⟨(z0::z1::z2::z3::(.pointer (some ⟨B4, 0, none⟩))::(.pointer (some ⟨q5, 0, none⟩))::z6::z7::z8::z9::z10::(.pointer (some ⟨q11, 0, none⟩))::(.int .u64 t.own)::(.pointer (some ⟨q13, 0, none⟩))::z14::z15::z16::z17::z18::z19::z20::z21::z22::z23::z24::z25::z26::z27::z28::z29::z30::z31::z32::z33::z34::z35::z36::z37::z38::z39::z40::z41::z42::z43::z44::z45::z46::z47::z48::z49::z50::z51::z52::z53::z54::z55::z56::z57::z58::z59::z60::z61::s62::s63::s64::s65::s66::s67::s68::s69::s70::s71::s72::z73::z74::z75::z76::z77::z78::z79::z80::z81::z82::z83::z84::z85::z86::z87::z88::z89::z90::z91::z92::z93::z94::z95::z96::z97::z98::z99::z100::z101::z102::z103::z104::z105::z106::z107::z108::z109::z110::z111::z112::z113::z114::z115::z116::z117::z118::z119::z120::z121 :: []).toArray, []⟩ w') :
    Code.wpIn (Fence.wide.inRound l0) 0 Try.prog (((Try.f73.body.bind (findRegIn 11)).getD .skip)) (Exit.then K Q) ⟨(z0::z1::z2::z3::(.pointer (some ⟨B4, 0, none⟩))::(.pointer (some ⟨q5, 0, none⟩))::z6::z7::z8::z9::z10::(.pointer (some ⟨q11, 0, none⟩))::(.int .u64 t.own)::z13::z14::z15::z16::z17::z18::z19::z20::z21::z22::z23::z24::z25::z26::z27::z28::z29::z30::z31::z32::z33::z34::z35::z36::z37::z38::z39::z40::z41::z42::z43::z44::z45::z46::z47::z48::z49::z50::z51::z52::z53::z54::z55::z56::z57::z58::z59::z60::z61::z62::z63::z64::z65::z66::z67::z68::z69::z70::z71::z72::z73::z74::z75::z76::z77::z78::z79::z80::z81::z82::z83::z84::z85::z86::z87::z88::z89::z90::z91::z92::z93::z94::z95::z96::z97::z98::z99::z100::z101::z102::z103::z104::z105::z106::z107::z108::z109::z110::z111::z112::z113::z114::z115::z116::z117::z118::z119::z120::z121 :: []).toArray, []⟩ W := by
  have HFIN := Lib.hid hfin
  have HON := Lib.hid hon
  have HUB : Hid (∀ x ∈ [used, t.own], x < 2 ^ 64) := Lib.hid (fun x hx => by
    simp only [List.mem_cons, List.not_mem_nil, or_false] at hx
    rcases hx with rfl | rfl <;> assumption)
  have HWR : Hid (IntKind.i64.wrap (t.a + 1) = t.a + 1) := Lib.hid (by rw [IntKind.wrap_i64]; omega)
  obtain ⟨a1, a2⟩ := ha
  unfold onV at h4
  have k4 : ∀ W', Steps (fun k => k = r) W W' → W'.cell? ⟨B4, 0, none⟩ = some (.func (.func 73) #[] #[.pointer (some ⟨B1, 0, none⟩), .pointer (some ⟨B2, 0, none⟩), .pointer (some ⟨B3, 0, none⟩), .pointer (some ⟨B4, 0, none⟩)]) := fun W' h => cell_apart h n4 h4
  have k5 : ∀ W', Steps (fun k => k = r) W W' → W'.cell? ⟨q5, 1, none⟩ = some (.int .u64 used) := fun W' h => cell_apart h n5 hq5
  have k11 : ∀ W', Steps (fun k => k = r) W W' → W'.cell? ⟨q11, 0, none⟩ = some (.int .i64 t.a) := fun W' h => cell_apart h n11 hq11
  clear hfin hon h4 hq5 hq11
  conv => arg 4; whnf
  refine wpIn_region_Wr (S := fun W' => Steps (fun k => k = r) W W') l0 13 (by kernel_rfl) (by kernel_rfl) (by kernel_rfl) (Steps.refl _ W).drew (fun H0 => ?_)
  have N0 := (Steps.refl (fun _ => False) W).drew
  generalize W.drew = w0 at H0 N0 ⊢
  refine wTk 0 62 ?_ ?_ ?_
  rotate_left
  · intro o h w k; (try dsimp only at k); simp only [gA, gB, gC, gG] at h; subst h; go_simp; try with_reducible rfl
  simp only [Act.put, gD, gE, gF]
  refine wTk 1 63 ?_ ?_ ?_
  rotate_left
  · intro o h w k; (try dsimp only at k); simp only [gA, gB, gC, gG] at h; subst h; go_simp; try with_reducible rfl
  simp only [Act.put, gD, gE, gF]
  refine wTk 2 64 ?_ ?_ ?_
  rotate_left
  · intro o h w k; (try dsimp only at k); simp only [gA, gB, gC, gG] at h; subst h; go_simp; try with_reducible rfl
  simp only [Act.put, gD, gE, gF]
  refine wTk 3 65 ?_ ?_ ?_
  rotate_left
  · intro o h w k; (try dsimp only at k); simp only [gA, gB, gC, gG] at h; subst h; go_simp; try with_reducible rfl
  simp only [Act.put, gD, gE, gF]
  refine wTk 4 66 ?_ ?_ ?_
  rotate_left
  · intro o h w k; (try dsimp only at k); simp only [gA, gB, gC, gG] at h; subst h; go_simp; try with_reducible rfl
  simp only [Act.put, gD, gE, gF]
  refine wTk 5 67 ?_ ?_ ?_
  rotate_left
  · intro o h w k; (try dsimp only at k); simp only [gA, gB, gC, gG] at h; subst h; go_simp; try with_reducible rfl
  simp only [Act.put, gD, gE, gF]
  refine wTk 6 68 ?_ ?_ ?_
  rotate_left
  · intro o h w k; (try dsimp only at k); simp only [gA, gB, gC, gG] at h; subst h; go_simp; try with_reducible rfl
  simp only [Act.put, gD, gE, gF]
  clear k4 k5 k11
  refine wpAnyW_two 7 11 (by kernel_rfl) ⟨by kernel_rfl, by kernel_rfl⟩ ?_ ?_
  ·
    intro o ho K hK
    simp only [gA, gB, gC, gG] at ho
    subst ho
    go_simp
    have hst := Steps.alloc (fun _ => False) w0 (.cells #[.int .u64 used, .int .u64 t.own] 88)
    have hnw := obj_new w0 (.cells #[.int .u64 used, .int .u64 t.own] 88)
    have hsz : w0.heap.size < (w0.alloc (.cells #[.int .u64 used, .int .u64 t.own] 88)).heap.size := by simp
    refine hK _ _ (H0.trans (hst.mono (fun _ _ h => h.elim)) (fun _ _ h => h)) (fun _ => ?_)
    clear hK K
    try simp only [Act.put, gD, gE, gF]
    have C1 : SetsAt (w0.alloc (.cells #[.int .u64 used, .int .u64 t.own] 88)) w0.heap.size [used, t.own] := fun k hk => by
      rcases k with _ | _ | k
      · exact cell_new _ _ _ _ _ rfl
      · exact cell_new _ _ _ _ _ rfl
      · simp at hk; omega
    obtain ⟨qs, hqs⟩ : ∃ q, w0.heap.size = q := ⟨_, rfl⟩
    generalize w0.alloc (.cells #[.int .u64 used, .int .u64 t.own] 88) = w1 at hst hnw hsz C1 ⊢
    rw [hqs] at C1
    try rw [hqs]
    have H1 := H0.trans (hst.mono (own' := fun k => k = r) (fun _ _ h => h.elim)) (fun _ _ h => h)
    have N1 := N0.trans hst (fun _ _ h => h)
    clear hst hnw hsz
    refine wpAnyW_two 8 11 (by kernel_rfl) ⟨by kernel_rfl, by kernel_rfl⟩ ?_ ?_
    ·
      intro o ho K hK
      simp only [gA, gB, gC, gG] at ho
      subst ho
      have hun := iunion_any qs [used, t.own] w1 C1 (by simp) HUB.out
      rw [show orAll [used, t.own] = used ||| t.own by simp [orAll]] at hun
      go_simp
      simp only [List.length_cons, List.length_nil, Nat.zero_add, Nat.reduceAdd] at hun
      refine ⟨trivial, rfl, CallsIn.mono (callsIn_wide.2 hun) ?_⟩
      rintro e w2 ⟨rfl, hww⟩
      rw [← hww]
      clear hww w2
      refine hK _ _ H1 (fun _ => ?_)
      clear hK K hun
      try simp only [Act.put, gD, gE, gF]
      refine wTk 9 71 ?_ ?_ ?_
      rotate_left
      · intro o h w k; (try dsimp only at k); simp only [gA, gB, gC, gG] at h; subst h; go_simp; try with_reducible rfl
      simp only [Act.put, gD, gE, gF]
      refine wpAnyW_two 10 11 (by kernel_rfl) ⟨by kernel_rfl, by kernel_rfl⟩ ?_ ?_
      ·
        intro o ho K hK
        simp only [gA, gB, gC, gG] at ho
        subst ho
        have hon := HON.out w1 N1
        unfold stV at hon
        dsimp only at hon
        go_simp
        rw [HWR.out]
        refine ⟨trivial, rfl, CallsIn.mono (callsIn_wide.2 hon) ?_⟩
        rintro e w2 ⟨rfl, hsr, hkr⟩
        have H2 := H1.trans hsr (fun _ _ h => h)
        refine hK _ _ H2 (fun _ => ?_)
        clear hK K hon
        try simp only [Act.put, gD, gE, gF]
        unfold tdV
        clear hsr
        refine wpAnyW_one 11 (by kernel_rfl) (by kernel_rfl) ?_
        intro o ho K hK
        simp only [gA, gB, gC, gG] at ho
        subst ho
        go_simp
        have hst := Steps.alloc (fun _ => False) w2 (.cells #[.int .i64 0, .int .i64 0, .int .i64 0, .int .i64 0, .int .u64 0, .int .u64 0] 90)
        have hnw := obj_new w2 (.cells #[.int .i64 0, .int .i64 0, .int .i64 0, .int .i64 0, .int .u64 0, .int .u64 0] 90)
        have hsz : w2.heap.size < (w2.alloc (.cells #[.int .i64 0, .int .i64 0, .int .i64 0, .int .i64 0, .int .u64 0, .int .u64 0] 90)).heap.size := by simp
        refine hK _ _ (H2.trans (hst.mono (fun _ _ h => h.elim)) (fun _ _ h => h)) (fun _ => ?_)
        clear hK K
        try simp only [Act.put, gD, gE, gF]
        obtain ⟨q13, hq13⟩ : ∃ q, w2.heap.size = q := ⟨_, rfl⟩
        generalize w2.alloc (.cells #[.int .i64 0, .int .i64 0, .int .i64 0, .int .i64 0, .int .u64 0, .int .u64 0] 90) = w3 at hst hnw hsz ⊢
        rw [hq13] at hnw hsz
        try rw [hq13]
        have hqW : W.heap.size ≤ q13 := by have := H2.size; omega
        have G3 := hnw
        have H3 := H2.trans (hst.mono (own' := fun k => k = r) (fun _ _ h => h.elim)) (fun _ _ h => h)
        have hkr := hkr.steps hst (fun h => h)
        clear hst hnw hsz
        have fz := fun k => frozen_block G3 k
        have f0 := fz 0
        have f1 := fz 1
        have f2 := fz 2
        have f3 := fz 3
        have f4 := fz 4
        have f5 := fz 5
        have cz := fun k => cell_block G3 k
        have c0 := cz 0
        have c1 := cz 1
        have c2 := cz 2
        have c3 := cz 3
        have c4 := cz 4
        have c5 := cz 5
        clear fz cz
        try simp only [gA, gB, gC] at c0 c1 c2 c3 c4 c5
        refine wpAnyW_one 12 (by kernel_rfl) (by kernel_rfl) ?_
        intro o ho K hK
        simp only [gA, gB, gC, gG] at ho
        subst ho
        go_simp
        have zz := star_put G3 (.int .i64 (tellN T n F (t.a + 1) (used ||| t.own)).many) (.int .i64 (tellN T n F (t.a + 1) (used ||| t.own)).flaws) (.int .i64 (tellN T n F (t.a + 1) (used ||| t.own)).lo) (.int .i64 (tellN T n F (t.a + 1) (used ||| t.own)).hi) (.int .u64 (tellN T n F (t.a + 1) (used ||| t.own)).some) (.int .u64 (tellN T n F (t.a + 1) (used ||| t.own)).all)
        have hput := six_steps q13 (.int .i64 (tellN T n F (t.a + 1) (used ||| t.own)).many) (.int .i64 (tellN T n F (t.a + 1) (used ||| t.own)).flaws) (.int .i64 (tellN T n F (t.a + 1) (used ||| t.own)).lo) (.int .i64 (tellN T n F (t.a + 1) (used ||| t.own)).hi) (.int .u64 (tellN T n F (t.a + 1) (used ||| t.own)).some) (.int .u64 (tellN T n F (t.a + 1) (used ||| t.own)).all) w3
        have hz : _ = some (Obj.cells (tdA (tellN T n F (t.a + 1) (used ||| t.own))) 90) := zz
        have hs := H3.trans (hput.mono (own' := fun k => k = q13 ∨ k = r) (fun _ _ h => .inl h)) (fun k hk h => by rcases h with h | h; omega; exact h)
        have hk := hkr.steps hput (fun h => by omega)
        refine hK _ _ hs (fun _ => ?_)
        clear hK K
        try simp only [Act.put, gD, gE, gF]
        refine wpAnyW_done (by kernel_rfl) ?_ _
        dsimp only [onNormal]
        exact HFIN.out _ _ _ _ _ _ _ _ _ _ _ q13 _ hqW hz hs hk
      ·
        intro o ho K hK
        simp only [gA, gB, gC, gG] at ho
        subst ho
        go_simp
        have hst := Steps.alloc (fun _ => False) w1 (.cells #[.int .i64 0, .int .i64 0, .int .i64 0, .int .i64 0, .int .u64 0, .int .u64 0] 90)
        have hnw := obj_new w1 (.cells #[.int .i64 0, .int .i64 0, .int .i64 0, .int .i64 0, .int .u64 0, .int .u64 0] 90)
        have hsz : w1.heap.size < (w1.alloc (.cells #[.int .i64 0, .int .i64 0, .int .i64 0, .int .i64 0, .int .u64 0, .int .u64 0] 90)).heap.size := by simp
        refine hK _ _ (H1.trans (hst.mono (fun _ _ h => h.elim)) (fun _ _ h => h)) (fun _ => ?_)
        clear hK K
        try simp only [Act.put, gD, gE, gF]
        obtain ⟨q13, hq13⟩ : ∃ q, w1.heap.size = q := ⟨_, rfl⟩
        generalize w1.alloc (.cells #[.int .i64 0, .int .i64 0, .int .i64 0, .int .i64 0, .int .u64 0, .int .u64 0] 90) = w2 at hst hnw hsz ⊢
        rw [hq13] at hnw hsz
        try rw [hq13]
        have hqW : W.heap.size ≤ q13 := by have := H1.size; omega
        have G2 := hnw
        have H2 := H1.trans (hst.mono (own' := fun k => k = r) (fun _ _ h => h.elim)) (fun _ _ h => h)
        have N2 := N1.trans hst (fun _ _ h => h)
        clear hst hnw hsz
        refine wpAnyW_one 10 (by kernel_rfl) (by kernel_rfl) ?_
        intro o ho K hK
        simp only [gA, gB, gC, gG] at ho
        subst ho
        have hon := HON.out w2 N2
        unfold stV at hon
        dsimp only at hon
        go_simp
        rw [HWR.out]
        refine ⟨trivial, rfl, CallsIn.mono (callsIn_wide.2 hon) ?_⟩
        rintro e w3 ⟨rfl, hsr, hkr⟩
        have H3 := H2.trans hsr (fun _ _ h => h)
        refine hK _ _ H3 (fun _ => ?_)
        clear hK K hon
        try simp only [Act.put, gD, gE, gF]
        unfold tdV
        have G3 := hsr.obj (fun h => by omega) G2
        clear hsr
        have fz := fun k => frozen_block G3 k
        have f0 := fz 0
        have f1 := fz 1
        have f2 := fz 2
        have f3 := fz 3
        have f4 := fz 4
        have f5 := fz 5
        have cz := fun k => cell_block G3 k
        have c0 := cz 0
        have c1 := cz 1
        have c2 := cz 2
        have c3 := cz 3
        have c4 := cz 4
        have c5 := cz 5
        clear fz cz
        try simp only [gA, gB, gC] at c0 c1 c2 c3 c4 c5
        refine wpAnyW_one 12 (by kernel_rfl) (by kernel_rfl) ?_
        intro o ho K hK
        simp only [gA, gB, gC, gG] at ho
        subst ho
        go_simp
        have zz := star_put G3 (.int .i64 (tellN T n F (t.a + 1) (used ||| t.own)).many) (.int .i64 (tellN T n F (t.a + 1) (used ||| t.own)).flaws) (.int .i64 (tellN T n F (t.a + 1) (used ||| t.own)).lo) (.int .i64 (tellN T n F (t.a + 1) (used ||| t.own)).hi) (.int .u64 (tellN T n F (t.a + 1) (used ||| t.own)).some) (.int .u64 (tellN T n F (t.a + 1) (used ||| t.own)).all)
        have hput := six_steps q13 (.int .i64 (tellN T n F (t.a + 1) (used ||| t.own)).many) (.int .i64 (tellN T n F (t.a + 1) (used ||| t.own)).flaws) (.int .i64 (tellN T n F (t.a + 1) (used ||| t.own)).lo) (.int .i64 (tellN T n F (t.a + 1) (used ||| t.own)).hi) (.int .u64 (tellN T n F (t.a + 1) (used ||| t.own)).some) (.int .u64 (tellN T n F (t.a + 1) (used ||| t.own)).all) w3
        have hz : _ = some (Obj.cells (tdA (tellN T n F (t.a + 1) (used ||| t.own))) 90) := zz
        have hs := H3.trans (hput.mono (own' := fun k => k = q13 ∨ k = r) (fun _ _ h => .inl h)) (fun k hk h => by rcases h with h | h; omega; exact h)
        have hk := hkr.steps hput (fun h => by omega)
        refine hK _ _ hs (fun _ => ?_)
        clear hK K
        try simp only [Act.put, gD, gE, gF]
        refine wpAnyW_done (by kernel_rfl) ?_ _
        dsimp only [onNormal]
        exact HFIN.out _ _ _ _ _ _ _ _ _ _ _ q13 _ hqW hz hs hk
    ·
      intro o ho K hK
      simp only [gA, gB, gC, gG] at ho
      subst ho
      go_simp
      have hst := Steps.alloc (fun _ => False) w1 (.cells #[.int .i64 0, .int .i64 0, .int .i64 0, .int .i64 0, .int .u64 0, .int .u64 0] 90)
      have hnw := obj_new w1 (.cells #[.int .i64 0, .int .i64 0, .int .i64 0, .int .i64 0, .int .u64 0, .int .u64 0] 90)
      have hsz : w1.heap.size < (w1.alloc (.cells #[.int .i64 0, .int .i64 0, .int .i64 0, .int .i64 0, .int .u64 0, .int .u64 0] 90)).heap.size := by simp
      refine hK _ _ (H1.trans (hst.mono (fun _ _ h => h.elim)) (fun _ _ h => h)) (fun _ => ?_)
      clear hK K
      try simp only [Act.put, gD, gE, gF]
      obtain ⟨q13, hq13⟩ : ∃ q, w1.heap.size = q := ⟨_, rfl⟩
      generalize w1.alloc (.cells #[.int .i64 0, .int .i64 0, .int .i64 0, .int .i64 0, .int .u64 0, .int .u64 0] 90) = w2 at hst hnw hsz ⊢
      rw [hq13] at hnw hsz
      try rw [hq13]
      have hqW : W.heap.size ≤ q13 := by have := H1.size; omega
      have G2 := hnw
      have C2 : SetsAt w2 qs [used, t.own] := fun k hk => cell_apart hst (fun h => h) (C1 k hk)
      have H2 := H1.trans (hst.mono (own' := fun k => k = r) (fun _ _ h => h.elim)) (fun _ _ h => h)
      have N2 := N1.trans hst (fun _ _ h => h)
      clear hst hnw hsz
      refine wpAnyW_one 8 (by kernel_rfl) (by kernel_rfl) ?_
      intro o ho K hK
      simp only [gA, gB, gC, gG] at ho
      subst ho
      have hun := iunion_any qs [used, t.own] w2 C2 (by simp) HUB.out
      rw [show orAll [used, t.own] = used ||| t.own by simp [orAll]] at hun
      go_simp
      simp only [List.length_cons, List.length_nil, Nat.zero_add, Nat.reduceAdd] at hun
      refine ⟨trivial, rfl, CallsIn.mono (callsIn_wide.2 hun) ?_⟩
      rintro e w3 ⟨rfl, hww⟩
      rw [← hww]
      clear hww w3
      refine hK _ _ H2 (fun _ => ?_)
      clear hK K hun
      try simp only [Act.put, gD, gE, gF]
      refine wTk 9 71 ?_ ?_ ?_
      rotate_left
      · intro o h w k; (try dsimp only at k); simp only [gA, gB, gC, gG] at h; subst h; go_simp; try with_reducible rfl
      simp only [Act.put, gD, gE, gF]
      refine wpAnyW_one 10 (by kernel_rfl) (by kernel_rfl) ?_
      intro o ho K hK
      simp only [gA, gB, gC, gG] at ho
      subst ho
      have hon := HON.out w2 N2
      unfold stV at hon
      dsimp only at hon
      go_simp
      rw [HWR.out]
      refine ⟨trivial, rfl, CallsIn.mono (callsIn_wide.2 hon) ?_⟩
      rintro e w3 ⟨rfl, hsr, hkr⟩
      have H3 := H2.trans hsr (fun _ _ h => h)
      refine hK _ _ H3 (fun _ => ?_)
      clear hK K hon
      try simp only [Act.put, gD, gE, gF]
      unfold tdV
      have G3 := hsr.obj (fun h => by omega) G2
      clear hsr
      have fz := fun k => frozen_block G3 k
      have f0 := fz 0
      have f1 := fz 1
      have f2 := fz 2
      have f3 := fz 3
      have f4 := fz 4
      have f5 := fz 5
      have cz := fun k => cell_block G3 k
      have c0 := cz 0
      have c1 := cz 1
      have c2 := cz 2
      have c3 := cz 3
      have c4 := cz 4
      have c5 := cz 5
      clear fz cz
      try simp only [gA, gB, gC] at c0 c1 c2 c3 c4 c5
      refine wpAnyW_one 12 (by kernel_rfl) (by kernel_rfl) ?_
      intro o ho K hK
      simp only [gA, gB, gC, gG] at ho
      subst ho
      go_simp
      have zz := star_put G3 (.int .i64 (tellN T n F (t.a + 1) (used ||| t.own)).many) (.int .i64 (tellN T n F (t.a + 1) (used ||| t.own)).flaws) (.int .i64 (tellN T n F (t.a + 1) (used ||| t.own)).lo) (.int .i64 (tellN T n F (t.a + 1) (used ||| t.own)).hi) (.int .u64 (tellN T n F (t.a + 1) (used ||| t.own)).some) (.int .u64 (tellN T n F (t.a + 1) (used ||| t.own)).all)
      have hput := six_steps q13 (.int .i64 (tellN T n F (t.a + 1) (used ||| t.own)).many) (.int .i64 (tellN T n F (t.a + 1) (used ||| t.own)).flaws) (.int .i64 (tellN T n F (t.a + 1) (used ||| t.own)).lo) (.int .i64 (tellN T n F (t.a + 1) (used ||| t.own)).hi) (.int .u64 (tellN T n F (t.a + 1) (used ||| t.own)).some) (.int .u64 (tellN T n F (t.a + 1) (used ||| t.own)).all) w3
      have hz : _ = some (Obj.cells (tdA (tellN T n F (t.a + 1) (used ||| t.own))) 90) := zz
      have hs := H3.trans (hput.mono (own' := fun k => k = q13 ∨ k = r) (fun _ _ h => .inl h)) (fun k hk h => by rcases h with h | h; omega; exact h)
      have hk := hkr.steps hput (fun h => by omega)
      refine hK _ _ hs (fun _ => ?_)
      clear hK K
      try simp only [Act.put, gD, gE, gF]
      refine wpAnyW_done (by kernel_rfl) ?_ _
      dsimp only [onNormal]
      exact HFIN.out _ _ _ _ _ _ _ _ _ _ _ q13 _ hqW hz hs hk
  ·
    intro o ho K hK
    simp only [gA, gB, gC, gG] at ho
    subst ho
    go_simp
    have hst := Steps.alloc (fun _ => False) w0 (.cells #[.int .i64 0, .int .i64 0, .int .i64 0, .int .i64 0, .int .u64 0, .int .u64 0] 90)
    have hnw := obj_new w0 (.cells #[.int .i64 0, .int .i64 0, .int .i64 0, .int .i64 0, .int .u64 0, .int .u64 0] 90)
    have hsz : w0.heap.size < (w0.alloc (.cells #[.int .i64 0, .int .i64 0, .int .i64 0, .int .i64 0, .int .u64 0, .int .u64 0] 90)).heap.size := by simp
    refine hK _ _ (H0.trans (hst.mono (fun _ _ h => h.elim)) (fun _ _ h => h)) (fun _ => ?_)
    clear hK K
    try simp only [Act.put, gD, gE, gF]
    obtain ⟨q13, hq13⟩ : ∃ q, w0.heap.size = q := ⟨_, rfl⟩
    generalize w0.alloc (.cells #[.int .i64 0, .int .i64 0, .int .i64 0, .int .i64 0, .int .u64 0, .int .u64 0] 90) = w1 at hst hnw hsz ⊢
    rw [hq13] at hnw hsz
    try rw [hq13]
    have hqW : W.heap.size ≤ q13 := by have := H0.size; omega
    have G1 := hnw
    have H1 := H0.trans (hst.mono (own' := fun k => k = r) (fun _ _ h => h.elim)) (fun _ _ h => h)
    have N1 := N0.trans hst (fun _ _ h => h)
    clear hst hnw hsz
    refine wpAnyW_one 7 (by kernel_rfl) (by kernel_rfl) ?_
    intro o ho K hK
    simp only [gA, gB, gC, gG] at ho
    subst ho
    go_simp
    have hst := Steps.alloc (fun _ => False) w1 (.cells #[.int .u64 used, .int .u64 t.own] 88)
    have hnw := obj_new w1 (.cells #[.int .u64 used, .int .u64 t.own] 88)
    have hsz : w1.heap.size < (w1.alloc (.cells #[.int .u64 used, .int .u64 t.own] 88)).heap.size := by simp
    refine hK _ _ (H1.trans (hst.mono (fun _ _ h => h.elim)) (fun _ _ h => h)) (fun _ => ?_)
    clear hK K
    try simp only [Act.put, gD, gE, gF]
    have C2 : SetsAt (w1.alloc (.cells #[.int .u64 used, .int .u64 t.own] 88)) w1.heap.size [used, t.own] := fun k hk => by
      rcases k with _ | _ | k
      · exact cell_new _ _ _ _ _ rfl
      · exact cell_new _ _ _ _ _ rfl
      · simp at hk; omega
    obtain ⟨qs, hqs⟩ : ∃ q, w1.heap.size = q := ⟨_, rfl⟩
    generalize w1.alloc (.cells #[.int .u64 used, .int .u64 t.own] 88) = w2 at hst hnw hsz C2 ⊢
    rw [hqs] at C2
    try rw [hqs]
    have G2 := hst.obj (fun h => h) G1
    have H2 := H1.trans (hst.mono (own' := fun k => k = r) (fun _ _ h => h.elim)) (fun _ _ h => h)
    have N2 := N1.trans hst (fun _ _ h => h)
    clear hst hnw hsz
    refine wpAnyW_one 8 (by kernel_rfl) (by kernel_rfl) ?_
    intro o ho K hK
    simp only [gA, gB, gC, gG] at ho
    subst ho
    have hun := iunion_any qs [used, t.own] w2 C2 (by simp) HUB.out
    rw [show orAll [used, t.own] = used ||| t.own by simp [orAll]] at hun
    go_simp
    simp only [List.length_cons, List.length_nil, Nat.zero_add, Nat.reduceAdd] at hun
    refine ⟨trivial, rfl, CallsIn.mono (callsIn_wide.2 hun) ?_⟩
    rintro e w3 ⟨rfl, hww⟩
    rw [← hww]
    clear hww w3
    refine hK _ _ H2 (fun _ => ?_)
    clear hK K hun
    try simp only [Act.put, gD, gE, gF]
    refine wTk 9 71 ?_ ?_ ?_
    rotate_left
    · intro o h w k; (try dsimp only at k); simp only [gA, gB, gC, gG] at h; subst h; go_simp; try with_reducible rfl
    simp only [Act.put, gD, gE, gF]
    refine wpAnyW_one 10 (by kernel_rfl) (by kernel_rfl) ?_
    intro o ho K hK
    simp only [gA, gB, gC, gG] at ho
    subst ho
    have hon := HON.out w2 N2
    unfold stV at hon
    dsimp only at hon
    go_simp
    rw [HWR.out]
    refine ⟨trivial, rfl, CallsIn.mono (callsIn_wide.2 hon) ?_⟩
    rintro e w3 ⟨rfl, hsr, hkr⟩
    have H3 := H2.trans hsr (fun _ _ h => h)
    refine hK _ _ H3 (fun _ => ?_)
    clear hK K hon
    try simp only [Act.put, gD, gE, gF]
    unfold tdV
    have G3 := hsr.obj (fun h => by omega) G2
    clear hsr
    have fz := fun k => frozen_block G3 k
    have f0 := fz 0
    have f1 := fz 1
    have f2 := fz 2
    have f3 := fz 3
    have f4 := fz 4
    have f5 := fz 5
    have cz := fun k => cell_block G3 k
    have c0 := cz 0
    have c1 := cz 1
    have c2 := cz 2
    have c3 := cz 3
    have c4 := cz 4
    have c5 := cz 5
    clear fz cz
    try simp only [gA, gB, gC] at c0 c1 c2 c3 c4 c5
    refine wpAnyW_one 12 (by kernel_rfl) (by kernel_rfl) ?_
    intro o ho K hK
    simp only [gA, gB, gC, gG] at ho
    subst ho
    go_simp
    have zz := star_put G3 (.int .i64 (tellN T n F (t.a + 1) (used ||| t.own)).many) (.int .i64 (tellN T n F (t.a + 1) (used ||| t.own)).flaws) (.int .i64 (tellN T n F (t.a + 1) (used ||| t.own)).lo) (.int .i64 (tellN T n F (t.a + 1) (used ||| t.own)).hi) (.int .u64 (tellN T n F (t.a + 1) (used ||| t.own)).some) (.int .u64 (tellN T n F (t.a + 1) (used ||| t.own)).all)
    have hput := six_steps q13 (.int .i64 (tellN T n F (t.a + 1) (used ||| t.own)).many) (.int .i64 (tellN T n F (t.a + 1) (used ||| t.own)).flaws) (.int .i64 (tellN T n F (t.a + 1) (used ||| t.own)).lo) (.int .i64 (tellN T n F (t.a + 1) (used ||| t.own)).hi) (.int .u64 (tellN T n F (t.a + 1) (used ||| t.own)).some) (.int .u64 (tellN T n F (t.a + 1) (used ||| t.own)).all) w3
    have hz : _ = some (Obj.cells (tdA (tellN T n F (t.a + 1) (used ||| t.own))) 90) := zz
    have hs := H3.trans (hput.mono (own' := fun k => k = q13 ∨ k = r) (fun _ _ h => .inl h)) (fun k hk h => by rcases h with h | h; omega; exact h)
    have hk := hkr.steps hput (fun h => by omega)
    refine hK _ _ hs (fun _ => ?_)
    clear hK K
    try simp only [Act.put, gD, gE, gF]
    refine wpAnyW_done (by kernel_rfl) ?_ _
    dsimp only [onNormal]
    exact HFIN.out _ _ _ _ _ _ _ _ _ _ _ q13 _ hqW hz hs hk
end Go.Proofs.Ytacioedolmaofaa
