/- Region 17 of the reference's ways: a trail more. The reference's ways, walked. The reference: All, Count, Needs. -/
import Derived.Test.YtacioedolmaofaaLBX27
namespace Go.Proofs.Ytacioedolmaofaa
open Go.RowKit Go.Shelf
set_option maxHeartbeats 12800000
set_option maxRecDepth 100000
set_option linter.unusedSimpArgs false
set_option linter.unusedVariables false

theorem TOut.not_boxT {w : World} {base p : Nat} {v : Value} {L : List (List ITr)} {cs : Array Value} {fz : Nat × Nat} (h : TOut w base v L) (hp : w.heap[p]? = some (.cells cs 32 fz)) : v.ownBlock ≠ some p := by
  obtain ⟨xs, hown, _⟩ := h
  intro e
  rcases hown.2 with ⟨rfl, _⟩ | ⟨g, cap, cur, rfl, _, hg, _⟩
  · cases e
  · have : g = p := by simpa [Value.ownBlock] using e
    subst this
    rw [hp] at hg
    cases hg

theorem ways_reg17 (s : ISheet) (fa : Option Addr) (fc p q : Nat) (a : Option Addr) (cap base : Nat) (l : List ITr) (v : Value) (L1 L3 : List (List ITr)) (ta tb tc : Int) (wA : World) {z0 z2 z5 z6 z7 z8 z14 z15 z16 z17 z18 z19 z20 z21 z22 z23 z24 z25 z26 z27 z28 z29 z30 z31 z32 z33 z34 z35 z36 z37 z38 z39 z40 z41 z42 z43 z44 z45 z46 z47 z48 z49 z50 z51 z52 z53 z54 z55 z56 z57 z58 z59 z60 z61 z62 z63 z64 z65 z66 z67 z68 z69 z70 z71 z72 z73 z74 z75 z76 z77 z78 z79 z80 z81 z82 z94 : Value} {z83 z84 z85 z86 z87 z88 z89 z90 z91 z92 z93 : Value} (PA : wA.heap[p]? = some (.cells #[.int .i64 s.ax.lo, .int .i64 s.ax.hi, .int .i64 s.ay.lo, .int .i64 s.ay.hi, .int .i64 s.bx.lo, .int .i64 s.bx.hi, .int .i64 s.by'.lo, .int .i64 s.by'.hi, .int .i64 s.f.lo, .int .i64 s.f.hi, .int .i64 s.g.lo, .int .i64 s.g.hi, .int .i64 s.limit, .int .i64 s.flaws, .slice fa s.l.length fc] 30)) (QA : wA.heap[q]? = some (.cells #[.int .i64 ta, .int .i64 tb, .int .i64 tc] 32)) (OA : TOut wA base v L1) (HE : Hid (TEl wA base v.ownBlock l (.slice a l.length cap))) (hlen : l.length ≤ 90) (hta : 0 ≤ ta) (hta9 : ta < 9) (hbase : base ≤ wA.heap.size) (HIH : Hid (∀ a' cap' w', Below wA.heap.size wA w' → TEl w' base v.ownBlock (l ++ [⟨ta, tb, tc⟩]) (.slice a' (l.length + 1) cap') → Calls Try.prog 74 #[.agg #[.int .i64 s.ax.lo, .int .i64 s.ax.hi, .int .i64 s.ay.lo, .int .i64 s.ay.hi, .int .i64 s.bx.lo, .int .i64 s.bx.hi, .int .i64 s.by'.lo, .int .i64 s.by'.hi, .int .i64 s.f.lo, .int .i64 s.f.hi, .int .i64 s.g.lo, .int .i64 s.g.hi, .int .i64 s.limit, .int .i64 s.flaws, .slice fa s.l.length fc], .slice a' (l.length + 1) cap', .int .i64 (ta + 1), v] w' (TPost base v L3 w'))) (K : Act → World → Prop) (Q : Exit → Act → World → Prop)
    (hfin : ∀ (s83 s84 s85 s86 s87 s88 s89 s90 s91 s92 s93 : Value) (v3 : Value) (w3 : World), TOut w3 base v3 L3 → wA.grownBy w3 v.ownBlock → RowNext wA v v3 → K ⟨(z0::(.slice a l.length cap)::z2::v3::(.pointer (some ⟨p, 0, none⟩))::z5::z6::z7::z8::(.int .i64 s.l.length)::(.int .i64 ta)::(.int .i64 tb)::(.int .i64 tc)::(.pointer (some ⟨q, 0, none⟩))::z14::z15::z16::z17::z18::z19::z20::z21::z22::z23::z24::z25::z26::z27::z28::z29::z30::z31::z32::z33::z34::z35::z36::z37::z38::z39::z40::z41::z42::z43::z44::z45::z46::z47::z48::z49::z50::z51::z52::z53::z54::z55::z56::z57::z58::z59::z60::z61::z62::z63::z64::z65::z66::z67::z68::z69::z70::z71::z72::z73::z74::z75::z76::z77::z78::z79::z80::z81::z82::s83::s84::s85::s86::s87::s88::s89::s90::s91::s92::s93::z94 :: []).toArray, []⟩ w3) :
    Code.wp Try.prog ((Try.f74.body.bind (findReg 17)).getD .skip) (Exit.then K Q) ⟨(z0::(.slice a l.length cap)::z2::v::(.pointer (some ⟨p, 0, none⟩))::z5::z6::z7::z8::(.int .i64 s.l.length)::(.int .i64 ta)::(.int .i64 tb)::(.int .i64 tc)::(.pointer (some ⟨q, 0, none⟩))::z14::z15::z16::z17::z18::z19::z20::z21::z22::z23::z24::z25::z26::z27::z28::z29::z30::z31::z32::z33::z34::z35::z36::z37::z38::z39::z40::z41::z42::z43::z44::z45::z46::z47::z48::z49::z50::z51::z52::z53::z54::z55::z56::z57::z58::z59::z60::z61::z62::z63::z64::z65::z66::z67::z68::z69::z70::z71::z72::z73::z74::z75::z76::z77::z78::z79::z80::z81::z82::z83::z84::z85::z86::z87::z88::z89::z90::z91::z92::z93::z94 :: []).toArray, []⟩ wA := by
  have HFIN := Lib.hid hfin
  have ltp := (Array.getElem?_eq_some_iff.1 PA).1
  have ltq := (Array.getElem?_eq_some_iff.1 QA).1
  have hpv : v.ownBlock ≠ some p := OA.not_box PA
  have hqv : v.ownBlock ≠ some q := OA.not_boxT QA
  have HOA := Lib.hid OA
  clear OA
  have HWR : Hid (IntKind.i64.wrap (ta + 1) = ta + 1) := Lib.hid (by rw [IntKind.wrap_i64]; omega)
  have k0 : ∀ W' : World, (W'.heap[p]? = some (.cells #[.int .i64 s.ax.lo, .int .i64 s.ax.hi, .int .i64 s.ay.lo, .int .i64 s.ay.hi, .int .i64 s.bx.lo, .int .i64 s.bx.hi, .int .i64 s.by'.lo, .int .i64 s.by'.hi, .int .i64 s.f.lo, .int .i64 s.f.hi, .int .i64 s.g.lo, .int .i64 s.g.hi, .int .i64 s.limit, .int .i64 s.flaws, .slice fa s.l.length fc] 30) ∧ W'.heap[q]? = some (.cells #[.int .i64 ta, .int .i64 tb, .int .i64 tc] 32)) → W'.cell? ⟨p, 0, none⟩ = some (.int .i64 s.ax.lo) := fun W' h => cell_block h.1 0
  have k1 : ∀ W' : World, (W'.heap[p]? = some (.cells #[.int .i64 s.ax.lo, .int .i64 s.ax.hi, .int .i64 s.ay.lo, .int .i64 s.ay.hi, .int .i64 s.bx.lo, .int .i64 s.bx.hi, .int .i64 s.by'.lo, .int .i64 s.by'.hi, .int .i64 s.f.lo, .int .i64 s.f.hi, .int .i64 s.g.lo, .int .i64 s.g.hi, .int .i64 s.limit, .int .i64 s.flaws, .slice fa s.l.length fc] 30) ∧ W'.heap[q]? = some (.cells #[.int .i64 ta, .int .i64 tb, .int .i64 tc] 32)) → W'.cell? ⟨p, 1, none⟩ = some (.int .i64 s.ax.hi) := fun W' h => cell_block h.1 1
  have k2 : ∀ W' : World, (W'.heap[p]? = some (.cells #[.int .i64 s.ax.lo, .int .i64 s.ax.hi, .int .i64 s.ay.lo, .int .i64 s.ay.hi, .int .i64 s.bx.lo, .int .i64 s.bx.hi, .int .i64 s.by'.lo, .int .i64 s.by'.hi, .int .i64 s.f.lo, .int .i64 s.f.hi, .int .i64 s.g.lo, .int .i64 s.g.hi, .int .i64 s.limit, .int .i64 s.flaws, .slice fa s.l.length fc] 30) ∧ W'.heap[q]? = some (.cells #[.int .i64 ta, .int .i64 tb, .int .i64 tc] 32)) → W'.cell? ⟨p, 2, none⟩ = some (.int .i64 s.ay.lo) := fun W' h => cell_block h.1 2
  have k3 : ∀ W' : World, (W'.heap[p]? = some (.cells #[.int .i64 s.ax.lo, .int .i64 s.ax.hi, .int .i64 s.ay.lo, .int .i64 s.ay.hi, .int .i64 s.bx.lo, .int .i64 s.bx.hi, .int .i64 s.by'.lo, .int .i64 s.by'.hi, .int .i64 s.f.lo, .int .i64 s.f.hi, .int .i64 s.g.lo, .int .i64 s.g.hi, .int .i64 s.limit, .int .i64 s.flaws, .slice fa s.l.length fc] 30) ∧ W'.heap[q]? = some (.cells #[.int .i64 ta, .int .i64 tb, .int .i64 tc] 32)) → W'.cell? ⟨p, 3, none⟩ = some (.int .i64 s.ay.hi) := fun W' h => cell_block h.1 3
  have k4 : ∀ W' : World, (W'.heap[p]? = some (.cells #[.int .i64 s.ax.lo, .int .i64 s.ax.hi, .int .i64 s.ay.lo, .int .i64 s.ay.hi, .int .i64 s.bx.lo, .int .i64 s.bx.hi, .int .i64 s.by'.lo, .int .i64 s.by'.hi, .int .i64 s.f.lo, .int .i64 s.f.hi, .int .i64 s.g.lo, .int .i64 s.g.hi, .int .i64 s.limit, .int .i64 s.flaws, .slice fa s.l.length fc] 30) ∧ W'.heap[q]? = some (.cells #[.int .i64 ta, .int .i64 tb, .int .i64 tc] 32)) → W'.cell? ⟨p, 4, none⟩ = some (.int .i64 s.bx.lo) := fun W' h => cell_block h.1 4
  have k5 : ∀ W' : World, (W'.heap[p]? = some (.cells #[.int .i64 s.ax.lo, .int .i64 s.ax.hi, .int .i64 s.ay.lo, .int .i64 s.ay.hi, .int .i64 s.bx.lo, .int .i64 s.bx.hi, .int .i64 s.by'.lo, .int .i64 s.by'.hi, .int .i64 s.f.lo, .int .i64 s.f.hi, .int .i64 s.g.lo, .int .i64 s.g.hi, .int .i64 s.limit, .int .i64 s.flaws, .slice fa s.l.length fc] 30) ∧ W'.heap[q]? = some (.cells #[.int .i64 ta, .int .i64 tb, .int .i64 tc] 32)) → W'.cell? ⟨p, 5, none⟩ = some (.int .i64 s.bx.hi) := fun W' h => cell_block h.1 5
  have k6 : ∀ W' : World, (W'.heap[p]? = some (.cells #[.int .i64 s.ax.lo, .int .i64 s.ax.hi, .int .i64 s.ay.lo, .int .i64 s.ay.hi, .int .i64 s.bx.lo, .int .i64 s.bx.hi, .int .i64 s.by'.lo, .int .i64 s.by'.hi, .int .i64 s.f.lo, .int .i64 s.f.hi, .int .i64 s.g.lo, .int .i64 s.g.hi, .int .i64 s.limit, .int .i64 s.flaws, .slice fa s.l.length fc] 30) ∧ W'.heap[q]? = some (.cells #[.int .i64 ta, .int .i64 tb, .int .i64 tc] 32)) → W'.cell? ⟨p, 6, none⟩ = some (.int .i64 s.by'.lo) := fun W' h => cell_block h.1 6
  have k7 : ∀ W' : World, (W'.heap[p]? = some (.cells #[.int .i64 s.ax.lo, .int .i64 s.ax.hi, .int .i64 s.ay.lo, .int .i64 s.ay.hi, .int .i64 s.bx.lo, .int .i64 s.bx.hi, .int .i64 s.by'.lo, .int .i64 s.by'.hi, .int .i64 s.f.lo, .int .i64 s.f.hi, .int .i64 s.g.lo, .int .i64 s.g.hi, .int .i64 s.limit, .int .i64 s.flaws, .slice fa s.l.length fc] 30) ∧ W'.heap[q]? = some (.cells #[.int .i64 ta, .int .i64 tb, .int .i64 tc] 32)) → W'.cell? ⟨p, 7, none⟩ = some (.int .i64 s.by'.hi) := fun W' h => cell_block h.1 7
  have k8 : ∀ W' : World, (W'.heap[p]? = some (.cells #[.int .i64 s.ax.lo, .int .i64 s.ax.hi, .int .i64 s.ay.lo, .int .i64 s.ay.hi, .int .i64 s.bx.lo, .int .i64 s.bx.hi, .int .i64 s.by'.lo, .int .i64 s.by'.hi, .int .i64 s.f.lo, .int .i64 s.f.hi, .int .i64 s.g.lo, .int .i64 s.g.hi, .int .i64 s.limit, .int .i64 s.flaws, .slice fa s.l.length fc] 30) ∧ W'.heap[q]? = some (.cells #[.int .i64 ta, .int .i64 tb, .int .i64 tc] 32)) → W'.cell? ⟨p, 8, none⟩ = some (.int .i64 s.f.lo) := fun W' h => cell_block h.1 8
  have k9 : ∀ W' : World, (W'.heap[p]? = some (.cells #[.int .i64 s.ax.lo, .int .i64 s.ax.hi, .int .i64 s.ay.lo, .int .i64 s.ay.hi, .int .i64 s.bx.lo, .int .i64 s.bx.hi, .int .i64 s.by'.lo, .int .i64 s.by'.hi, .int .i64 s.f.lo, .int .i64 s.f.hi, .int .i64 s.g.lo, .int .i64 s.g.hi, .int .i64 s.limit, .int .i64 s.flaws, .slice fa s.l.length fc] 30) ∧ W'.heap[q]? = some (.cells #[.int .i64 ta, .int .i64 tb, .int .i64 tc] 32)) → W'.cell? ⟨p, 9, none⟩ = some (.int .i64 s.f.hi) := fun W' h => cell_block h.1 9
  have k10 : ∀ W' : World, (W'.heap[p]? = some (.cells #[.int .i64 s.ax.lo, .int .i64 s.ax.hi, .int .i64 s.ay.lo, .int .i64 s.ay.hi, .int .i64 s.bx.lo, .int .i64 s.bx.hi, .int .i64 s.by'.lo, .int .i64 s.by'.hi, .int .i64 s.f.lo, .int .i64 s.f.hi, .int .i64 s.g.lo, .int .i64 s.g.hi, .int .i64 s.limit, .int .i64 s.flaws, .slice fa s.l.length fc] 30) ∧ W'.heap[q]? = some (.cells #[.int .i64 ta, .int .i64 tb, .int .i64 tc] 32)) → W'.cell? ⟨p, 10, none⟩ = some (.int .i64 s.g.lo) := fun W' h => cell_block h.1 10
  have k11 : ∀ W' : World, (W'.heap[p]? = some (.cells #[.int .i64 s.ax.lo, .int .i64 s.ax.hi, .int .i64 s.ay.lo, .int .i64 s.ay.hi, .int .i64 s.bx.lo, .int .i64 s.bx.hi, .int .i64 s.by'.lo, .int .i64 s.by'.hi, .int .i64 s.f.lo, .int .i64 s.f.hi, .int .i64 s.g.lo, .int .i64 s.g.hi, .int .i64 s.limit, .int .i64 s.flaws, .slice fa s.l.length fc] 30) ∧ W'.heap[q]? = some (.cells #[.int .i64 ta, .int .i64 tb, .int .i64 tc] 32)) → W'.cell? ⟨p, 11, none⟩ = some (.int .i64 s.g.hi) := fun W' h => cell_block h.1 11
  have k12 : ∀ W' : World, (W'.heap[p]? = some (.cells #[.int .i64 s.ax.lo, .int .i64 s.ax.hi, .int .i64 s.ay.lo, .int .i64 s.ay.hi, .int .i64 s.bx.lo, .int .i64 s.bx.hi, .int .i64 s.by'.lo, .int .i64 s.by'.hi, .int .i64 s.f.lo, .int .i64 s.f.hi, .int .i64 s.g.lo, .int .i64 s.g.hi, .int .i64 s.limit, .int .i64 s.flaws, .slice fa s.l.length fc] 30) ∧ W'.heap[q]? = some (.cells #[.int .i64 ta, .int .i64 tb, .int .i64 tc] 32)) → W'.cell? ⟨p, 12, none⟩ = some (.int .i64 s.limit) := fun W' h => cell_block h.1 12
  have k13 : ∀ W' : World, (W'.heap[p]? = some (.cells #[.int .i64 s.ax.lo, .int .i64 s.ax.hi, .int .i64 s.ay.lo, .int .i64 s.ay.hi, .int .i64 s.bx.lo, .int .i64 s.bx.hi, .int .i64 s.by'.lo, .int .i64 s.by'.hi, .int .i64 s.f.lo, .int .i64 s.f.hi, .int .i64 s.g.lo, .int .i64 s.g.hi, .int .i64 s.limit, .int .i64 s.flaws, .slice fa s.l.length fc] 30) ∧ W'.heap[q]? = some (.cells #[.int .i64 ta, .int .i64 tb, .int .i64 tc] 32)) → W'.cell? ⟨p, 13, none⟩ = some (.int .i64 s.flaws) := fun W' h => cell_block h.1 13
  have k14 : ∀ W' : World, (W'.heap[p]? = some (.cells #[.int .i64 s.ax.lo, .int .i64 s.ax.hi, .int .i64 s.ay.lo, .int .i64 s.ay.hi, .int .i64 s.bx.lo, .int .i64 s.bx.hi, .int .i64 s.by'.lo, .int .i64 s.by'.hi, .int .i64 s.f.lo, .int .i64 s.f.hi, .int .i64 s.g.lo, .int .i64 s.g.hi, .int .i64 s.limit, .int .i64 s.flaws, .slice fa s.l.length fc] 30) ∧ W'.heap[q]? = some (.cells #[.int .i64 ta, .int .i64 tb, .int .i64 tc] 32)) → W'.cell? ⟨p, 14, none⟩ = some (.slice fa s.l.length fc) := fun W' h => cell_block h.1 14
  have e0 : ∀ W' : World, (W'.heap[p]? = some (.cells #[.int .i64 s.ax.lo, .int .i64 s.ax.hi, .int .i64 s.ay.lo, .int .i64 s.ay.hi, .int .i64 s.bx.lo, .int .i64 s.bx.hi, .int .i64 s.by'.lo, .int .i64 s.by'.hi, .int .i64 s.f.lo, .int .i64 s.f.hi, .int .i64 s.g.lo, .int .i64 s.g.hi, .int .i64 s.limit, .int .i64 s.flaws, .slice fa s.l.length fc] 30) ∧ W'.heap[q]? = some (.cells #[.int .i64 ta, .int .i64 tb, .int .i64 tc] 32)) → W'.cell? ⟨q, 0, none⟩ = some (.int .i64 ta) := fun W' h => cell_block h.2 0
  have e1 : ∀ W' : World, (W'.heap[p]? = some (.cells #[.int .i64 s.ax.lo, .int .i64 s.ax.hi, .int .i64 s.ay.lo, .int .i64 s.ay.hi, .int .i64 s.bx.lo, .int .i64 s.bx.hi, .int .i64 s.by'.lo, .int .i64 s.by'.hi, .int .i64 s.f.lo, .int .i64 s.f.hi, .int .i64 s.g.lo, .int .i64 s.g.hi, .int .i64 s.limit, .int .i64 s.flaws, .slice fa s.l.length fc] 30) ∧ W'.heap[q]? = some (.cells #[.int .i64 ta, .int .i64 tb, .int .i64 tc] 32)) → W'.cell? ⟨q, 1, none⟩ = some (.int .i64 tb) := fun W' h => cell_block h.2 1
  have e2 : ∀ W' : World, (W'.heap[p]? = some (.cells #[.int .i64 s.ax.lo, .int .i64 s.ax.hi, .int .i64 s.ay.lo, .int .i64 s.ay.hi, .int .i64 s.bx.lo, .int .i64 s.bx.hi, .int .i64 s.by'.lo, .int .i64 s.by'.hi, .int .i64 s.f.lo, .int .i64 s.f.hi, .int .i64 s.g.lo, .int .i64 s.g.hi, .int .i64 s.limit, .int .i64 s.flaws, .slice fa s.l.length fc] 30) ∧ W'.heap[q]? = some (.cells #[.int .i64 ta, .int .i64 tb, .int .i64 tc] 32)) → W'.cell? ⟨q, 2, none⟩ = some (.int .i64 tc) := fun W' h => cell_block h.2 2
  clear hfin
  conv => arg 2; whnf
  refine (wpIn_wide (n := 1)).1 ?_
  refine wpIn_region_Wn (S := fun W' => W'.heap[p]? = some (.cells #[.int .i64 s.ax.lo, .int .i64 s.ax.hi, .int .i64 s.ay.lo, .int .i64 s.ay.hi, .int .i64 s.bx.lo, .int .i64 s.bx.hi, .int .i64 s.by'.lo, .int .i64 s.by'.hi, .int .i64 s.f.lo, .int .i64 s.f.hi, .int .i64 s.g.lo, .int .i64 s.g.hi, .int .i64 s.limit, .int .i64 s.flaws, .slice fa s.l.length fc] 30) ∧ W'.heap[q]? = some (.cells #[.int .i64 ta, .int .i64 tb, .int .i64 tc] 32)) 12 (by kernel_rfl) (by kernel_rfl) ⟨PA, QA⟩ (fun hHeld => ?_)
  refine wTk 0 83 ?_ ?_ ?_
  rotate_left
  · intro o h w k; (try dsimp only at k); simp only [gA, gB, gC, gG] at h; subst h; go_simp; try with_reducible rfl
  simp only [Act.put, gD, gE, gF]
  refine wTk 2 85 ?_ ?_ ?_
  rotate_left
  · intro o h w k; (try dsimp only at k); simp only [gA, gB, gC, gG] at h; subst h; go_simp; try with_reducible rfl
  simp only [Act.put, gD, gE, gF]
  refine wTk 4 87 ?_ ?_ ?_
  rotate_left
  · intro o h w k; (try dsimp only at k); simp only [gA, gB, gC, gG] at h; subst h; go_simp; try with_reducible rfl
  simp only [Act.put, gD, gE, gF]
  refine wTk 7 90 ?_ ?_ ?_
  rotate_left
  · intro o h w k; (try dsimp only at k); simp only [gA, gB, gC, gG] at h; subst h; go_simp; try with_reducible rfl
  simp only [Act.put, gD, gE, gF]
  refine wTk 8 91 ?_ ?_ ?_
  rotate_left
  · intro o h w k; (try dsimp only at k); simp only [gA, gB, gC, gG] at h; subst h; go_simp; try with_reducible rfl
  simp only [Act.put, gD, gE, gF]
  refine wTk 9 92 ?_ ?_ ?_
  rotate_left
  · intro o h w k; (try dsimp only at k); simp only [gA, gB, gC, gG] at h; subst h; go_simp; try with_reducible rfl
  simp only [Act.put, gD, gE, gF]
  clear k0 k1 k2 k3 k4 k5 k6 k7 k8 k9 k10 k11 k12 k13 k14 e0 e1 e2 hHeld
  have H0 := below_drew wA
  generalize wA.drew = wD at H0 ⊢
  refine wpAnyW_two 1 5 (by kernel_rfl) ⟨by kernel_rfl, by kernel_rfl⟩ ?_ ?_
  · intro o ho K hK
    simp only [gA, gB, gC, gG] at ho
    subst ho
    go_simp
    have Q1 := obj_new wD (.cells #[] 32)
    have H1 := H0.trans ((below_alloc wD (.cells #[] 32)).mono H0.size)
    have hq0 := H0.size
    refine hK _ _ ⟨(H1.block p ltp).trans PA, (H1.block q ltq).trans QA⟩ (fun _ => ?_)
    clear hK K
    try simp only [Act.put, gD, gE, gF]
    obtain ⟨r, hr⟩ : ∃ r, wD.heap.size = r := ⟨_, rfl⟩
    rw [hr] at Q1 hq0 ⊢
    clear hr
    generalize (wD.alloc (.cells #[] 32)) = w1 at Q1 H1 ⊢
    refine wpAnyW_two 3 5 (by kernel_rfl) ⟨by kernel_rfl, by kernel_rfl⟩ ?_ ?_
    · obtain ⟨v2, w2, hrun, O2, g2, nn2, _⟩ := copyTrs w1 r Q1 a cap l (by omega) (HE.out.src H1)
      have H2 := H1.grown g2 H1.size (fun k hk => by cases hk; exact hq0)
      have hqs2 : r ≤ w2.heap.size := Nat.le_trans (Nat.le_of_lt (Array.getElem?_eq_some_iff.1 Q1).1) g2.size
      intro o ho K hK
      simp only [gA, gB, gC, gG] at ho
      subst ho
      refine wpIn_append' (.tmp 84) (.tmp 85) 41 _ _ _ rfl rfl rfl hrun ?_
      refine hK _ _ ⟨(H2.block p ltp).trans PA, (H2.block q ltq).trans QA⟩ (fun _ => ?_)
      clear hK K
      try simp only [Act.put, gD, gE, gF]
      clear hrun
      refine wpAnyW_one 5 (by kernel_rfl) (by kernel_rfl) ?_
      intro o ho K hK
      simp only [gA, gB, gC, gG] at ho
      subst ho
      go_simp
      have M3 : ∀ j u, (trCells ⟨ta, tb, tc⟩)[j]? = some u → (w2.alloc (.cells #[.int .i64 ta, .int .i64 tb, .int .i64 tc] 32)).cell? ⟨w2.heap.size, j, none⟩ = some u := fun j u h => cell_new _ _ _ j _ (by rw [← h]; unfold trCells; simp)
      have H3 := H2.trans ((below_alloc w2 (.cells #[.int .i64 ta, .int .i64 tb, .int .i64 tc] 32)).mono H2.size)
      have O3 := O2.alloc (.cells #[.int .i64 ta, .int .i64 tb, .int .i64 tc] 32)
      have hqs3 : r ≤ (w2.alloc (.cells #[.int .i64 ta, .int .i64 tb, .int .i64 tc] 32)).heap.size := by rw [World.size_alloc]; omega
      refine hK _ _ ⟨(H3.block p ltp).trans PA, (H3.block q ltq).trans QA⟩ (fun _ => ?_)
      clear hK K
      try simp only [Act.put, gD, gE, gF]
      obtain ⟨m, hm⟩ : ∃ m, w2.heap.size = m := ⟨_, rfl⟩
      rw [hm] at M3 ⊢
      clear hm
      generalize (w2.alloc (.cells #[.int .i64 ta, .int .i64 tb, .int .i64 tc] 32)) = w3 at M3 H3 O3 hqs3 ⊢
      obtain ⟨g, cap2, w4, hrun, hqg, I4, g4⟩ := appendTr w3 r v2 l (by omega) O3 ⟨ta, tb, tc⟩ m 1 M3 hqs3
      have H4 := H3.grown g4 H3.size (fun k hk => Nat.le_trans hq0 (O3.lt k hk).1)
      refine wpAnyW_one 6 (by kernel_rfl) (by kernel_rfl) ?_
      intro o ho K hK
      simp only [gA, gB, gC, gG] at ho
      subst ho
      refine wpIn_append' (.tmp 86) (.tmp 88) 41 _ _ _ rfl rfl rfl hrun ?_
      refine hK _ _ ⟨(H4.block p ltp).trans PA, (H4.block q ltq).trans QA⟩ (fun _ => ?_)
      clear hK K
      try simp only [Act.put, gD, gE, gF]
      clear hrun
      refine wpAnyW_one 10 (by kernel_rfl) (by kernel_rfl) ?_
      intro o ho K hK
      simp only [gA, gB, gC, gG] at ho
      subst ho
      go_simp
      rw [HWR.out]
      refine ⟨trivial, CallsIn.mono (callsIn_wide.2 (HIH.out (some ⟨g, 0, none⟩) cap2 w4 H4 ⟨_, _, by rw [List.length_append]; rfl, .inr ⟨g, rfl, I4, by omega, fun e => by have := HOA.out.blk_lt e; omega⟩⟩)) ?_⟩
      rintro e w9 ⟨v3, rfl, O9, g9, N9⟩
      have P9 := (g9.block p (Nat.lt_of_lt_of_le ltp H4.size) (fun e => hpv e.symm)).trans ((H4.block p ltp).trans PA)
      have Q9 := (g9.block q (Nat.lt_of_lt_of_le ltq H4.size) (fun e => hqv e.symm)).trans ((H4.block q ltq).trans QA)
      have G9 := grown_trans (Below.grownB H4 v.ownBlock) g9 (.inl rfl)
      have N9' : RowNext wA v v3 := RowNext.trans (.inl rfl) N9 H4.size
      refine hK _ _ ⟨P9, Q9⟩ (fun hH => ?_)
      clear hK K
      try simp only [Act.put, gD, gE, gF]
      refine wTk 11 3 ?_ ?_ ?_
      rotate_left
      · intro o h w k; (try dsimp only at k); simp only [gA, gB, gC, gG] at h; subst h; go_simp; try with_reducible rfl
      simp only [Act.put, gD, gE, gF]
      refine wpAnyW_done (by kernel_rfl) ?_ _
      dsimp only [onNormal]
      exact HFIN.out _ _ _ _ _ _ _ _ _ _ _ v3 w9 O9 G9 N9'
    · intro o ho K hK
      simp only [gA, gB, gC, gG] at ho
      subst ho
      go_simp
      have M2 : ∀ j u, (trCells ⟨ta, tb, tc⟩)[j]? = some u → (w1.alloc (.cells #[.int .i64 ta, .int .i64 tb, .int .i64 tc] 32)).cell? ⟨w1.heap.size, j, none⟩ = some u := fun j u h => cell_new _ _ _ j _ (by rw [← h]; unfold trCells; simp)
      have H2 := H1.trans ((below_alloc w1 (.cells #[.int .i64 ta, .int .i64 tb, .int .i64 tc] 32)).mono H1.size)
      have Q2 := obj_later (below_alloc w1 (.cells #[.int .i64 ta, .int .i64 tb, .int .i64 tc] 32)) Q1
      have hmq := (Array.getElem?_eq_some_iff.1 Q1).1
      refine hK _ _ ⟨(H2.block p ltp).trans PA, (H2.block q ltq).trans QA⟩ (fun _ => ?_)
      clear hK K
      try simp only [Act.put, gD, gE, gF]
      obtain ⟨m, hm⟩ : ∃ m, w1.heap.size = m := ⟨_, rfl⟩
      rw [hm] at M2 hmq ⊢
      clear hm
      generalize (w1.alloc (.cells #[.int .i64 ta, .int .i64 tb, .int .i64 tc] 32)) = w2 at M2 H2 Q2 ⊢
      obtain ⟨v2, w3, hrun, O3, g3, nn2, _⟩ := copyTrs w2 r Q2 a cap l (by omega) (HE.out.src H2)
      have H3 := H2.grown g3 H2.size (fun k hk => by cases hk; exact hq0)
      have hqs3 : r ≤ w3.heap.size := Nat.le_trans (Nat.le_of_lt (Array.getElem?_eq_some_iff.1 Q2).1) g3.size
      have M3 : ∀ j u, (trCells ⟨ta, tb, tc⟩)[j]? = some u → w3.cell? ⟨m, j, none⟩ = some u := fun j u h => g3.cell (M2 j u h) (fun e => by have e2 : m = r := Option.some.inj e; omega)
      refine wpAnyW_one 3 (by kernel_rfl) (by kernel_rfl) ?_
      intro o ho K hK
      simp only [gA, gB, gC, gG] at ho
      subst ho
      refine wpIn_append' (.tmp 84) (.tmp 85) 41 _ _ _ rfl rfl rfl hrun ?_
      refine hK _ _ ⟨(H3.block p ltp).trans PA, (H3.block q ltq).trans QA⟩ (fun _ => ?_)
      clear hK K
      try simp only [Act.put, gD, gE, gF]
      clear hrun
      obtain ⟨g, cap2, w4, hrun, hqg, I4, g4⟩ := appendTr w3 r v2 l (by omega) O3 ⟨ta, tb, tc⟩ m 1 M3 hqs3
      have H4 := H3.grown g4 H3.size (fun k hk => Nat.le_trans hq0 (O3.lt k hk).1)
      refine wpAnyW_one 6 (by kernel_rfl) (by kernel_rfl) ?_
      intro o ho K hK
      simp only [gA, gB, gC, gG] at ho
      subst ho
      refine wpIn_append' (.tmp 86) (.tmp 88) 41 _ _ _ rfl rfl rfl hrun ?_
      refine hK _ _ ⟨(H4.block p ltp).trans PA, (H4.block q ltq).trans QA⟩ (fun _ => ?_)
      clear hK K
      try simp only [Act.put, gD, gE, gF]
      clear hrun
      refine wpAnyW_one 10 (by kernel_rfl) (by kernel_rfl) ?_
      intro o ho K hK
      simp only [gA, gB, gC, gG] at ho
      subst ho
      go_simp
      rw [HWR.out]
      refine ⟨trivial, CallsIn.mono (callsIn_wide.2 (HIH.out (some ⟨g, 0, none⟩) cap2 w4 H4 ⟨_, _, by rw [List.length_append]; rfl, .inr ⟨g, rfl, I4, by omega, fun e => by have := HOA.out.blk_lt e; omega⟩⟩)) ?_⟩
      rintro e w9 ⟨v3, rfl, O9, g9, N9⟩
      have P9 := (g9.block p (Nat.lt_of_lt_of_le ltp H4.size) (fun e => hpv e.symm)).trans ((H4.block p ltp).trans PA)
      have Q9 := (g9.block q (Nat.lt_of_lt_of_le ltq H4.size) (fun e => hqv e.symm)).trans ((H4.block q ltq).trans QA)
      have G9 := grown_trans (Below.grownB H4 v.ownBlock) g9 (.inl rfl)
      have N9' : RowNext wA v v3 := RowNext.trans (.inl rfl) N9 H4.size
      refine hK _ _ ⟨P9, Q9⟩ (fun hH => ?_)
      clear hK K
      try simp only [Act.put, gD, gE, gF]
      refine wTk 11 3 ?_ ?_ ?_
      rotate_left
      · intro o h w k; (try dsimp only at k); simp only [gA, gB, gC, gG] at h; subst h; go_simp; try with_reducible rfl
      simp only [Act.put, gD, gE, gF]
      refine wpAnyW_done (by kernel_rfl) ?_ _
      dsimp only [onNormal]
      exact HFIN.out _ _ _ _ _ _ _ _ _ _ _ v3 w9 O9 G9 N9'
  · intro o ho K hK
    simp only [gA, gB, gC, gG] at ho
    subst ho
    go_simp
    have M1 : ∀ j u, (trCells ⟨ta, tb, tc⟩)[j]? = some u → (wD.alloc (.cells #[.int .i64 ta, .int .i64 tb, .int .i64 tc] 32)).cell? ⟨wD.heap.size, j, none⟩ = some u := fun j u h => cell_new _ _ _ j _ (by rw [← h]; unfold trCells; simp)
    have H1 := H0.trans ((below_alloc wD (.cells #[.int .i64 ta, .int .i64 tb, .int .i64 tc] 32)).mono H0.size)
    refine hK _ _ ⟨(H1.block p ltp).trans PA, (H1.block q ltq).trans QA⟩ (fun _ => ?_)
    clear hK K
    try simp only [Act.put, gD, gE, gF]
    obtain ⟨m, hm⟩ : ∃ m, wD.heap.size = m := ⟨_, rfl⟩
    rw [hm] at M1 ⊢
    clear hm
    generalize (wD.alloc (.cells #[.int .i64 ta, .int .i64 tb, .int .i64 tc] 32)) = w1 at M1 H1 ⊢
    refine wpAnyW_one 1 (by kernel_rfl) (by kernel_rfl) ?_
    intro o ho K hK
    simp only [gA, gB, gC, gG] at ho
    subst ho
    go_simp
    have Q2 := obj_new w1 (.cells #[] 32)
    have H2 := H1.trans ((below_alloc w1 (.cells #[] 32)).mono H1.size)
    have hq0 := H1.size
    have M2 : ∀ j u, (trCells ⟨ta, tb, tc⟩)[j]? = some u → (w1.alloc (.cells #[] 32)).cell? ⟨m, j, none⟩ = some u := fun j u h => cell_later (below_alloc w1 (.cells #[] 32)) (M1 j u h)
    have hmq : m < w1.heap.size := World.block_lt_of_cell? _ _ (M1 0 _ rfl)
    refine hK _ _ ⟨(H2.block p ltp).trans PA, (H2.block q ltq).trans QA⟩ (fun _ => ?_)
    clear hK K
    try simp only [Act.put, gD, gE, gF]
    obtain ⟨r, hr⟩ : ∃ r, w1.heap.size = r := ⟨_, rfl⟩
    rw [hr] at Q2 hq0 hmq ⊢
    clear hr
    generalize (w1.alloc (.cells #[] 32)) = w2 at Q2 H2 M2 ⊢
    obtain ⟨v2, w3, hrun, O3, g3, nn2, _⟩ := copyTrs w2 r Q2 a cap l (by omega) (HE.out.src H2)
    have H3 := H2.grown g3 H2.size (fun k hk => by cases hk; exact hq0)
    have hqs3 : r ≤ w3.heap.size := Nat.le_trans (Nat.le_of_lt (Array.getElem?_eq_some_iff.1 Q2).1) g3.size
    have M3 : ∀ j u, (trCells ⟨ta, tb, tc⟩)[j]? = some u → w3.cell? ⟨m, j, none⟩ = some u := fun j u h => g3.cell (M2 j u h) (fun e => by have e2 : m = r := Option.some.inj e; omega)
    refine wpAnyW_one 3 (by kernel_rfl) (by kernel_rfl) ?_
    intro o ho K hK
    simp only [gA, gB, gC, gG] at ho
    subst ho
    refine wpIn_append' (.tmp 84) (.tmp 85) 41 _ _ _ rfl rfl rfl hrun ?_
    refine hK _ _ ⟨(H3.block p ltp).trans PA, (H3.block q ltq).trans QA⟩ (fun _ => ?_)
    clear hK K
    try simp only [Act.put, gD, gE, gF]
    clear hrun
    obtain ⟨g, cap2, w4, hrun, hqg, I4, g4⟩ := appendTr w3 r v2 l (by omega) O3 ⟨ta, tb, tc⟩ m 1 M3 hqs3
    have H4 := H3.grown g4 H3.size (fun k hk => Nat.le_trans hq0 (O3.lt k hk).1)
    refine wpAnyW_one 6 (by kernel_rfl) (by kernel_rfl) ?_
    intro o ho K hK
    simp only [gA, gB, gC, gG] at ho
    subst ho
    refine wpIn_append' (.tmp 86) (.tmp 88) 41 _ _ _ rfl rfl rfl hrun ?_
    refine hK _ _ ⟨(H4.block p ltp).trans PA, (H4.block q ltq).trans QA⟩ (fun _ => ?_)
    clear hK K
    try simp only [Act.put, gD, gE, gF]
    clear hrun
    refine wpAnyW_one 10 (by kernel_rfl) (by kernel_rfl) ?_
    intro o ho K hK
    simp only [gA, gB, gC, gG] at ho
    subst ho
    go_simp
    rw [HWR.out]
    refine ⟨trivial, CallsIn.mono (callsIn_wide.2 (HIH.out (some ⟨g, 0, none⟩) cap2 w4 H4 ⟨_, _, by rw [List.length_append]; rfl, .inr ⟨g, rfl, I4, by omega, fun e => by have := HOA.out.blk_lt e; omega⟩⟩)) ?_⟩
    rintro e w9 ⟨v3, rfl, O9, g9, N9⟩
    have P9 := (g9.block p (Nat.lt_of_lt_of_le ltp H4.size) (fun e => hpv e.symm)).trans ((H4.block p ltp).trans PA)
    have Q9 := (g9.block q (Nat.lt_of_lt_of_le ltq H4.size) (fun e => hqv e.symm)).trans ((H4.block q ltq).trans QA)
    have G9 := grown_trans (Below.grownB H4 v.ownBlock) g9 (.inl rfl)
    have N9' : RowNext wA v v3 := RowNext.trans (.inl rfl) N9 H4.size
    refine hK _ _ ⟨P9, Q9⟩ (fun hH => ?_)
    clear hK K
    try simp only [Act.put, gD, gE, gF]
    refine wTk 11 3 ?_ ?_ ?_
    rotate_left
    · intro o h w k; (try dsimp only at k); simp only [gA, gB, gC, gG] at h; subst h; go_simp; try with_reducible rfl
    simp only [Act.put, gD, gE, gF]
    refine wpAnyW_done (by kernel_rfl) ?_ _
    dsimp only [onNormal]
    exact HFIN.out _ _ _ _ _ _ _ _ _ _ _ v3 w9 O9 G9 N9'
end Go.Proofs.Ytacioedolmaofaa
namespace Go.Proofs.Ytacioedolmaofaa
open Go.RowKit Go.Shelf
set_option maxHeartbeats 12800000
set_option maxRecDepth 100000
set_option linter.unusedSimpArgs false
set_option linter.unusedVariables false

/-- What stands while ways are gathered. -/
def WStage (base : Nat) (W0 : World) (v : Value) (L : List (List ITr)) (u : Value) (wr : World) : Prop := TOut wr base u L ∧ W0.grownBy wr v.ownBlock ∧ RowNext W0 v u
theorem WStage.below {base : Nat} {W0 wr w3 : World} {v u : Value} {L : List (List ITr)} (h : WStage base W0 v L u wr) (hb : Below wr.heap.size wr w3) : WStage base W0 v L u w3 :=
  ⟨h.1.grown (Below.grownB hb none) (fun q e => by cases e), h.2.1.below3 hb, h.2.2⟩
theorem WStage.next {base : Nat} {W0 wr w5 : World} {v u v5 : Value} {L L5 : List (List ITr)} (h : WStage base W0 v L u wr) (ho : TOut w5 base v5 L5) (hg : wr.grownBy w5 u.ownBlock) (hn : RowNext wr u v5) : WStage base W0 v L5 v5 w5 :=
  ⟨ho, grown_trans h.2.1 hg h.2.2, RowNext.trans h.2.2 hn h.2.1.size⟩
/-- What holds of the call at each stage. -/
structure WHeld (s : ISheet) (fa : Option Addr) (fc p base : Nat) (w0 : World) (a : Option Addr) (cap : Nat) (l : List ITr) (u : Value) (wr : World) : Prop where
  box : wr.heap[p]? = some (.cells #[.int .i64 s.ax.lo, .int .i64 s.ax.hi, .int .i64 s.ay.lo, .int .i64 s.ay.hi, .int .i64 s.bx.lo, .int .i64 s.bx.hi, .int .i64 s.by'.lo, .int .i64 s.by'.hi, .int .i64 s.f.lo, .int .i64 s.f.hi, .int .i64 s.g.lo, .int .i64 s.g.hi, .int .i64 s.limit, .int .i64 s.flaws, .slice fa s.l.length fc] 30)
  el : TEl wr base u.ownBlock l (.slice a l.length cap)
  low : Below w0.heap.size w0 wr
  base : base ≤ wr.heap.size
theorem WHeld.later {s : ISheet} {fa : Option Addr} {fc p base : Nat} {w0 : World} {a : Option Addr} {cap : Nat} {l : List ITr} {u : Value} {wr w3 : World} (h : WHeld s fa fc p base w0 a cap l u wr) (hb : Below wr.heap.size wr w3) : WHeld s fa fc p base w0 a cap l u w3 :=
  ⟨obj_later hb h.box, h.el.grown (Below.grownB hb _) (.inl rfl), h.low.trans (hb.mono h.low.size), Nat.le_trans h.base hb.size⟩
theorem WStage.held {s : ISheet} {fa : Option Addr} {fc p base : Nat} {w0 W0 : World} {a : Option Addr} {cap : Nat} {l : List ITr} {v u : Value} {wr : World} {L0 L : List (List ITr)} (h : WStage base W0 v L u wr) (hO : TOut W0 base v L0) (h0 : WHeld s fa fc p base w0 a cap l v W0) (hb0 : w0.heap.size ≤ base) : WHeld s fa fc p base w0 a cap l u wr := by
  obtain ⟨ho, hg, hn⟩ := h
  have ltp := (Array.getElem?_eq_some_iff.1 h0.box).1
  exact ⟨(hg.block p ltp (fun e => hO.not_box h0.box e.symm)).trans h0.box, h0.el.grown hg hn, h0.low.grown hg h0.low.size (fun q hq => Nat.le_trans hb0 (hO.blk_ge hq)), Nat.le_trans h0.base hg.size⟩

theorem wayC_fold (s : ISheet) (F : Int) (l : List ITr) (fr : Int) (k kb kc : Nat) (X : List (List ITr)) : X ++ (wC s F l k ((kb : Int) - 1) kc ++ wStep s F l ⟨(k : Int), (kb : Int) - 1, (kc : Int) - 1⟩) = X ++ wC s F l k ((kb : Int) - 1) (kc + 1) := by rw [wC_succ]

theorem ways_step (s : ISheet) (fa : Option Addr) (fc : Nat) (hok : s.ok = true) (base : Nat) (w0 : World) (him : ImSl w0 fa s.l) (hb0 : w0.heap.size ≤ base)
    (fr : Nat) (hfr : fr ≤ s.l.length) (l : List ITr) (hwf : ∀ t ∈ l, t.wf s.l.length) (hll : l.length ≤ fr) (a : Option Addr) (cap : Nat) (v : Value) (L : List (List ITr)) (w : World) (hw : Below w0.heap.size w0 w) (hO : TOut w base v L) (hlen : L.length + (wR s s.flaws l fr).length ≤ 1000000000000) (hE : TEl w base v.ownBlock l (.slice a l.length cap)) (hbase : base ≤ w.heap.size)
    (hon : ∀ (t : ITr) (a' : Option Addr) (cap' : Nat) (v' : Value) (L' : List (List ITr)) (w' : World), t.ok s.l.length = true → fr ≤ t.a → Below w0.heap.size w0 w' → TOut w' base v' L' → L'.length + (wR s s.flaws (l ++ [t]) (t.a + 1)).length ≤ 1000000000000 → TEl w' base v'.ownBlock (l ++ [t]) (.slice a' (l.length + 1) cap') → base ≤ w'.heap.size →
      Calls Try.prog 74 #[.agg #[.int .i64 s.ax.lo, .int .i64 s.ax.hi, .int .i64 s.ay.lo, .int .i64 s.ay.hi, .int .i64 s.bx.lo, .int .i64 s.bx.hi, .int .i64 s.by'.lo, .int .i64 s.by'.hi, .int .i64 s.f.lo, .int .i64 s.f.hi, .int .i64 s.g.lo, .int .i64 s.g.hi, .int .i64 s.limit, .int .i64 s.flaws, .slice fa s.l.length fc], .slice a' (l.length + 1) cap', .int .i64 (t.a + 1), v'] w' (TPost base v' (L' ++ wR s s.flaws (l ++ [t]) (t.a + 1)) w')) :
    Calls Try.prog 74 #[.agg #[.int .i64 s.ax.lo, .int .i64 s.ax.hi, .int .i64 s.ay.lo, .int .i64 s.ay.hi, .int .i64 s.bx.lo, .int .i64 s.bx.hi, .int .i64 s.by'.lo, .int .i64 s.by'.hi, .int .i64 s.f.lo, .int .i64 s.f.hi, .int .i64 s.g.lo, .int .i64 s.g.hi, .int .i64 s.limit, .int .i64 s.flaws, .slice fa s.l.length fc], .slice a l.length cap, .int .i64 fr, v] w (TPost base v (L ++ wR s s.flaws l fr) w) := by
  have hn9 : s.l.length ≤ 9 := ((iok_iff s).1 hok).2.2.2.2.2.2.2.2.2
  have hni : (s.l.length : Int) ≤ 9 := by omega
  have hl100 : l.length ≤ 90 := by omega
  have HOK := Lib.hid hok
  have HIM := Lib.hid him
  have HON := Lib.hid hon
  have HN : Hid (∀ (k kb kc : Nat), fr ≤ k → k < s.l.length → kb < s.l.length + 1 → kc < s.l.length + 1 → (L ++ wLeaf s s.flaws l ++ wA s s.flaws l fr k ++ wB s s.flaws l k kb ++ wC s s.flaws l k ((kb : Int) - 1) kc).length + (wStep s s.flaws l ⟨(k : Int), (kb : Int) - 1, (kc : Int) - 1⟩).length ≤ 1000000000000) := Lib.hid (fun k kb kc h1 h2 h3 h4 => by
    have := w_next s s.flaws l hn9 hwf fr k kb kc (by omega) h2 h3 h4
    simp only [List.length_append] at this ⊢
    omega)
  have HR : Hid (L ++ wR s s.flaws l fr = L ++ wLeaf s s.flaws l ++ wA s s.flaws l fr s.l.length) := Lib.hid (by rw [wR_eq s s.flaws l hn9 hwf, List.append_assoc])
  have hLn : L.length ≤ 1000000000000 := by omega
  have HLN := Lib.hid hLn
  have HO := Lib.hid hO
  have HE := Lib.hid hE
  have HW := Lib.hid hw
  clear hok him hon hlen hO hE hw hwf hLn
  go_enter Try.func74, Try.ntmps74
  go_upto_region 1 with fail
  have hO1 := HO.out.alloc (.cells #[.int .i64 s.ax.lo, .int .i64 s.ax.hi, .int .i64 s.ay.lo, .int .i64 s.ay.hi, .int .i64 s.bx.lo, .int .i64 s.bx.hi, .int .i64 s.by'.lo, .int .i64 s.by'.hi, .int .i64 s.f.lo, .int .i64 s.f.hi, .int .i64 s.g.lo, .int .i64 s.g.hi, .int .i64 s.limit, .int .i64 s.flaws, .slice fa s.l.length fc] 30)
  have hE1 := HE.out.alloc (.cells #[.int .i64 s.ax.lo, .int .i64 s.ax.hi, .int .i64 s.ay.lo, .int .i64 s.ay.hi, .int .i64 s.bx.lo, .int .i64 s.bx.hi, .int .i64 s.by'.lo, .int .i64 s.by'.hi, .int .i64 s.f.lo, .int .i64 s.f.hi, .int .i64 s.g.lo, .int .i64 s.g.hi, .int .i64 s.limit, .int .i64 s.flaws, .slice fa s.l.length fc] 30)
  have hg1 := World.grownBy_alloc w (.cells #[.int .i64 s.ax.lo, .int .i64 s.ax.hi, .int .i64 s.ay.lo, .int .i64 s.ay.hi, .int .i64 s.bx.lo, .int .i64 s.bx.hi, .int .i64 s.by'.lo, .int .i64 s.by'.hi, .int .i64 s.f.lo, .int .i64 s.f.hi, .int .i64 s.g.lo, .int .i64 s.g.hi, .int .i64 s.limit, .int .i64 s.flaws, .slice fa s.l.length fc] 30) v.ownBlock
  have hb1 := below_alloc w (.cells #[.int .i64 s.ax.lo, .int .i64 s.ax.hi, .int .i64 s.ay.lo, .int .i64 s.ay.hi, .int .i64 s.bx.lo, .int .i64 s.bx.hi, .int .i64 s.by'.lo, .int .i64 s.by'.hi, .int .i64 s.f.lo, .int .i64 s.f.hi, .int .i64 s.g.lo, .int .i64 s.g.hi, .int .i64 s.limit, .int .i64 s.flaws, .slice fa s.l.length fc] 30)
  have PA := obj_new w (.cells #[.int .i64 s.ax.lo, .int .i64 s.ax.hi, .int .i64 s.ay.lo, .int .i64 s.ay.hi, .int .i64 s.bx.lo, .int .i64 s.bx.hi, .int .i64 s.by'.lo, .int .i64 s.by'.hi, .int .i64 s.f.lo, .int .i64 s.f.hi, .int .i64 s.g.lo, .int .i64 s.g.hi, .int .i64 s.limit, .int .i64 s.flaws, .slice fa s.l.length fc] 30)
  generalize w.alloc (.cells #[.int .i64 s.ax.lo, .int .i64 s.ax.hi, .int .i64 s.ay.lo, .int .i64 s.ay.hi, .int .i64 s.bx.lo, .int .i64 s.bx.hi, .int .i64 s.by'.lo, .int .i64 s.by'.hi, .int .i64 s.f.lo, .int .i64 s.f.hi, .int .i64 s.g.lo, .int .i64 s.g.hi, .int .i64 s.limit, .int .i64 s.flaws, .slice fa s.l.length fc] 30) = W0 at hO1 hE1 hg1 hb1 PA ⊢
  obtain ⟨p, hp⟩ : ∃ p, w.heap.size = p := ⟨_, rfl⟩
  rw [hp] at PA ⊢
  have HH0 : Hid (WHeld s fa fc p base w0 a cap l v W0) := Lib.hid ⟨PA, hE1, HW.out.trans (hb1.mono HW.out.size), Nat.le_trans hbase hb1.size⟩
  have HO1 := Lib.hid hO1
  have HG1 := Lib.hid hg1
  clear hO1 hE1 hg1 hp hb1 hbase HO HE HW
  refine ways_reg1 s fa fc p a cap l v W0 PA HH0.out.el.sl.1 (by omega) hn9 _ _ ?_
  intro s16 s17 s18 s19 s20 w1 hb1
  have hS1 : WStage base W0 v L v w1 := WStage.below ⟨HO1.out, grownRefl _ _, .inl rfl⟩ hb1
  clear PA hb1
  go_upto_if 21 with fail
  go_cut [3] (fun u3 wx => WStage base W0 v (L ++ wLeaf s s.flaws l) u3 wx)
  case first =>
    by_cases hfl : (flawN l s.l.length : Int) ≤ s.flaws
    · have HF := Lib.hid hfl
      obtain ⟨v', w', hrun, hT, hgr, hnx⟩ := TOut.append (w1.alloc (.cells #[.slice a l.length cap] 41)) base v L (hS1.1.alloc _) l (.slice a l.length cap) ((HH0.out.el.grown hS1.2.1 hS1.2.2).alloc _) w1.heap.size 1 (cell_new _ _ _ 0 _ rfl) HLN.out (by rw [World.size_alloc]; have := HH0.out.base; have := hS1.2.1.size; omega)
      have hfin : WStage base W0 v (L ++ wLeaf s s.flaws l) v' w' := by
        have e : wLeaf s s.flaws l = [l] := by unfold wLeaf; rw [if_pos HF.out]
        rw [e]
        exact WStage.next (hS1.below (below_alloc w1 _)) hT hgr hnx
      have HFI := Lib.hid hfin
      clear hfin hT hgr hnx
      go_wp2_with (at_builtin; refine wpList_plain rfl fun K hK => ?_; unfold Oper.wp; simp [execOp, resolve, invoke, builtin, hrun, Result.andThen, Act.eval]; refine hK _ _ ?_; clear hK)
      go_meet
      exact HFI.out
    · have HF := Lib.hid hfl
      go_wp2_with fail
      go_meet
      have e : wLeaf s s.flaws l = [] := by unfold wLeaf; rw [if_neg (by have := HF.out; omega)]
      rw [e, List.append_nil]
      exact hS1
  case rest =>
    have HS := Lib.hid hcut
    have hHc := Lib.hid (hcut.held HO1.out HH0.out hb0)
    have ct := cell_block hHc.out.box 14
    simp only [gA, gB, gC] at ct
    clear hcut hS1
    go_wp2_with fail
    clear ct
    generalize L ++ wLeaf s s.flaws l = L1 at HS HN HR
    go_loopw [3, 10] (fun u3 i wr => ∃ k : Nat, fr ≤ k ∧ k ≤ s.l.length ∧ i = .int .i64 k ∧ WStage base W0 v (L1 ++ wA s s.flaws l fr k) u3 wr) (fun _ i _ => s.l.length - (intOf i).toNat)
    case atStart => exact ⟨fr, Nat.le_refl _, hfr, rfl, by rw [wA_start, List.append_nil]; exact HS.out⟩
    case round =>
      obtain ⟨k, hk0, hk, rfl, hS⟩ := hrel
      have HSa := Lib.hid hS
      clear hS
      by_cases hlt : k < s.l.length
      · have hki : (k : Int) < s.l.length := by omega
        go_upto_region 7 with fail
        obtain ⟨L2, hL2⟩ : ∃ L2, L1 ++ wA s s.flaws l fr k = L2 := ⟨_, rfl⟩
        have HN2 : Hid (∀ (kb kc : Nat), kb < s.l.length + 1 → kc < s.l.length + 1 → (L2 ++ wB s s.flaws l k kb ++ wC s s.flaws l k ((kb : Int) - 1) kc).length + (wStep s s.flaws l ⟨(k : Int), (kb : Int) - 1, (kc : Int) - 1⟩).length ≤ 1000000000000) := Lib.hid (fun kb kc h3 h4 => by rw [← hL2]; exact HN.out k kb kc hk0 hlt h3 h4)
        have HA2 : Hid (L2 ++ wB s s.flaws l k (s.l.length + 1) = L1 ++ wA s s.flaws l fr (k + 1)) := Lib.hid (by rw [wA_succ s s.flaws l fr k (by omega), ← hL2, List.append_assoc])
        rw [hL2] at HSa
        clear hL2
        go_wp2_with fail
        go_loopw [3, 11] (fun u3 i wr => ∃ kb : Nat, kb ≤ s.l.length + 1 ∧ i = .int .i64 ((kb : Int) - 1) ∧ WStage base W0 v (L2 ++ wB s s.flaws l k kb) u3 wr) (fun _ i _ => s.l.length + 1 - (intOf i + 1).toNat)
        case atStart => exact ⟨0, Nat.zero_le _, rfl, by show WStage base W0 v (L2 ++ []) _ _; rw [List.append_nil]; exact HSa.out⟩
        case round =>
          obtain ⟨kb, hkb, rfl, hS⟩ := hrel
          have HSb := Lib.hid hS
          clear hS
          by_cases hltb : kb < s.l.length + 1
          · have hkbi : (kb : Int) - 1 < s.l.length := by omega
            go_upto_region 10 with fail
            obtain ⟨L3, hL3⟩ : ∃ L3, L2 ++ wB s s.flaws l k kb = L3 := ⟨_, rfl⟩
            have HN3 : Hid (∀ (kc : Nat), kc < s.l.length + 1 → (L3 ++ wC s s.flaws l k ((kb : Int) - 1) kc).length + (wStep s s.flaws l ⟨(k : Int), (kb : Int) - 1, (kc : Int) - 1⟩).length ≤ 1000000000000) := Lib.hid (fun kc h4 => by rw [← hL3]; exact HN2.out kb kc hltb h4)
            have HA3 : Hid (L3 ++ wC s s.flaws l k ((kb : Int) - 1) (s.l.length + 1) = L2 ++ wB s s.flaws l k (kb + 1)) := Lib.hid (by rw [wB_succ, ← hL3, List.append_assoc])
            rw [hL3] at HSb
            clear hL3
            go_wp2_with fail
            go_loopw [3, 12] (fun u3 i wr => ∃ kc : Nat, kc ≤ s.l.length + 1 ∧ i = .int .i64 ((kc : Int) - 1) ∧ WStage base W0 v (L3 ++ wC s s.flaws l k ((kb : Int) - 1) kc) u3 wr) (fun _ i _ => s.l.length + 1 - (intOf i + 1).toNat)
            case atStart => exact ⟨0, Nat.zero_le _, rfl, by show WStage base W0 v (L3 ++ []) _ _; rw [List.append_nil]; exact HSb.out⟩
            case round =>
              obtain ⟨kc, hkc, rfl, hS⟩ := hrel
              have HSc := Lib.hid hS
              have HHc := Lib.hid (hS.held HO1.out HH0.out hb0)
              clear hS
              by_cases hltc : kc < s.l.length + 1
              · have hkci : (kc : Int) - 1 < s.l.length := by omega
                go_upto_region 14 with fail
                have hst := HSc.out.below (below_alloc wr (.cells #[.int .i64 (k : Int), .int .i64 ((kb : Int) - 1), .int .i64 ((kc : Int) - 1)] 32))
                have hhd := HHc.out.later (below_alloc wr (.cells #[.int .i64 (k : Int), .int .i64 ((kb : Int) - 1), .int .i64 ((kc : Int) - 1)] 32))
                have QA := obj_new wr (.cells #[.int .i64 (k : Int), .int .i64 ((kb : Int) - 1), .int .i64 ((kc : Int) - 1)] 32)
                generalize wr.alloc (.cells #[.int .i64 (k : Int), .int .i64 ((kb : Int) - 1), .int .i64 ((kc : Int) - 1)] 32) = wA at hst hhd QA ⊢
                obtain ⟨q, hq⟩ : ∃ q, wr.heap.size = q := ⟨_, rfl⟩
                rw [hq] at QA ⊢
                clear hq
                have HSd := Lib.hid hst
                have HHd := Lib.hid hhd
                have hN3 := Lib.hid (HN3.out kc hltc)
                have HC : Hid ((L3 ++ wC s s.flaws l k ((kb : Int) - 1) kc) ++ wStep s s.flaws l ⟨(k : Int), (kb : Int) - 1, (kc : Int) - 1⟩ = L3 ++ wC s s.flaws l k ((kb : Int) - 1) (kc + 1)) := Lib.hid (by rw [wC_succ, List.append_assoc])
                clear hst hhd
                generalize L3 ++ wC s s.flaws l k ((kb : Int) - 1) kc = L4 at HSd hN3 HC HSc
                obtain ⟨ta, hta⟩ : ∃ ta, (k : Int) = ta := ⟨_, rfl⟩
                obtain ⟨tb, htb⟩ : ∃ tb, (kb : Int) - 1 = tb := ⟨_, rfl⟩
                obtain ⟨tc, htc⟩ : ∃ tc, (kc : Int) - 1 = tc := ⟨_, rfl⟩
                have HTA := Lib.hid hta
                have HTB := Lib.hid htb
                have HTC := Lib.hid htc
                rw [hta, htb, htc] at QA hN3 HC ⊢
                clear HSc HHc
                refine ways_reg14 s fa fc p q a cap l _ ta tb tc wA HHd.out.box HHd.out.el.sl.1 (by omega) hn9 QA _ _ ?_
                intro s49 s50 s51 s52 s53 s54 s55 s56 s57 s58 s59 s60 s61 s62 s63 s64 s65 s66 s67 s68 s69 s70 s71 s72 s73 s74 r w3 hr hb3
                rw [← hta, ← htb, ← htc] at HC
                have QA3 := obj_later hb3 QA
                have HSe := Lib.hid (HSd.out.below hb3)
                have HHe := Lib.hid (HHd.out.later hb3)
                have HRR := Lib.hid hr
                clear hr hb3 QA HSd HHd
                cases r
                · have hto : (⟨ta, tb, tc⟩ : ITr).ok s.l.length = true := by
                    have := HRR.out
                    unfold bad14 at this
                    cases h : (⟨ta, tb, tc⟩ : ITr).ok s.l.length
                    · rw [h] at this; simp at this
                    · rfl
                  have HTO := Lib.hid hto
                  clear hto
                  go_upto_region 15 with fail
                  refine ways_reg15 s fa fc p q a cap l _ ta tb tc w3 HHe.out.box HHe.out.el.sl.1 (by omega) hn9 QA3 (HIM.out.below HHe.out.low (Nat.le_refl _)) HOK.out HTO.out _ _ ?_
                  intro s14 s76 s77 s78 s79 s80 s81 w5 hb5
                  have QA5 := obj_later hb5 QA3
                  have HSf := Lib.hid (HSe.out.below hb5)
                  have HHf := Lib.hid (HHe.out.later hb5)
                  clear hb5 QA3 HSe HHe
                  obtain ⟨is, his⟩ : ∃ is, (s.star ⟨ta, tb, tc⟩).isSome = is := ⟨_, rfl⟩
                  rw [his]
                  have HIS := Lib.hid his
                  clear his
                  cases is
                  · go_wp2_with fail
                    subst hta htb htc
                    go_roundw
                    case rel => exact ⟨kc + 1, by omega, by go_num, by rw [← HC.out, wStep, HRR.out, HIS.out]; simpa using HSf.out⟩
                    case measure => simp [intOf]; omega
                  · go_upto_region 17 with fail
                    have hstep : wStep s s.flaws l ⟨ta, tb, tc⟩ = wR s s.flaws (l ++ [⟨ta, tb, tc⟩]) (ta + 1) := by
                      rw [wStep, HRR.out, HIS.out]; simp
                    have HST := Lib.hid hstep
                    clear hstep
                    refine wp_last (ways_reg17 s fa fc p q a cap base l _ L4 (L4 ++ wR s s.flaws (l ++ [⟨ta, tb, tc⟩]) (ta + 1)) ta tb tc w5 HHf.out.box QA5 HSf.out.1 (Lib.hid HHf.out.el) (by omega) (by omega) (by omega) HHf.out.base (Lib.hid (fun a' cap' w' hbw hel => ?_)) _ _ ?_)
                    · exact HON.out ⟨ta, tb, tc⟩ a' cap' _ L4 w' HTO.out (by show (fr : Int) ≤ ta; omega) (HHf.out.low.trans (hbw.mono HHf.out.low.size)) (HSf.out.below hbw).1 (by rw [← HST.out]; exact hN3.out) hel (Nat.le_trans HHf.out.base hbw.size)
                    · intro s83 s84 s85 s86 s87 s88 s89 s90 s91 s92 s93 v3 w7 ho hg hn
                      have HS7 := Lib.hid (HSf.out.next ho hg hn)
                      clear ho hg hn QA5
                      rw [← HST.out] at HS7
                      clear HST
                      subst hta htb htc
                      rw [HC.out] at HS7
                      go_wp2_with fail
                      go_roundw
                      case rel => exact ⟨kc + 1, by omega, by go_num, HS7.out⟩
                      case measure => simp [intOf]; omega
                · go_wp2_with fail
                  subst hta htb htc
                  go_roundw
                  case rel => exact ⟨kc + 1, by omega, by go_num, by rw [← HC.out, wStep, HRR.out]; simpa using HSe.out⟩
                  case measure => simp [intOf]; omega
              · obtain rfl : kc = s.l.length + 1 := by omega
                rw [HA3.out] at HSc
                go_wp2_with fail
                go_roundw
                case rel => exact ⟨kb + 1, by omega, by go_num, HSc.out⟩
                case measure => simp [intOf]; omega
          · obtain rfl : kb = s.l.length + 1 := by omega
            rw [HA2.out] at HSb
            go_wp2_with fail
            go_roundw
            case rel => exact ⟨k + 1, by omega, by omega, by go_num, HSb.out⟩
            case measure => simp [intOf]; omega
      · obtain rfl : k = s.l.length := by omega
        go_wp2_with fail
        go_ret
        obtain ⟨h1, h2, h3⟩ := HSa.out
        exact ⟨_, rfl, by rw [HR.out]; exact h1, grown_trans HG1.out h2 (.inl rfl), h3.imp id (fun ⟨g, e, h⟩ => ⟨g, e, Nat.le_trans HG1.out.size h⟩)⟩
end Go.Proofs.Ytacioedolmaofaa
namespace Go.Proofs.Ytacioedolmaofaa
open Go.RowKit Go.Shelf
set_option maxHeartbeats 6400000
set_option maxRecDepth 100000
set_option linter.unusedSimpArgs false
set_option linter.unusedVariables false

theorem rways_any (s : ISheet) (fa : Option Addr) (fc : Nat) (hok : s.ok = true) (base : Nat) (w0 : World) (him : ImSl w0 fa s.l) (hb0 : w0.heap.size ≤ base) :
    ∀ (r fr : Nat) (l : List ITr) (a : Option Addr) (cap : Nat) (v : Value) (L : List (List ITr)) (w : World), s.l.length - fr ≤ r → fr ≤ s.l.length → (∀ t ∈ l, t.wf s.l.length) → l.length ≤ fr → Below w0.heap.size w0 w → TOut w base v L → L.length + (wR s s.flaws l fr).length ≤ 1000000000000 → TEl w base v.ownBlock l (.slice a l.length cap) → base ≤ w.heap.size →
    Calls Try.prog 74 #[.agg #[.int .i64 s.ax.lo, .int .i64 s.ax.hi, .int .i64 s.ay.lo, .int .i64 s.ay.hi, .int .i64 s.bx.lo, .int .i64 s.bx.hi, .int .i64 s.by'.lo, .int .i64 s.by'.hi, .int .i64 s.f.lo, .int .i64 s.f.hi, .int .i64 s.g.lo, .int .i64 s.g.hi, .int .i64 s.limit, .int .i64 s.flaws, .slice fa s.l.length fc], .slice a l.length cap, .int .i64 fr, v] w (TPost base v (L ++ wR s s.flaws l fr) w) := by
  intro r
  induction r with
  | zero =>
    intro fr l a cap v L w hr hfr hwf hll hw hO hlen hE hbase
    refine ways_step s fa fc hok base w0 him hb0 fr hfr l hwf hll a cap v L w hw hO hlen hE hbase ?_
    intro t a' cap' v' L' w' ht hge
    have := (ITr.wf_of ht).a
    omega
  | succ r ih =>
    intro fr l a cap v L w hr hfr hwf hll hw hO hlen hE hbase
    refine ways_step s fa fc hok base w0 him hb0 fr hfr l hwf hll a cap v L w hw hO hlen hE hbase ?_
    intro t a' cap' v' L' w' ht hge h1 h2 h3 h4 h5
    have hwt := ITr.wf_of ht
    have hta := hwt.a
    obtain ⟨m, hm⟩ := Int.eq_ofNat_of_zero_le hta.1
    have e : t.a + 1 = ((m + 1 : Nat) : Int) := by omega
    rw [e] at h3 ⊢
    have el : (l ++ [t]).length = l.length + 1 := by simp
    have := ih (m + 1) (l ++ [t]) a' cap' v' L' w' (by omega) (by omega) (fun x hx => by
      rcases List.mem_append.1 hx with hx | hx
      · exact hwf x hx
      · rw [List.mem_singleton] at hx; subst hx; exact hwt) (by rw [el]; omega) h1 h2 h3 (by rw [el]; exact h4) h5
    rw [el] at this
    exact this

/-- Ways, to be read. -/
def WRow (W : World) (a : Option Addr) (L : List (List ITr)) : Prop :=
  ∀ i (h : i < L.length), ∃ g, a = some ⟨g, 0, none⟩ ∧ g < W.heap.size ∧ ∃ ea ec, W.cell? ⟨g, i, none⟩ = some (.slice ea L[i].length ec) ∧ TrSl W ea L[i]
theorem TOut.rows {w : World} {base : Nat} {v : Value} {L : List (List ITr)} (h : TOut w base v L) : ∃ a c, v = .slice a L.length c ∧ WRow w a L := by
  obtain ⟨xs, hown, hel⟩ := h
  rcases hown.2 with ⟨rfl, hn⟩ | ⟨g, cap, cur, rfl, hbg, hg, hnc, hcm, hcs, htake⟩
  · refine ⟨none, 0, by rw [hn], fun i hi => ?_⟩
    rw [hn] at hi
    cases hi
  · refine ⟨some ⟨g, 0, none⟩, cap, rfl, fun i hi => ?_⟩
    obtain ⟨u, h1, ea, ec, rfl, h2⟩ := hel i hi
    have h3 := hown.cells (g := g) rfl i _ h1
    rw [addr0] at h3
    exact ⟨g, rfl, (Array.getElem?_eq_some_iff.1 hg).1, ea, ec, h3, (show TEl w base _ L[i] (.slice ea L[i].length ec) from ⟨ea, ec, rfl, h2⟩).sl.1⟩
theorem WRow.below {W W' : World} {a : Option Addr} {L : List (List ITr)} (h : WRow W a L) (hb : Below W.heap.size W W') : WRow W' a L := by
  intro i hi
  obtain ⟨g, rfl, hg, ea, ec, h2, h3⟩ := h i hi
  exact ⟨g, rfl, Nat.lt_of_lt_of_le hg hb.size, ea, ec, cell_later hb h2, h3.below hb (Nat.le_refl _)⟩
/-- All ways. -/
def allW (s : ISheet) : List (List ITr) := wR s s.flaws [] 0
theorem allW_eq (s : ISheet) : allW s = waysOf s.trails s.l.length s.flaws s.l.length 0 0 := by
  unfold allW wR
  rw [ways_fuel s.flaws (fun t ht => (trails_wf t ht).a.2) (s.l.length + 1) s.l.length 0 _ (by omega) (by omega)]
  show List.map (fun x => [] ++ x) _ = _
  simp [ownAll]
theorem allW_len (s : ISheet) (hn : s.l.length ≤ 5) : (allW s).length ≤ 10510100501 := by
  have := wR_len s s.flaws [] (by omega) 0 (by omega)
  have h2 : 101 ^ ((s.l.length : Int) - 0).toNat ≤ 101 ^ 5 := Nat.pow_le_pow_right (by omega) (by omega)
  have h3 : (101 : Nat) ^ 5 = 10510100501 := by decide
  unfold allW
  omega
def AllP (s : ISheet) (w : World) (e : Ending) (w' : World) : Prop := ∃ a c, e = .returned (.slice a (allW s).length c) ∧ WRow w' a (allW s) ∧ Below w.heap.size w w'

theorem irAll_any (s : ISheet) (fa : Option Addr) (fc : Nat) (w : World) (hok : s.ok = true) (hn : s.l.length ≤ 5) (hl : ImSl w fa s.l) :
    Calls Try.prog 45 #[.agg #[.int .i64 s.ax.lo, .int .i64 s.ax.hi, .int .i64 s.ay.lo, .int .i64 s.ay.hi, .int .i64 s.bx.lo, .int .i64 s.bx.hi, .int .i64 s.by'.lo, .int .i64 s.by'.hi, .int .i64 s.f.lo, .int .i64 s.f.hi, .int .i64 s.g.lo, .int .i64 s.g.hi, .int .i64 s.limit, .int .i64 s.flaws, .slice fa s.l.length fc]] w (AllP s w) := by
  have HOK := Lib.hid hok
  have HN := Lib.hid hn
  have HL := Lib.hid hl
  clear hok hn hl
  go_enter Try.func45, Try.ntmps45
  go_upto_region 1 with fail
  have hb := below_alloc w (.cells #[.int .i64 s.ax.lo, .int .i64 s.ax.hi, .int .i64 s.ay.lo, .int .i64 s.ay.hi, .int .i64 s.bx.lo, .int .i64 s.bx.hi, .int .i64 s.by'.lo, .int .i64 s.by'.hi, .int .i64 s.f.lo, .int .i64 s.f.hi, .int .i64 s.g.lo, .int .i64 s.g.hi, .int .i64 s.limit, .int .i64 s.flaws, .slice fa s.l.length fc] 30)
  have hg := obj_new w (.cells #[.int .i64 s.ax.lo, .int .i64 s.ax.hi, .int .i64 s.ay.lo, .int .i64 s.ay.hi, .int .i64 s.bx.lo, .int .i64 s.bx.hi, .int .i64 s.by'.lo, .int .i64 s.by'.hi, .int .i64 s.f.lo, .int .i64 s.f.hi, .int .i64 s.g.lo, .int .i64 s.g.hi, .int .i64 s.limit, .int .i64 s.flaws, .slice fa s.l.length fc] 30)
  generalize w.alloc (.cells #[.int .i64 s.ax.lo, .int .i64 s.ax.hi, .int .i64 s.ay.lo, .int .i64 s.ay.hi, .int .i64 s.bx.lo, .int .i64 s.bx.hi, .int .i64 s.by'.lo, .int .i64 s.by'.hi, .int .i64 s.f.lo, .int .i64 s.f.hi, .int .i64 s.g.lo, .int .i64 s.g.hi, .int .i64 s.limit, .int .i64 s.flaws, .slice fa s.l.length fc] 30) = W at hb hg ⊢
  have hcall := rways_any s fa fc HOK.out W.heap.size W (HL.out.below hb (Nat.le_refl _)) (Nat.le_refl _) s.l.length 0 [] none 0 (.slice none 0 0) [] W (by omega) (by omega) (fun t ht => by cases ht) (Nat.le_refl _) (Below.refl _ _) (TOut.nil _ _) (by have := allW_len s HN.out; unfold allW at this; simp only [List.length_nil]; show _ + (wR s s.flaws [] ((0 : Nat) : Int)).length ≤ _; simp only [Int.natCast_zero] at this ⊢; omega) ⟨none, 0, rfl, .inl ⟨rfl, rfl⟩⟩ (Nat.le_refl _)
  have HC := Lib.hid hcall
  clear hcall
  have cz := fun k => cell_block hg k
  have c0 := cz 0
  have c1 := cz 1
  have c2 := cz 2
  have c3 := cz 3
  have c4 := cz 4
  have c5 := cz 5
  have c6 := cz 6
  have c7 := cz 7
  have c8 := cz 8
  have c9 := cz 9
  have c10 := cz 10
  have c11 := cz 11
  have c12 := cz 12
  have c13 := cz 13
  have c14 := cz 14
  clear cz
  simp only [gA, gB, gC] at c0 c1 c2 c3 c4 c5 c6 c7 c8 c9 c10 c11 c12 c13 c14
  go_wp2_with fail
  refine HC.out.mono ?_
  rintro e w' ⟨v', rfl, ho, hgr, _⟩
  obtain ⟨a, c, rfl, hrow⟩ := ho.rows
  have HR := Lib.hid hrow
  have HB := Lib.hid (hb.trans ((grownNone hgr).mono hb.size))
  clear HC hrow ho hgr c0 c1 c2 c3 c4 c5 c6 c7 c8 c9 c10 c11 c12 c13 c14 hg
  go_wp2_with fail
  go_ret
  exact ⟨a, c, by simp [allW], by simpa [allW] using HR.out, HB.out⟩

theorem irCount_any (s : ISheet) (fa : Option Addr) (fc : Nat) (w : World) (hl : ImSl w fa s.l) (hlen : s.l.length < 9223372036854775807) (hn : s.ok = true → s.l.length ≤ 5) :
    Calls Try.prog 16 #[.agg #[.int .i64 s.ax.lo, .int .i64 s.ax.hi, .int .i64 s.ay.lo, .int .i64 s.ay.hi, .int .i64 s.bx.lo, .int .i64 s.bx.hi, .int .i64 s.by'.lo, .int .i64 s.by'.hi, .int .i64 s.f.lo, .int .i64 s.f.hi, .int .i64 s.g.lo, .int .i64 s.g.hi, .int .i64 s.limit, .int .i64 s.flaws, .slice fa s.l.length fc]] w fun e w' => e = .returned (.tuple #[.int .i64 (itCount s).1, .int .i64 (itCount s).2]) ∧ Below w.heap.size w w' := by
  obtain ⟨rv, hrv⟩ : ∃ rv, itCount s = rv := ⟨_, rfl⟩
  rw [hrv]
  have HRV := Lib.hid hrv
  clear hrv
  have hcs := irSheet_any s fa fc
  have HCS := Lib.hid (fun w hl => hcs w hl hlen)
  have HL := Lib.hid hl
  clear hl hlen hcs
  go_enter Try.func16, Try.ntmps16
  go_upto_region 1 with fail
  have hb := below_alloc w (.cells #[.int .i64 s.ax.lo, .int .i64 s.ax.hi, .int .i64 s.ay.lo, .int .i64 s.ay.hi, .int .i64 s.bx.lo, .int .i64 s.bx.hi, .int .i64 s.by'.lo, .int .i64 s.by'.hi, .int .i64 s.f.lo, .int .i64 s.f.hi, .int .i64 s.g.lo, .int .i64 s.g.hi, .int .i64 s.limit, .int .i64 s.flaws, .slice fa s.l.length fc] 30)
  have hg := obj_new w (.cells #[.int .i64 s.ax.lo, .int .i64 s.ax.hi, .int .i64 s.ay.lo, .int .i64 s.ay.hi, .int .i64 s.bx.lo, .int .i64 s.bx.hi, .int .i64 s.by'.lo, .int .i64 s.by'.hi, .int .i64 s.f.lo, .int .i64 s.f.hi, .int .i64 s.g.lo, .int .i64 s.g.hi, .int .i64 s.limit, .int .i64 s.flaws, .slice fa s.l.length fc] 30)
  generalize w.alloc (.cells #[.int .i64 s.ax.lo, .int .i64 s.ax.hi, .int .i64 s.ay.lo, .int .i64 s.ay.hi, .int .i64 s.bx.lo, .int .i64 s.bx.hi, .int .i64 s.by'.lo, .int .i64 s.by'.hi, .int .i64 s.f.lo, .int .i64 s.f.hi, .int .i64 s.g.lo, .int .i64 s.g.hi, .int .i64 s.limit, .int .i64 s.flaws, .slice fa s.l.length fc] 30) = W at hb hg ⊢
  have cz := fun k => cell_block hg k
  have c0 := cz 0
  have c1 := cz 1
  have c2 := cz 2
  have c3 := cz 3
  have c4 := cz 4
  have c5 := cz 5
  have c6 := cz 6
  have c7 := cz 7
  have c8 := cz 8
  have c9 := cz 9
  have c10 := cz 10
  have c11 := cz 11
  have c12 := cz 12
  have c13 := cz 13
  have c14 := cz 14
  clear cz
  simp only [gA, gB, gC] at c0 c1 c2 c3 c4 c5 c6 c7 c8 c9 c10 c11 c12 c13 c14
  go_wp2_with fail
  refine (HCS.out W (HL.out.below hb (Nat.le_refl _))).mono ?_
  rintro e w1 ⟨rfl, hb1⟩
  have hg1 := obj_later hb1 hg
  have hB1 := hb.trans (hb1.mono hb.size)
  clear c0 c1 c2 c3 c4 c5 c6 c7 c8 c9 c10 c11 c12 c13 c14
  clear hb hb1 hg HCS
  cases hok : s.ok
  · go_wp2_with fail
    go_ret2
    have hrv := HRV.out
    unfold itCount at hrv
    rw [hok, if_neg (by simp)] at hrv
    exact ⟨by rw [← hrv]; rfl, hB1⟩
  · have hn5 := hn hok
    have hal := irAll_any s fa fc w1 hok hn5 (HL.out.below hB1 (Nat.le_refl _))
    have HA := Lib.hid hal
    have hlenA := allW_len s hn5
    have hcnt : ((tellN s.trails s.l.length s.flaws 0 0).many : Int) = ((allW s).length : Int) := by
      rw [tellN_many s.flaws (tp_of (by omega)) 0 (by omega), allW_eq]
    have HCN := Lib.hid hcnt
    have hrv := HRV.out
    unfold itCount at hrv
    rw [hok, if_pos rfl, hcnt] at hrv
    have HRW := Lib.hid hrv
    clear hal hcnt hok hrv HRV
    have cz := fun k => cell_block hg1 k
    have c0 := cz 0
    have c1 := cz 1
    have c2 := cz 2
    have c3 := cz 3
    have c4 := cz 4
    have c5 := cz 5
    have c6 := cz 6
    have c7 := cz 7
    have c8 := cz 8
    have c9 := cz 9
    have c10 := cz 10
    have c11 := cz 11
    have c12 := cz 12
    have c13 := cz 13
    have c14 := cz 14
    clear cz
    simp only [gA, gB, gC] at c0 c1 c2 c3 c4 c5 c6 c7 c8 c9 c10 c11 c12 c13 c14
    go_wp2_with fail
    refine HA.out.mono ?_
    rintro e w2 ⟨a, c, rfl, _, hb2⟩
    have hB2 := hB1.trans (hb2.mono hB1.size)
    clear c0 c1 c2 c3 c4 c5 c6 c7 c8 c9 c10 c11 c12 c13 c14
    clear hB1 hb2 hg1 HA
    go_wp2_with fail
    go_ret2
    exact ⟨by rw [← HRW.out]; rfl, hB2⟩
end Go.Proofs.Ytacioedolmaofaa
