/- Lists of steps, spans and images in memory; which of them are bad. Sheets in memory; which of them are valid. -/
import Derived.Test.YtacioedolmaofaaLBA6
namespace Go.Proofs.Ytacioedolmaofaa
open Go.RowKit Go.Shelf
set_option maxHeartbeats 3200000
set_option maxRecDepth 100000
set_option linter.unusedSimpArgs false
set_option linter.unusedVariables false

structure Stp where
  x : Sp
  y : Sp
def Stp.ok (p : Stp) : Bool := p.x.ok (-1048576) 1048576 && p.y.ok (-1048576) 1048576
def fadeOk (p : Sp) : Bool := p.ok 0 1000

theorem istep_bad (x : Stp) (w : World) :
    Calls Try.prog 77 #[.agg #[.int .i64 x.x.lo, .int .i64 x.x.hi, .int .i64 x.y.lo, .int .i64 x.y.hi]] w
      fun e w' => e = .returned (.bool (!x.ok)) ∧ Below w.heap.size w w' := by
  have hd : x.ok = (x.x.ok (-1048576) 1048576 && x.y.ok (-1048576) 1048576) := rfl
  rw [hd]
  cases h1 : x.x.ok (-1048576) 1048576
  all_goals
    have H1 := Lib.hid h1
    clear h1 hd
    go_enter Try.func77, Try.ntmps77
    go_wp2_with fail
    refine (iisSpan_any x.x _ _ _).mono ?_
    rintro e w1 ⟨rfl, hb1⟩
    rw [H1.out]
    have hB := (below_alloc w (.cells #[.int .i64 x.x.lo, .int .i64 x.x.hi, .int .i64 x.y.lo, .int .i64 x.y.hi] 25))
    have c2 := cell_later hb1 (cell_new w #[.int .i64 x.x.lo, .int .i64 x.x.hi, .int .i64 x.y.lo, .int .i64 x.y.hi] 25 2 (.int .i64 x.y.lo) rfl)
    have c3 := cell_later hb1 (cell_new w #[.int .i64 x.x.lo, .int .i64 x.x.hi, .int .i64 x.y.lo, .int .i64 x.y.hi] 25 3 (.int .i64 x.y.hi) rfl)
    replace hB := hB.trans (hb1.mono hB.size)
    clear hb1
    go_wp2_with fail
  · go_ret
    exact ⟨rfl, hB⟩
  · refine (iisSpan_any x.y _ _ _).mono ?_
    rintro e w2 ⟨rfl, hb2⟩
    replace hB := hB.trans (hb2.mono hB.size)
    clear hb2
    go_wp2_with fail
    go_ret
    exact ⟨rfl, hB⟩

theorem ifade_bad (x : Sp) (w : World) :
    Calls Try.prog 79 #[.agg #[.int .i64 x.lo, .int .i64 x.hi]] w fun e w' => e = .returned (.bool (!fadeOk x)) ∧ Below w.heap.size w w' := by
  have hd : fadeOk x = x.ok 0 1000 := rfl
  rw [hd]
  clear hd
  go_enter Try.func79, Try.ntmps79
  go_wp2_with fail
  refine (iisSpan_any x _ _ _).mono ?_
  rintro e w1 ⟨rfl, hb1⟩
  have hB := (below_alloc w (.cells #[.int .i64 x.lo, .int .i64 x.hi] 23))
  replace hB := hB.trans (hb1.mono hB.size)
  clear hb1
  go_wp2_with fail
  go_ret
  exact ⟨rfl, hB⟩

def badSizeV : Value := .func (.func 79) #[] #[]
theorem ispot_bad (g : Nat) (x : ISpot) (w : World) (hg : w.cell? ⟨g, 0, none⟩ = some (.func (.func 79) #[] #[])) :
    Calls Try.prog 80 #[.agg #[.int .i64 x.x.lo, .int .i64 x.x.hi, .int .i64 x.y.lo, .int .i64 x.y.hi, .int .i64 x.s.lo, .int .i64 x.s.hi], .pointer (some ⟨g, 0, none⟩)] w
      fun e w' => e = .returned (.bool (!x.ok)) ∧ Below w.heap.size w w' := by
  have hd : x.ok = (x.x.ok 0 1048576 && x.y.ok 0 1048576 && fadeOk x.s) := rfl
  rw [hd]
  cases h1 : x.x.ok 0 1048576
  all_goals
    have H1 := Lib.hid h1
    clear h1 hd
    have hg1 := cell_later (below_alloc w (.cells #[.int .i64 x.x.lo, .int .i64 x.x.hi, .int .i64 x.y.lo, .int .i64 x.y.hi, .int .i64 x.s.lo, .int .i64 x.s.hi] 61)) hg
    go_enter Try.func80, Try.ntmps80
    go_wp2_with fail
    refine (iisSpan_any x.x _ _ _).mono ?_
    rintro e w1 ⟨rfl, hb1⟩
    rw [H1.out]
    have hB := (below_alloc w (.cells #[.int .i64 x.x.lo, .int .i64 x.x.hi, .int .i64 x.y.lo, .int .i64 x.y.hi, .int .i64 x.s.lo, .int .i64 x.s.hi] 61))
    have hg2 := cell_later hb1 hg1
    have c2 := cell_later hb1 (cell_new w #[.int .i64 x.x.lo, .int .i64 x.x.hi, .int .i64 x.y.lo, .int .i64 x.y.hi, .int .i64 x.s.lo, .int .i64 x.s.hi] 61 2 (.int .i64 x.y.lo) rfl)
    have c3 := cell_later hb1 (cell_new w #[.int .i64 x.x.lo, .int .i64 x.x.hi, .int .i64 x.y.lo, .int .i64 x.y.hi, .int .i64 x.s.lo, .int .i64 x.s.hi] 61 3 (.int .i64 x.y.hi) rfl)
    have c4 := cell_later hb1 (cell_new w #[.int .i64 x.x.lo, .int .i64 x.x.hi, .int .i64 x.y.lo, .int .i64 x.y.hi, .int .i64 x.s.lo, .int .i64 x.s.hi] 61 4 (.int .i64 x.s.lo) rfl)
    have c5 := cell_later hb1 (cell_new w #[.int .i64 x.x.lo, .int .i64 x.x.hi, .int .i64 x.y.lo, .int .i64 x.y.hi, .int .i64 x.s.lo, .int .i64 x.s.hi] 61 5 (.int .i64 x.s.hi) rfl)
    replace hB := hB.trans (hb1.mono hB.size)
    clear hb1 hg hg1
    go_wp2_with fail
  · go_ret
    exact ⟨rfl, hB⟩
  · refine (iisSpan_any x.y _ _ _).mono ?_
    rintro e w2 ⟨rfl, hb2⟩
    replace hB := hB.trans (hb2.mono hB.size)
    replace c4 := cell_later hb2 c4
    replace c5 := cell_later hb2 c5
    replace hg2 := cell_later hb2 hg2
    clear hb2 c2 c3
    cases h2 : x.y.ok 0 1048576
    · have H2 := Lib.hid h2
      clear h2
      go_wp2_with fail
      go_ret
      exact ⟨ret_bool (by rw [H2.out]; rfl), hB⟩
    · have H2 := Lib.hid h2
      clear h2
      go_wp2_with fail
      refine (ifade_bad x.s _).mono ?_
      rintro e w3 ⟨rfl, hb3⟩
      replace hB := hB.trans (hb3.mono hB.size)
      clear hb3
      go_wp2_with fail
      go_ret
      exact ⟨ret_bool (by rw [H2.out]; rfl), hB⟩

/-- The cells of one. -/
structure StAt (w : World) (b o : Nat) (x : Stp) : Prop where
  c0 : w.cell? ⟨b, o, none⟩ = some (.int .i64 x.x.lo)
  c1 : w.cell? ⟨b, o+1, none⟩ = some (.int .i64 x.x.hi)
  c2 : w.cell? ⟨b, o+2, none⟩ = some (.int .i64 x.y.lo)
  c3 : w.cell? ⟨b, o+3, none⟩ = some (.int .i64 x.y.hi)

theorem StAt.same {w w' : World} {b o : Nat} {x : Stp} (h : StAt w b o x) (hb : w'.heap[b]? = w.heap[b]?) : StAt w' b o x :=
  ⟨(cell_same hb).trans h.c0, (cell_same hb).trans h.c1, (cell_same hb).trans h.c2, (cell_same hb).trans h.c3⟩
/-- A slice at a reads as the list l. -/
def StSl (w : World) (a : Option Addr) (l : List Stp) : Prop :=
  ∀ k (h : k < l.length), ∃ b o, a = some ⟨b, o, none⟩ ∧ b < w.heap.size ∧ StAt w b (o + k * 4) l[k]
theorem StSl.below {B : Nat} {w w' : World} {a : Option Addr} {l : List Stp} (h : StSl w a l) (hb : Below B w w') (hB : w.heap.size ≤ B) : StSl w' a l := by
  intro k hk
  obtain ⟨b, o, ha, hlt, hx⟩ := h k hk
  exact ⟨b, o, ha, Nat.lt_of_lt_of_le hlt hb.size, hx.same (hb.block b (by omega))⟩
theorem StSl.nil (w : World) (a : Option Addr) : StSl w a [] := fun k h => absurd h (Nat.not_lt_zero k)
def firstSt (l : List Stp) : Int := match l.findIdx? (fun x => !Stp.ok x) with | some i => (i : Int) | none => -1

theorem indexSt (a : Option Addr) (cap : Nat) (l : List Stp) (w : World) (hl : l.length < 9223372036854775807) (hx : StSl w a l) :
    Calls Try.prog 93 #[.slice a l.length cap, .func (.func 77) #[] #[]] w
      fun e w' => e = .returned (.int .i64 (firstSt l)) ∧ Below w.heap.size w w' := by
  go_enter Try.func93, Try.ntmps93
  go_wp2
  go_loopw [4, 5, 8] (fun _ _ i wr => ∃ k : Nat, k ≤ l.length ∧ i = .int .i64 k ∧ (∀ j (h : j < l.length), j < k → Stp.ok l[j] = true) ∧ Below w.heap.size w wr) (fun _ _ i _ => l.length - (intOf i).toNat)
  case atStart => exact ⟨0, Nat.zero_le _, rfl, fun j _ h => absurd h (Nat.not_lt_zero _), Below.refl _ _⟩
  case round =>
    rename_i wr
    obtain ⟨k, hk, rfl, hnone, hbw⟩ := hrel
    have HN := Lib.hid hnone
    clear hnone
    by_cases hlt : k < l.length
    · obtain ⟨b, o, rfl, hb, hxk⟩ := hx k hlt
      obtain ⟨c0, c1, c2, c3⟩ := hxk.same (hbw.block b hb)
      cases hq : Stp.ok l[k]
      all_goals
        have Hq := Lib.hid hq
        clear hq
        go_wp2_with (go_at_call 77; refine (istep_bad l[k] _).mono ?_; rintro e w' ⟨rfl, hb⟩; rw [Hq.out]; dsimp only [Bool.not_false, Bool.not_true])
      · go_ret
        refine ⟨ret_int ?_, hbw.trans (hb.mono hbw.size)⟩
        have hf : l.findIdx? (fun x => !Stp.ok x) = some k := by
          rw [List.findIdx?_eq_some_iff_getElem]
          exact ⟨hlt, by simp [Hq.out], fun j hj => by simp [HN.out j (by omega) hj]⟩
        unfold firstSt; rw [hf]
      · go_roundw
        case rel => exact ⟨k + 1, by omega, by go_num, fun j h hj => by rcases Nat.lt_succ_iff_lt_or_eq.1 hj with h2 | rfl; exact HN.out j h h2; exact Hq.out, hbw.trans (hb.mono hbw.size)⟩
        case measure => simp [intOf]; omega
    · go_wp2
      go_ret
      obtain rfl : k = l.length := by omega
      refine ⟨ret_int ?_, hbw⟩
      have hf : l.findIdx? (fun x => !Stp.ok x) = none := by
        rw [List.findIdx?_eq_none_iff]
        intro x hx
        obtain ⟨j, hj, rfl⟩ := List.getElem_of_mem hx
        simp [HN.out j hj hj]
      unfold firstSt; rw [hf]

theorem containsSt (a : Option Addr) (cap : Nat) (l : List Stp) (w : World) (hl : l.length < 9223372036854775807) (hx : StSl w a l) :
    Calls Try.prog 81 #[.slice a l.length cap, .func (.func 77) #[] #[]] w
      fun e w' => e = .returned (.bool (!l.all Stp.ok)) ∧ Below w.heap.size w w' := by
  have h : decide (firstSt l ≥ 0) = !l.all Stp.ok := by
    unfold firstSt
    cases hf : l.findIdx? (fun x => !Stp.ok x) with
    | none =>
      rw [List.findIdx?_eq_none_iff] at hf
      have : l.all Stp.ok = true := List.all_eq_true.2 fun x hx => by simpa using hf x hx
      rw [this]; rfl
    | some i =>
      rw [List.findIdx?_eq_some_iff_getElem] at hf
      obtain ⟨hi, hp, _⟩ := hf
      have : l.all Stp.ok = false := by
        rw [List.all_eq_false]
        exact ⟨l[i], List.getElem_mem hi, by simpa using hp⟩
      rw [this]; simp
  have key := fun W => indexSt a cap l W hl
  generalize firstSt l = n at h key
  have H := Lib.hid h
  clear h
  go_enter Try.func81, Try.ntmps81
  go_wp2_with (go_at_call 93; refine (key _ hx).mono ?_; rintro e w' ⟨rfl, hb⟩)
  go_ret
  exact ⟨ret_bool H.out, hb⟩

/-- The cells of one. -/
structure SzAt (w : World) (b o : Nat) (x : Sp) : Prop where
  c0 : w.cell? ⟨b, o, none⟩ = some (.int .i64 x.lo)
  c1 : w.cell? ⟨b, o+1, none⟩ = some (.int .i64 x.hi)

theorem SzAt.same {w w' : World} {b o : Nat} {x : Sp} (h : SzAt w b o x) (hb : w'.heap[b]? = w.heap[b]?) : SzAt w' b o x :=
  ⟨(cell_same hb).trans h.c0, (cell_same hb).trans h.c1⟩
/-- A slice at a reads as the list l. -/
def SzSl (w : World) (a : Option Addr) (l : List Sp) : Prop :=
  ∀ k (h : k < l.length), ∃ b o, a = some ⟨b, o, none⟩ ∧ b < w.heap.size ∧ SzAt w b (o + k * 2) l[k]
theorem SzSl.below {B : Nat} {w w' : World} {a : Option Addr} {l : List Sp} (h : SzSl w a l) (hb : Below B w w') (hB : w.heap.size ≤ B) : SzSl w' a l := by
  intro k hk
  obtain ⟨b, o, ha, hlt, hx⟩ := h k hk
  exact ⟨b, o, ha, Nat.lt_of_lt_of_le hlt hb.size, hx.same (hb.block b (by omega))⟩
theorem SzSl.nil (w : World) (a : Option Addr) : SzSl w a [] := fun k h => absurd h (Nat.not_lt_zero k)
def firstSz (l : List Sp) : Int := match l.findIdx? (fun x => !fadeOk x) with | some i => (i : Int) | none => -1

theorem indexSz (a : Option Addr) (cap : Nat) (l : List Sp) (w : World) (hl : l.length < 9223372036854775807) (hx : SzSl w a l) :
    Calls Try.prog 94 #[.slice a l.length cap, .func (.func 79) #[] #[]] w
      fun e w' => e = .returned (.int .i64 (firstSz l)) ∧ Below w.heap.size w w' := by
  go_enter Try.func94, Try.ntmps94
  go_wp2
  go_loopw [4, 5, 8] (fun _ _ i wr => ∃ k : Nat, k ≤ l.length ∧ i = .int .i64 k ∧ (∀ j (h : j < l.length), j < k → fadeOk l[j] = true) ∧ Below w.heap.size w wr) (fun _ _ i _ => l.length - (intOf i).toNat)
  case atStart => exact ⟨0, Nat.zero_le _, rfl, fun j _ h => absurd h (Nat.not_lt_zero _), Below.refl _ _⟩
  case round =>
    rename_i wr
    obtain ⟨k, hk, rfl, hnone, hbw⟩ := hrel
    have HN := Lib.hid hnone
    clear hnone
    by_cases hlt : k < l.length
    · obtain ⟨b, o, rfl, hb, hxk⟩ := hx k hlt
      obtain ⟨c0, c1⟩ := hxk.same (hbw.block b hb)
      cases hq : fadeOk l[k]
      all_goals
        have Hq := Lib.hid hq
        clear hq
        go_wp2_with (go_at_call 79; refine (ifade_bad l[k] _).mono ?_; rintro e w' ⟨rfl, hb⟩; rw [Hq.out]; dsimp only [Bool.not_false, Bool.not_true])
      · go_ret
        refine ⟨ret_int ?_, hbw.trans (hb.mono hbw.size)⟩
        have hf : l.findIdx? (fun x => !fadeOk x) = some k := by
          rw [List.findIdx?_eq_some_iff_getElem]
          exact ⟨hlt, by simp [Hq.out], fun j hj => by simp [HN.out j (by omega) hj]⟩
        unfold firstSz; rw [hf]
      · go_roundw
        case rel => exact ⟨k + 1, by omega, by go_num, fun j h hj => by rcases Nat.lt_succ_iff_lt_or_eq.1 hj with h2 | rfl; exact HN.out j h h2; exact Hq.out, hbw.trans (hb.mono hbw.size)⟩
        case measure => simp [intOf]; omega
    · go_wp2
      go_ret
      obtain rfl : k = l.length := by omega
      refine ⟨ret_int ?_, hbw⟩
      have hf : l.findIdx? (fun x => !fadeOk x) = none := by
        rw [List.findIdx?_eq_none_iff]
        intro x hx
        obtain ⟨j, hj, rfl⟩ := List.getElem_of_mem hx
        simp [HN.out j hj hj]
      unfold firstSz; rw [hf]

theorem containsSz (a : Option Addr) (cap : Nat) (l : List Sp) (w : World) (hl : l.length < 9223372036854775807) (hx : SzSl w a l) :
    Calls Try.prog 82 #[.slice a l.length cap, .func (.func 79) #[] #[]] w
      fun e w' => e = .returned (.bool (!l.all fadeOk)) ∧ Below w.heap.size w w' := by
  have h : decide (firstSz l ≥ 0) = !l.all fadeOk := by
    unfold firstSz
    cases hf : l.findIdx? (fun x => !fadeOk x) with
    | none =>
      rw [List.findIdx?_eq_none_iff] at hf
      have : l.all fadeOk = true := List.all_eq_true.2 fun x hx => by simpa using hf x hx
      rw [this]; rfl
    | some i =>
      rw [List.findIdx?_eq_some_iff_getElem] at hf
      obtain ⟨hi, hp, _⟩ := hf
      have : l.all fadeOk = false := by
        rw [List.all_eq_false]
        exact ⟨l[i], List.getElem_mem hi, by simpa using hp⟩
      rw [this]; simp
  have key := fun W => indexSz a cap l W hl
  generalize firstSz l = n at h key
  have H := Lib.hid h
  clear h
  go_enter Try.func82, Try.ntmps82
  go_wp2_with (go_at_call 94; refine (key _ hx).mono ?_; rintro e w' ⟨rfl, hb⟩)
  go_ret
  exact ⟨ret_bool H.out, hb⟩

/-- The cells of one. -/
structure ImAt (w : World) (b o : Nat) (x : ISpot) : Prop where
  c0 : w.cell? ⟨b, o, none⟩ = some (.int .i64 x.x.lo)
  c1 : w.cell? ⟨b, o+1, none⟩ = some (.int .i64 x.x.hi)
  c2 : w.cell? ⟨b, o+2, none⟩ = some (.int .i64 x.y.lo)
  c3 : w.cell? ⟨b, o+3, none⟩ = some (.int .i64 x.y.hi)
  c4 : w.cell? ⟨b, o+4, none⟩ = some (.int .i64 x.s.lo)
  c5 : w.cell? ⟨b, o+5, none⟩ = some (.int .i64 x.s.hi)

theorem ImAt.same {w w' : World} {b o : Nat} {x : ISpot} (h : ImAt w b o x) (hb : w'.heap[b]? = w.heap[b]?) : ImAt w' b o x :=
  ⟨(cell_same hb).trans h.c0, (cell_same hb).trans h.c1, (cell_same hb).trans h.c2, (cell_same hb).trans h.c3, (cell_same hb).trans h.c4, (cell_same hb).trans h.c5⟩
/-- A slice at a reads as the list l. -/
def ImSl (w : World) (a : Option Addr) (l : List ISpot) : Prop :=
  ∀ k (h : k < l.length), ∃ b o, a = some ⟨b, o, none⟩ ∧ b < w.heap.size ∧ ImAt w b (o + k * 6) l[k]
theorem ImSl.below {B : Nat} {w w' : World} {a : Option Addr} {l : List ISpot} (h : ImSl w a l) (hb : Below B w w') (hB : w.heap.size ≤ B) : ImSl w' a l := by
  intro k hk
  obtain ⟨b, o, ha, hlt, hx⟩ := h k hk
  exact ⟨b, o, ha, Nat.lt_of_lt_of_le hlt hb.size, hx.same (hb.block b (by omega))⟩
theorem ImSl.nil (w : World) (a : Option Addr) : ImSl w a [] := fun k h => absurd h (Nat.not_lt_zero k)
def firstIm (l : List ISpot) : Int := match l.findIdx? (fun x => !ISpot.ok x) with | some i => (i : Int) | none => -1

theorem indexIm (g : Nat) (a : Option Addr) (cap : Nat) (l : List ISpot) (w : World) (hl : l.length < 9223372036854775807) (hx : ImSl w a l) (hg : w.cell? ⟨g, 0, none⟩ = some (.func (.func 79) #[] #[])) :
    Calls Try.prog 95 #[.slice a l.length cap, .func (.func 80) #[] #[.pointer (some ⟨g, 0, none⟩)]] w
      fun e w' => e = .returned (.int .i64 (firstIm l)) ∧ Below w.heap.size w w' := by
  go_enter Try.func95, Try.ntmps95
  go_wp2
  go_loopw [4, 5, 8] (fun _ _ i wr => ∃ k : Nat, k ≤ l.length ∧ i = .int .i64 k ∧ (∀ j (h : j < l.length), j < k → ISpot.ok l[j] = true) ∧ Below w.heap.size w wr) (fun _ _ i _ => l.length - (intOf i).toNat)
  case atStart => exact ⟨0, Nat.zero_le _, rfl, fun j _ h => absurd h (Nat.not_lt_zero _), Below.refl _ _⟩
  case round =>
    rename_i wr
    obtain ⟨k, hk, rfl, hnone, hbw⟩ := hrel
    have HN := Lib.hid hnone
    clear hnone
    by_cases hlt : k < l.length
    · obtain ⟨b, o, rfl, hb, hxk⟩ := hx k hlt
      obtain ⟨c0, c1, c2, c3, c4, c5⟩ := hxk.same (hbw.block b hb)
      cases hq : ISpot.ok l[k]
      all_goals
        have Hq := Lib.hid hq
        clear hq
        go_wp2_with (go_at_call 80; refine (ispot_bad g l[k] _ (cell_later hbw hg)).mono ?_; rintro e w' ⟨rfl, hb⟩; rw [Hq.out]; dsimp only [Bool.not_false, Bool.not_true])
      · go_ret
        refine ⟨ret_int ?_, hbw.trans (hb.mono hbw.size)⟩
        have hf : l.findIdx? (fun x => !ISpot.ok x) = some k := by
          rw [List.findIdx?_eq_some_iff_getElem]
          exact ⟨hlt, by simp [Hq.out], fun j hj => by simp [HN.out j (by omega) hj]⟩
        unfold firstIm; rw [hf]
      · go_roundw
        case rel => exact ⟨k + 1, by omega, by go_num, fun j h hj => by rcases Nat.lt_succ_iff_lt_or_eq.1 hj with h2 | rfl; exact HN.out j h h2; exact Hq.out, hbw.trans (hb.mono hbw.size)⟩
        case measure => simp [intOf]; omega
    · go_wp2
      go_ret
      obtain rfl : k = l.length := by omega
      refine ⟨ret_int ?_, hbw⟩
      have hf : l.findIdx? (fun x => !ISpot.ok x) = none := by
        rw [List.findIdx?_eq_none_iff]
        intro x hx
        obtain ⟨j, hj, rfl⟩ := List.getElem_of_mem hx
        simp [HN.out j hj hj]
      unfold firstIm; rw [hf]

theorem containsIm (g : Nat) (a : Option Addr) (cap : Nat) (l : List ISpot) (w : World) (hl : l.length < 9223372036854775807) (hx : ImSl w a l) (hg : w.cell? ⟨g, 0, none⟩ = some (.func (.func 79) #[] #[])) :
    Calls Try.prog 83 #[.slice a l.length cap, .func (.func 80) #[] #[.pointer (some ⟨g, 0, none⟩)]] w
      fun e w' => e = .returned (.bool (!l.all ISpot.ok)) ∧ Below w.heap.size w w' := by
  have h : decide (firstIm l ≥ 0) = !l.all ISpot.ok := by
    unfold firstIm
    cases hf : l.findIdx? (fun x => !ISpot.ok x) with
    | none =>
      rw [List.findIdx?_eq_none_iff] at hf
      have : l.all ISpot.ok = true := List.all_eq_true.2 fun x hx => by simpa using hf x hx
      rw [this]; rfl
    | some i =>
      rw [List.findIdx?_eq_some_iff_getElem] at hf
      obtain ⟨hi, hp, _⟩ := hf
      have : l.all ISpot.ok = false := by
        rw [List.all_eq_false]
        exact ⟨l[i], List.getElem_mem hi, by simpa using hp⟩
      rw [this]; simp
  have key := fun W => indexIm g a cap l W hl
  generalize firstIm l = n at h key
  have H := Lib.hid h
  clear h
  go_enter Try.func83, Try.ntmps83
  go_wp2_with (go_at_call 95; refine (key _ hx hg).mono ?_; rintro e w' ⟨rfl, hb⟩)
  go_ret
  exact ⟨ret_bool H.out, hb⟩
end Go.Proofs.Ytacioedolmaofaa
namespace Go.Proofs.Ytacioedolmaofaa
open Go.RowKit Go.Shelf
set_option maxHeartbeats 3200000
set_option maxRecDepth 100000
set_option linter.unusedSimpArgs false
set_option linter.unusedVariables false

theorem iheld {B : Nat} {w1 : World} {b o : Nat} {v : Value} (h : w1.cell? ⟨b, o, none⟩ = some v) (hB : w1.heap.size ≤ B) : ∀ W, Below B w1 W → W.cell? ⟨b, o, none⟩ = some v :=
  fun W hb => (hb.cell (p := ⟨b, o, none⟩) (Nat.lt_of_lt_of_le (World.block_lt_of_cell? w1 _ h) hB)).trans h

/-- A sheet in a box (or at the head of one). -/
structure ShAt (w : World) (p : Nat) (s : ISheet) (fa : Option Addr) (fc : Nat) : Prop where
  c0 : w.cell? ⟨p, 0, none⟩ = some (.int .i64 s.ax.lo)
  c1 : w.cell? ⟨p, 1, none⟩ = some (.int .i64 s.ax.hi)
  c2 : w.cell? ⟨p, 2, none⟩ = some (.int .i64 s.ay.lo)
  c3 : w.cell? ⟨p, 3, none⟩ = some (.int .i64 s.ay.hi)
  c4 : w.cell? ⟨p, 4, none⟩ = some (.int .i64 s.bx.lo)
  c5 : w.cell? ⟨p, 5, none⟩ = some (.int .i64 s.bx.hi)
  c6 : w.cell? ⟨p, 6, none⟩ = some (.int .i64 s.by'.lo)
  c7 : w.cell? ⟨p, 7, none⟩ = some (.int .i64 s.by'.hi)
  c8 : w.cell? ⟨p, 8, none⟩ = some (.int .i64 s.f.lo)
  c9 : w.cell? ⟨p, 9, none⟩ = some (.int .i64 s.f.hi)
  c10 : w.cell? ⟨p, 10, none⟩ = some (.int .i64 s.g.lo)
  c11 : w.cell? ⟨p, 11, none⟩ = some (.int .i64 s.g.hi)
  c12 : w.cell? ⟨p, 12, none⟩ = some (.int .i64 s.limit)
  c13 : w.cell? ⟨p, 13, none⟩ = some (.int .i64 s.flaws)
  c14 : w.cell? ⟨p, 14, none⟩ = some (.slice fa s.l.length fc)
theorem ShAt.same {w w' : World} {p : Nat} {s : ISheet} {fa : Option Addr} {fc : Nat} (h : ShAt w p s fa fc) (hb : w'.heap[p]? = w.heap[p]?) : ShAt w' p s fa fc :=
  ⟨(cell_same hb).trans h.c0, (cell_same hb).trans h.c1, (cell_same hb).trans h.c2, (cell_same hb).trans h.c3, (cell_same hb).trans h.c4, (cell_same hb).trans h.c5, (cell_same hb).trans h.c6, (cell_same hb).trans h.c7, (cell_same hb).trans h.c8, (cell_same hb).trans h.c9, (cell_same hb).trans h.c10, (cell_same hb).trans h.c11, (cell_same hb).trans h.c12, (cell_same hb).trans h.c13, (cell_same hb).trans h.c14⟩
theorem ShAt.lt {w : World} {p : Nat} {s : ISheet} {fa : Option Addr} {fc : Nat} (h : ShAt w p s fa fc) : p < w.heap.size := World.block_lt_of_cell? w _ h.c0
theorem ShAt.later {w w' : World} {p : Nat} {s : ISheet} {fa : Option Addr} {fc : Nat} (h : ShAt w p s fa fc) (hb : Below w.heap.size w w') : ShAt w' p s fa fc := h.same (hb.block p h.lt)
/-- The cells of a sheet. -/
def shL (s : ISheet) (fa : Option Addr) (fc : Nat) : List Value :=
  [.int .i64 s.ax.lo, .int .i64 s.ax.hi, .int .i64 s.ay.lo, .int .i64 s.ay.hi, .int .i64 s.bx.lo, .int .i64 s.bx.hi, .int .i64 s.by'.lo, .int .i64 s.by'.hi, .int .i64 s.f.lo, .int .i64 s.f.hi, .int .i64 s.g.lo, .int .i64 s.g.hi, .int .i64 s.limit, .int .i64 s.flaws, .slice fa s.l.length fc]
theorem ShAt.of {w : World} {p : Nat} {s : ISheet} {fa : Option Addr} {fc : Nat} {L : List Value} {T : TypeId} (h : w.heap[p]? = some (.cells (shL s fa fc ++ L).toArray T)) : ShAt w p s fa fc := by
  have k := fun i => cell_block h i
  exact ⟨k 0, k 1, k 2, k 3, k 4, k 5, k 6, k 7, k 8, k 9, k 10, k 11, k 12, k 13, k 14⟩

theorem sheet_ok (s : ISheet) : s.ok = ((decide (0 ≤ s.limit) && decide (s.limit ≤ 1000)) && (decide (0 ≤ s.flaws) && decide (s.flaws ≤ 9)) && decide (s.l.length ≤ 9) && [Stp.mk s.ax s.ay, Stp.mk s.bx s.by'].all Stp.ok && [s.f, s.g].all fadeOk && s.l.all ISpot.ok) := by
  unfold ISheet.ok
  simp only [List.all_cons, List.all_nil, Stp.ok, fadeOk, Bool.and_true]
  rw [Bool.eq_iff_iff]
  simp only [Bool.and_eq_true]
  constructor <;> (intro h; simp only [h, and_self, and_true, true_and])

theorem isheet_any (s : ISheet) (fa : Option Addr) (fc : Nat) (w : World) (hl : ImSl w fa s.l) (hlen : s.l.length < 9223372036854775807) :
    Calls Try.prog 67 #[.agg #[.int .i64 s.ax.lo, .int .i64 s.ax.hi, .int .i64 s.ay.lo, .int .i64 s.ay.hi, .int .i64 s.bx.lo, .int .i64 s.bx.hi, .int .i64 s.by'.lo, .int .i64 s.by'.hi, .int .i64 s.f.lo, .int .i64 s.f.hi, .int .i64 s.g.lo, .int .i64 s.g.hi, .int .i64 s.limit, .int .i64 s.flaws, .slice fa s.l.length fc]] w
      fun e w' => e = .returned (.bool s.ok) ∧ Below w.heap.size w w' := by
  have hso := sheet_ok s
  have HSO := Lib.hid hso
  clear hso
  have hli : (s.l.length : Int) < 9223372036854775807 := by omega
  go_enter Try.func67, Try.ntmps67
  go_upto_region 4 with fail
  obtain ⟨W0, hW0⟩ : ∃ W, ((w.alloc (.cells #[.int .i64 s.ax.lo, .int .i64 s.ax.hi, .int .i64 s.ay.lo, .int .i64 s.ay.hi, .int .i64 s.bx.lo, .int .i64 s.bx.hi, .int .i64 s.by'.lo, .int .i64 s.by'.hi, .int .i64 s.f.lo, .int .i64 s.f.hi, .int .i64 s.g.lo, .int .i64 s.g.hi, .int .i64 s.limit, .int .i64 s.flaws, .slice fa s.l.length fc] 30)).alloc (.cells #[.func (.func 79) #[] #[]] 117)) = W := ⟨_, rfl⟩
  rw [hW0]
  try simp only [Nat.add_assoc, Nat.reduceAdd]
  have hst_W0 : Steps (fun _ => False) w W0 := by rw [← hW0]; exact (Steps.alloc _ w _).trans (Steps.alloc (fun _ => False) _ _) (fun _ _ h => h)
  have hz_W0 : W0.heap.size = w.heap.size + 2 := by rw [← hW0]; simp
  have g0_W0 : W0.heap[w.heap.size]? = some (.cells #[.int .i64 s.ax.lo, .int .i64 s.ax.hi, .int .i64 s.ay.lo, .int .i64 s.ay.hi, .int .i64 s.bx.lo, .int .i64 s.bx.hi, .int .i64 s.by'.lo, .int .i64 s.by'.hi, .int .i64 s.f.lo, .int .i64 s.f.hi, .int .i64 s.g.lo, .int .i64 s.g.hi, .int .i64 s.limit, .int .i64 s.flaws, .slice fa s.l.length fc] 30) := by rw [← hW0]; simp only [alloc_get, World.size_alloc]; repeat (first | exact if_pos trivial | exact if_pos (by omega) | rw [if_neg (by omega)])
  have g1_W0 : W0.heap[w.heap.size + 1]? = some (.cells #[.func (.func 79) #[] #[]] 117) := by rw [← hW0]; simp only [alloc_get, World.size_alloc]; repeat (first | exact if_pos trivial | exact if_pos (by omega) | rw [if_neg (by omega)])
  clear hW0
  have hb0 : Below w.heap.size w W0 := hst_W0.below (Nat.le_refl _) (fun _ _ h => h)
  have hsh : ShAt W0 w.heap.size s fa fc := ShAt.of (L := []) g0_W0
  have hgf := cell_block g1_W0 0
  simp only [List.getElem?_toArray, List.getElem?_cons_zero] at hgf
  obtain ⟨q, hq⟩ : ∃ q, w.heap.size + 1 = q := ⟨_, rfl⟩
  obtain ⟨p, hp⟩ : ∃ p, w.heap.size = p := ⟨_, rfl⟩
  rw [hp] at hsh
  rw [hq] at hgf
  try rw [hq]
  try rw [hp]
  clear g0_W0 g1_W0 hz_W0 hst_W0 hq
  have hlW := hl.below hb0 (Nat.le_refl _)
  have HF := Lib.hid hp
  clear hl hp
  obtain ⟨b, hb⟩ : ∃ b, ((decide (0 ≤ s.limit) && decide (s.limit ≤ 1000)) && (decide (0 ≤ s.flaws) && decide (s.flaws ≤ 9)) && decide (s.l.length ≤ 9)) = b := ⟨_, rfl⟩
  rw [hb] at HSO
  have HBB := Lib.hid hb
  clear hb
  go_cut [6] (fun s6 wx => s6 = .bool b ∧ wx = W0)
  case first =>
    obtain ⟨c0, c1, c2, c3, c4, c5, c6, c7, c8, c9, c10, c11, c12, c13, c14⟩ := hsh
    cases h1 : (decide (0 ≤ s.limit) && decide (s.limit ≤ 1000))
    · have hbf : b = false := by rw [← HBB.out, h1]; rfl
      subst hbf
      have H1 := Lib.hid h1
      clear h1
      go_wp2_with fail
      refine (iwithin_any _ _ _ _).mono ?_
      rintro e w1 ⟨rfl, rfl⟩
      rw [H1.out]
      go_wp2_with fail
      go_meet
      exact ⟨rfl, rfl⟩
    · have H1 := Lib.hid h1
      clear h1
      go_wp2_with fail
      refine (iwithin_any _ _ _ _).mono ?_
      rintro e w1 ⟨rfl, rfl⟩
      rw [H1.out]
      cases h2 : (decide (0 ≤ s.flaws) && decide (s.flaws ≤ 9))
      · have hbf : b = false := by rw [← HBB.out, H1.out, h2]; rfl
        subst hbf
        have H2 := Lib.hid h2
        clear h2
        go_wp2_with fail
        refine (iwithin_any _ _ _ _).mono ?_
        rintro e w1 ⟨rfl, rfl⟩
        rw [H2.out]
        go_wp2_with fail
        go_meet
        exact ⟨rfl, rfl⟩
      · have hbf : b = decide ((s.l.length : Int) ≤ 9) := by
          rw [← HBB.out, H1.out, h2, Bool.true_and, Bool.true_and]
          exact decide_eq_decide.2 (by omega)
        have H2 := Lib.hid h2
        have H3 := Lib.hid hbf
        clear h2 hbf
        go_wp2_with fail
        refine (iwithin_any _ _ _ _).mono ?_
        rintro e w1 ⟨rfl, rfl⟩
        rw [H2.out]
        go_wp2_with fail
        go_meet
        refine ⟨?_, rfl⟩
        first | (rw [H3.out]; rfl) | (rw [H3.out])
  case rest =>
    obtain ⟨rfl, rfl⟩ := hcut
    have hst : StSl wc.drew (some ⟨p, 0, none⟩) [Stp.mk s.ax s.ay, Stp.mk s.bx s.by'] := by
      intro k hk
      match k, hk with
      | 0, _ => exact ⟨p, 0, rfl, hsh.lt, ⟨hsh.c0, hsh.c1, hsh.c2, hsh.c3⟩⟩
      | 1, _ => exact ⟨p, 0, rfl, hsh.lt, ⟨hsh.c4, hsh.c5, hsh.c6, hsh.c7⟩⟩
    have hsz : SzSl wc.drew (some ⟨p, 8, none⟩) [s.f, s.g] := by
      intro k hk
      match k, hk with
      | 0, _ => exact ⟨p, 8, rfl, hsh.lt, ⟨hsh.c8, hsh.c9⟩⟩
      | 1, _ => exact ⟨p, 8, rfl, hsh.lt, ⟨hsh.c10, hsh.c11⟩⟩
    have him : ImSl wc.drew fa s.l := hlW.below (below_drew wc) (Nat.le_refl _)
    have hgd : wc.drew.cell? ⟨q, 0, none⟩ = some (.func (.func 79) #[] #[]) := hgf
    have hS14 := iheld hsh.c14 (Nat.le_refl _)
    have hSg := iheld hgf (Nat.le_refl _)
    go_upto_region 5 with fail
    refine (wpIn_wide (n := 1)).1 ?_
    refine wpIn_region_Wn (S := Below wc.heap.size wc) 23 (by kernel_rfl) (by kernel_rfl) (below_drew wc) (fun hHeld => ?_)
    cases b
    ·
      refine wTk 0 22 ?_ ?_ ?_
      rotate_left
      · intro o h w k; (try dsimp only at k); simp only [gA, gB, gC, gG] at h; subst h; go_simp; try with_reducible rfl
      simp only [Act.put, gD, gE, gF]
      refine wTk 1 23 ?_ ?_ ?_
      rotate_left
      · intro o h w k; (try dsimp only at k); simp only [gA, gB, gC, gG] at h; subst h; go_simp; try with_reducible rfl
      simp only [Act.put, gD, gE, gF]
      refine wpAnyW_skipD 2 24 (by kernel_rfl) (by kernel_rfl) (by kernel_rfl) (by kernel_rfl) (fun _ _ _ h => h) (by assumption) ?_
      simp only [Act.put, gD, gE, gF]
      refine wpAnyW_skipD 3 25 (by kernel_rfl) (by kernel_rfl) (by kernel_rfl) (by kernel_rfl) (fun _ _ _ h => h) (by assumption) ?_
      simp only [Act.put, gD, gE, gF]
      refine wpAnyW_skipD 4 26 (by kernel_rfl) (by kernel_rfl) (by kernel_rfl) (by kernel_rfl) (fun _ _ _ h => h) (by assumption) ?_
      simp only [Act.put, gD, gE, gF]
      refine wpAnyW_skipD 5 27 (by kernel_rfl) (by kernel_rfl) (by kernel_rfl) (by kernel_rfl) (fun _ _ _ h => h) (by assumption) ?_
      simp only [Act.put, gD, gE, gF]
      refine wpAnyW_skipD 6 28 (by kernel_rfl) (by kernel_rfl) (by kernel_rfl) (by kernel_rfl) (fun _ _ _ h => h) (by assumption) ?_
      simp only [Act.put, gD, gE, gF]
      refine wTk 7 29 ?_ ?_ ?_
      rotate_left
      · intro o h w k; (try dsimp only at k); simp only [gA, gB, gC, gG] at h; subst h; go_simp; try with_reducible rfl
      simp only [Act.put, gD, gE, gF]
      refine wTk 8 30 ?_ ?_ ?_
      rotate_left
      · intro o h w k; (try dsimp only at k); simp only [gA, gB, gC, gG] at h; subst h; go_simp; try with_reducible rfl
      simp only [Act.put, gD, gE, gF]
      refine wpAnyW_skipD 9 31 (by kernel_rfl) (by kernel_rfl) (by kernel_rfl) (by kernel_rfl) (fun _ _ _ h => h) (by assumption) ?_
      simp only [Act.put, gD, gE, gF]
      refine wpAnyW_skipD 10 32 (by kernel_rfl) (by kernel_rfl) (by kernel_rfl) (by kernel_rfl) (fun _ _ _ h => h) (by assumption) ?_
      simp only [Act.put, gD, gE, gF]
      refine wpAnyW_skipD 11 33 (by kernel_rfl) (by kernel_rfl) (by kernel_rfl) (by kernel_rfl) (fun _ _ _ h => h) (by assumption) ?_
      simp only [Act.put, gD, gE, gF]
      refine wpAnyW_skipD 12 34 (by kernel_rfl) (by kernel_rfl) (by kernel_rfl) (by kernel_rfl) (fun _ _ _ h => h) (by assumption) ?_
      simp only [Act.put, gD, gE, gF]
      refine wpAnyW_skipD 13 35 (by kernel_rfl) (by kernel_rfl) (by kernel_rfl) (by kernel_rfl) (fun _ _ _ h => h) (by assumption) ?_
      simp only [Act.put, gD, gE, gF]
      refine wTk 14 36 ?_ ?_ ?_
      rotate_left
      · intro o h w k; (try dsimp only at k); simp only [gA, gB, gC, gG] at h; subst h; go_simp; try with_reducible rfl
      simp only [Act.put, gD, gE, gF]
      refine wTk 15 37 ?_ ?_ ?_
      rotate_left
      · intro o h w k; (try dsimp only at k); simp only [gA, gB, gC, gG] at h; subst h; go_simp; try with_reducible rfl
      simp only [Act.put, gD, gE, gF]
      refine wpAnyW_skipD 16 38 (by kernel_rfl) (by kernel_rfl) (by kernel_rfl) (by kernel_rfl) (fun _ _ _ h => h) (by assumption) ?_
      simp only [Act.put, gD, gE, gF]
      refine wpAnyW_skipD 17 39 (by kernel_rfl) (by kernel_rfl) (by kernel_rfl) (by kernel_rfl) (fun _ _ _ h => h) (by assumption) ?_
      simp only [Act.put, gD, gE, gF]
      refine wpAnyW_skipD 18 40 (by kernel_rfl) (by kernel_rfl) (by kernel_rfl) (by kernel_rfl) (fun _ _ _ h => h) (by assumption) ?_
      simp only [Act.put, gD, gE, gF]
      refine wpAnyW_skipD 19 41 (by kernel_rfl) (by kernel_rfl) (by kernel_rfl) (by kernel_rfl) (fun _ _ _ h => h) (by assumption) ?_
      simp only [Act.put, gD, gE, gF]
      refine wpAnyW_skipD 20 42 (by kernel_rfl) (by kernel_rfl) (by kernel_rfl) (by kernel_rfl) (fun _ _ _ h => h) (by assumption) ?_
      simp only [Act.put, gD, gE, gF]
      refine wTk 21 43 ?_ ?_ ?_
      rotate_left
      · intro o h w k; (try dsimp only at k); simp only [gA, gB, gC, gG] at h; subst h; go_simp; try with_reducible rfl
      simp only [Act.put, gD, gE, gF]
      refine wTk 22 2 ?_ ?_ ?_
      rotate_left
      · intro o h w k; (try dsimp only at k); simp only [gA, gB, gC, gG] at h; subst h; go_simp; try with_reducible rfl
      simp only [Act.put, gD, gE, gF]
      refine wpAnyW_done (by kernel_rfl) ?_ _
      dsimp only [onNormal]
      go_wp2_with fail
      go_ret
      exact ⟨ret_bool (by rw [HSO.out]; rfl), hb0.trans (hHeld.mono hb0.size)⟩
    ·
      refine wTk 0 22 ?_ ?_ ?_
      rotate_left
      · intro o h w k; (try dsimp only at k); simp only [gA, gB, gC, gG] at h; subst h; go_simp; try with_reducible rfl
      simp only [Act.put, gD, gE, gF]
      refine wTk 1 23 ?_ ?_ ?_
      rotate_left
      · intro o h w k; (try dsimp only at k); simp only [gA, gB, gC, gG] at h; subst h; go_simp; try with_reducible rfl
      simp only [Act.put, gD, gE, gF]
      refine wTk 2 24 ?_ ?_ ?_
      rotate_left
      · intro o h w k; (try dsimp only at k); simp only [gA, gB, gC, gG] at h; subst h; go_simp; try with_reducible rfl
      simp only [Act.put, gD, gE, gF]
      refine wTk 3 25 ?_ ?_ ?_
      rotate_left
      · intro o h w k; (try dsimp only at k); simp only [gA, gB, gC, gG] at h; subst h; go_simp; try with_reducible rfl
      simp only [Act.put, gD, gE, gF]
      refine wTk 4 26 ?_ ?_ ?_
      rotate_left
      · intro o h w k; (try dsimp only at k); simp only [gA, gB, gC, gG] at h; subst h; go_simp; try with_reducible rfl
      simp only [Act.put, gD, gE, gF]
      refine wpAnyW_one 5 (by kernel_rfl) (by kernel_rfl) ?_
      intro o ho K hK
      simp only [gA, gB, gC, gG] at ho
      subst ho
      go_simp
      refine ⟨trivial, CallsIn.mono (callsIn_wide.2 (containsSt (some ⟨p, 0, none⟩) 2 [Stp.mk s.ax s.ay, Stp.mk s.bx s.by'] _ (by simp) hst)) ?_⟩
      rintro e w1 ⟨rfl, hb1⟩
      have hH1 := hHeld.trans (hb1.mono hHeld.size)
      refine hK _ _ hH1 (fun _ => ?_)
      clear hK K
      try simp only [Act.put, gD, gE, gF]
      cases h1 : [Stp.mk s.ax s.ay, Stp.mk s.bx s.by'].all Stp.ok
      ·
        refine wTk 6 28 ?_ ?_ ?_
        rotate_left
        · intro o h w k; (try dsimp only at k); simp only [gA, gB, gC, gG] at h; subst h; go_simp; try with_reducible rfl
        simp only [Act.put, gD, gE, gF]
        refine wTk 7 29 ?_ ?_ ?_
        rotate_left
        · intro o h w k; (try dsimp only at k); simp only [gA, gB, gC, gG] at h; subst h; go_simp; try with_reducible rfl
        simp only [Act.put, gD, gE, gF]
        refine wTk 8 30 ?_ ?_ ?_
        rotate_left
        · intro o h w k; (try dsimp only at k); simp only [gA, gB, gC, gG] at h; subst h; go_simp; try with_reducible rfl
        simp only [Act.put, gD, gE, gF]
        refine wpAnyW_skipD 9 31 (by kernel_rfl) (by kernel_rfl) (by kernel_rfl) (by kernel_rfl) (fun _ _ _ h => h) (by assumption) ?_
        simp only [Act.put, gD, gE, gF]
        refine wpAnyW_skipD 10 32 (by kernel_rfl) (by kernel_rfl) (by kernel_rfl) (by kernel_rfl) (fun _ _ _ h => h) (by assumption) ?_
        simp only [Act.put, gD, gE, gF]
        refine wpAnyW_skipD 11 33 (by kernel_rfl) (by kernel_rfl) (by kernel_rfl) (by kernel_rfl) (fun _ _ _ h => h) (by assumption) ?_
        simp only [Act.put, gD, gE, gF]
        refine wpAnyW_skipD 12 34 (by kernel_rfl) (by kernel_rfl) (by kernel_rfl) (by kernel_rfl) (fun _ _ _ h => h) (by assumption) ?_
        simp only [Act.put, gD, gE, gF]
        refine wpAnyW_skipD 13 35 (by kernel_rfl) (by kernel_rfl) (by kernel_rfl) (by kernel_rfl) (fun _ _ _ h => h) (by assumption) ?_
        simp only [Act.put, gD, gE, gF]
        refine wTk 14 36 ?_ ?_ ?_
        rotate_left
        · intro o h w k; (try dsimp only at k); simp only [gA, gB, gC, gG] at h; subst h; go_simp; try with_reducible rfl
        simp only [Act.put, gD, gE, gF]
        refine wTk 15 37 ?_ ?_ ?_
        rotate_left
        · intro o h w k; (try dsimp only at k); simp only [gA, gB, gC, gG] at h; subst h; go_simp; try with_reducible rfl
        simp only [Act.put, gD, gE, gF]
        refine wpAnyW_skipD 16 38 (by kernel_rfl) (by kernel_rfl) (by kernel_rfl) (by kernel_rfl) (fun _ _ _ h => h) (by assumption) ?_
        simp only [Act.put, gD, gE, gF]
        refine wpAnyW_skipD 17 39 (by kernel_rfl) (by kernel_rfl) (by kernel_rfl) (by kernel_rfl) (fun _ _ _ h => h) (by assumption) ?_
        simp only [Act.put, gD, gE, gF]
        refine wpAnyW_skipD 18 40 (by kernel_rfl) (by kernel_rfl) (by kernel_rfl) (by kernel_rfl) (fun _ _ _ h => h) (by assumption) ?_
        simp only [Act.put, gD, gE, gF]
        refine wpAnyW_skipD 19 41 (by kernel_rfl) (by kernel_rfl) (by kernel_rfl) (by kernel_rfl) (fun _ _ _ h => h) (by assumption) ?_
        simp only [Act.put, gD, gE, gF]
        refine wpAnyW_skipD 20 42 (by kernel_rfl) (by kernel_rfl) (by kernel_rfl) (by kernel_rfl) (fun _ _ _ h => h) (by assumption) ?_
        simp only [Act.put, gD, gE, gF]
        refine wTk 21 43 ?_ ?_ ?_
        rotate_left
        · intro o h w k; (try dsimp only at k); simp only [gA, gB, gC, gG] at h; subst h; go_simp; try with_reducible rfl
        simp only [Act.put, gD, gE, gF]
        refine wTk 22 2 ?_ ?_ ?_
        rotate_left
        · intro o h w k; (try dsimp only at k); simp only [gA, gB, gC, gG] at h; subst h; go_simp; try with_reducible rfl
        simp only [Act.put, gD, gE, gF]
        refine wpAnyW_done (by kernel_rfl) ?_ _
        dsimp only [onNormal]
        go_wp2_with fail
        go_ret
        exact ⟨ret_bool (by rw [HSO.out, h1]; rfl), hb0.trans (hH1.mono hb0.size)⟩
      ·
        refine wTk 6 28 ?_ ?_ ?_
        rotate_left
        · intro o h w k; (try dsimp only at k); simp only [gA, gB, gC, gG] at h; subst h; go_simp; try with_reducible rfl
        simp only [Act.put, gD, gE, gF]
        refine wTk 7 29 ?_ ?_ ?_
        rotate_left
        · intro o h w k; (try dsimp only at k); simp only [gA, gB, gC, gG] at h; subst h; go_simp; try with_reducible rfl
        simp only [Act.put, gD, gE, gF]
        refine wTk 8 30 ?_ ?_ ?_
        rotate_left
        · intro o h w k; (try dsimp only at k); simp only [gA, gB, gC, gG] at h; subst h; go_simp; try with_reducible rfl
        simp only [Act.put, gD, gE, gF]
        refine wTk 9 31 ?_ ?_ ?_
        rotate_left
        · intro o h w k; (try dsimp only at k); simp only [gA, gB, gC, gG] at h; subst h; go_simp; try with_reducible rfl
        simp only [Act.put, gD, gE, gF]
        refine wTk 10 32 ?_ ?_ ?_
        rotate_left
        · intro o h w k; (try dsimp only at k); simp only [gA, gB, gC, gG] at h; subst h; go_simp; try with_reducible rfl
        simp only [Act.put, gD, gE, gF]
        refine wTk 11 33 ?_ ?_ ?_
        rotate_left
        · intro o h w k; (try dsimp only at k); simp only [gA, gB, gC, gG] at h; subst h; go_simp; try with_reducible rfl
        simp only [Act.put, gD, gE, gF]
        refine wpAnyW_one 12 (by kernel_rfl) (by kernel_rfl) ?_
        intro o ho K hK
        simp only [gA, gB, gC, gG] at ho
        subst ho
        go_simp
        refine ⟨trivial, CallsIn.mono (callsIn_wide.2 (containsSz (some ⟨p, 8, none⟩) 2 [s.f, s.g] _ (by simp) (hsz.below hb1 (Nat.le_refl _)))) ?_⟩
        rintro e w2 ⟨rfl, hb2⟩
        have hH2 := hH1.trans (hb2.mono hH1.size)
        refine hK _ _ hH2 (fun _ => ?_)
        clear hK K
        try simp only [Act.put, gD, gE, gF]
        cases h2 : [s.f, s.g].all fadeOk
        ·
          refine wTk 13 35 ?_ ?_ ?_
          rotate_left
          · intro o h w k; (try dsimp only at k); simp only [gA, gB, gC, gG] at h; subst h; go_simp; try with_reducible rfl
          simp only [Act.put, gD, gE, gF]
          refine wTk 14 36 ?_ ?_ ?_
          rotate_left
          · intro o h w k; (try dsimp only at k); simp only [gA, gB, gC, gG] at h; subst h; go_simp; try with_reducible rfl
          simp only [Act.put, gD, gE, gF]
          refine wTk 15 37 ?_ ?_ ?_
          rotate_left
          · intro o h w k; (try dsimp only at k); simp only [gA, gB, gC, gG] at h; subst h; go_simp; try with_reducible rfl
          simp only [Act.put, gD, gE, gF]
          refine wpAnyW_skipD 16 38 (by kernel_rfl) (by kernel_rfl) (by kernel_rfl) (by kernel_rfl) (fun _ _ _ h => h) (by assumption) ?_
          simp only [Act.put, gD, gE, gF]
          refine wpAnyW_skipD 17 39 (by kernel_rfl) (by kernel_rfl) (by kernel_rfl) (by kernel_rfl) (fun _ _ _ h => h) (by assumption) ?_
          simp only [Act.put, gD, gE, gF]
          refine wpAnyW_skipD 18 40 (by kernel_rfl) (by kernel_rfl) (by kernel_rfl) (by kernel_rfl) (fun _ _ _ h => h) (by assumption) ?_
          simp only [Act.put, gD, gE, gF]
          refine wpAnyW_skipD 19 41 (by kernel_rfl) (by kernel_rfl) (by kernel_rfl) (by kernel_rfl) (fun _ _ _ h => h) (by assumption) ?_
          simp only [Act.put, gD, gE, gF]
          refine wpAnyW_skipD 20 42 (by kernel_rfl) (by kernel_rfl) (by kernel_rfl) (by kernel_rfl) (fun _ _ _ h => h) (by assumption) ?_
          simp only [Act.put, gD, gE, gF]
          refine wTk 21 43 ?_ ?_ ?_
          rotate_left
          · intro o h w k; (try dsimp only at k); simp only [gA, gB, gC, gG] at h; subst h; go_simp; try with_reducible rfl
          simp only [Act.put, gD, gE, gF]
          refine wTk 22 2 ?_ ?_ ?_
          rotate_left
          · intro o h w k; (try dsimp only at k); simp only [gA, gB, gC, gG] at h; subst h; go_simp; try with_reducible rfl
          simp only [Act.put, gD, gE, gF]
          refine wpAnyW_done (by kernel_rfl) ?_ _
          dsimp only [onNormal]
          go_wp2_with fail
          go_ret
          exact ⟨ret_bool (by rw [HSO.out, h1, h2]; rfl), hb0.trans (hH2.mono hb0.size)⟩
        ·
          refine wTk 13 35 ?_ ?_ ?_
          rotate_left
          · intro o h w k; (try dsimp only at k); simp only [gA, gB, gC, gG] at h; subst h; go_simp; try with_reducible rfl
          simp only [Act.put, gD, gE, gF]
          refine wTk 14 36 ?_ ?_ ?_
          rotate_left
          · intro o h w k; (try dsimp only at k); simp only [gA, gB, gC, gG] at h; subst h; go_simp; try with_reducible rfl
          simp only [Act.put, gD, gE, gF]
          refine wTk 15 37 ?_ ?_ ?_
          rotate_left
          · intro o h w k; (try dsimp only at k); simp only [gA, gB, gC, gG] at h; subst h; go_simp; try with_reducible rfl
          simp only [Act.put, gD, gE, gF]
          refine wTk 16 38 ?_ ?_ ?_
          rotate_left
          · intro o h w k; (try dsimp only at k); simp only [gA, gB, gC, gG] at h; subst h; go_simp; try with_reducible rfl
          simp only [Act.put, gD, gE, gF]
          refine wTk 17 39 ?_ ?_ ?_
          rotate_left
          · intro o h w k; (try dsimp only at k); simp only [gA, gB, gC, gG] at h; subst h; go_simp; try with_reducible rfl
          simp only [Act.put, gD, gE, gF]
          refine wTk 18 40 ?_ ?_ ?_
          rotate_left
          · intro o h w k; (try dsimp only at k); simp only [gA, gB, gC, gG] at h; subst h; go_simp; try with_reducible rfl
          simp only [Act.put, gD, gE, gF]
          refine wpAnyW_one 19 (by kernel_rfl) (by kernel_rfl) ?_
          intro o ho K hK
          simp only [gA, gB, gC, gG] at ho
          subst ho
          go_simp
          refine ⟨trivial, CallsIn.mono (callsIn_wide.2 (containsIm q fa fc s.l _ hlen ((him.below hb1 (Nat.le_refl _)).below hb2 (Nat.le_refl _)) (hSg _ hH2))) ?_⟩
          rintro e w3 ⟨rfl, hb3⟩
          have hH3 := hH2.trans (hb3.mono hH2.size)
          refine hK _ _ hH3 (fun _ => ?_)
          clear hK K
          try simp only [Act.put, gD, gE, gF]
          refine wTk 20 42 ?_ ?_ ?_
          rotate_left
          · intro o h w k; (try dsimp only at k); simp only [gA, gB, gC, gG] at h; subst h; go_simp; try with_reducible rfl
          simp only [Act.put, gD, gE, gF]
          refine wTk 21 43 ?_ ?_ ?_
          rotate_left
          · intro o h w k; (try dsimp only at k); simp only [gA, gB, gC, gG] at h; subst h; go_simp; try with_reducible rfl
          simp only [Act.put, gD, gE, gF]
          refine wTk 22 2 ?_ ?_ ?_
          rotate_left
          · intro o h w k; (try dsimp only at k); simp only [gA, gB, gC, gG] at h; subst h; go_simp; try with_reducible rfl
          simp only [Act.put, gD, gE, gF]
          refine wpAnyW_done (by kernel_rfl) ?_ _
          dsimp only [onNormal]
          go_wp2_with fail
          go_ret
          exact ⟨ret_bool (by rw [HSO.out, h1, h2]; simp), hb0.trans (hH3.mono hb0.size)⟩
end Go.Proofs.Ytacioedolmaofaa
