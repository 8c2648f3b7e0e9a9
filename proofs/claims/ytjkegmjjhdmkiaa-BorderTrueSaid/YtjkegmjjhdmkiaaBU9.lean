/- Package border: the iterator over all shifts. -/
import Derived.Test.YtjkegmjjhdmkiaaBU8
import Derived.Shelf.Abstract
import Derived.Shelf.RegionOpen
import Derived.OwnWalkIn
import Derived.TacticsInMore
import Derived.LoopNIn
import Derived.LoopIn
namespace Go.Proofs.Ytjkegmjjhdmkiaa
open Go.RowKit Go.Shelf
attribute [local go_sem] Oper.semAt_some
set_option maxHeartbeats 1600000
set_option maxRecDepth 100000
set_option linter.unusedSimpArgs false

theorem range_split (n i : Nat) (h : i < n) : ∃ t, List.range n = List.range i ++ i :: t := by
  induction n with
  | zero => omega
  | succ n ih =>
    rw [List.range_succ]
    by_cases e : i = n
    · subst e; exact ⟨[], rfl⟩
    · obtain ⟨t, ht⟩ := ih (by omega)
      exact ⟨t ++ [n], by rw [ht]; simp⟩

/-- The shifts of one east, in order; all shifts, in order. -/
def eastN (b : Bo) : Nat := (b.e.hi - b.e.lo + 1).toNat
def northN (b : Bo) : Nat := (b.n.hi - b.n.lo + 1).toNat
def shiftRow (b : Bo) (i j : Nat) : List (Int × Int) := (List.range j).map fun (k : Nat) => (b.e.lo + i, b.n.lo + k)
def shiftsTo (b : Bo) (i : Nat) : List (Int × Int) := (List.range i).flatMap fun k => shiftRow b k (northN b)
def shiftsOf (b : Bo) : List (Int × Int) := shiftsTo b (eastN b)
theorem shiftsTo_succ (b : Bo) (i : Nat) : shiftsTo b (i + 1) = shiftsTo b i ++ shiftRow b i (northN b) := by simp [shiftsTo, List.range_succ]
theorem shiftRow_succ (b : Bo) (i j : Nat) : shiftRow b i (j + 1) = shiftRow b i j ++ [(b.e.lo + (i : Int), b.n.lo + (j : Int))] := by simp [shiftRow, List.range_succ]
theorem shifts_split (b : Bo) (i j : Nat) (hi : i < eastN b) (hj : j < northN b) : ∃ post, shiftsOf b = (shiftsTo b i ++ shiftRow b i j) ++ (b.e.lo + (i : Int), b.n.lo + (j : Int)) :: post := by
  obtain ⟨t, ht⟩ := range_split _ _ hi
  obtain ⟨u, hu⟩ := range_split _ _ hj
  refine ⟨u.map (fun (k : Nat) => (b.e.lo + (i : Int), b.n.lo + (k : Int))) ++ t.flatMap fun k => shiftRow b k (northN b), ?_⟩
  unfold shiftsOf shiftsTo
  rw [ht]
  simp [shiftRow, hu]

/-- What the iterator reads of a border lies as it lay. -/
def KeepCells (bs : Nat → Prop) (A C : World) : Prop := ∀ a v, bs a.block → A.cell? a = some v → C.cell? a = some v
theorem KeepCells.trans {bs : Nat → Prop} {A C D : World} (h : KeepCells bs A C) (k : KeepCells bs C D) : KeepCells bs A D := fun a v ha hv => k a v ha (h a v ha hv)
theorem KeepCells.refl (bs : Nat → Prop) (A : World) : KeepCells bs A A := fun _ _ _ h => h
theorem KeepCells.mono {bs bs' : Nat → Prop} {A C : World} (h : KeepCells bs A C) (hs : ∀ k, bs' k → bs k) : KeepCells bs' A C := fun a v ha hv => h a v (hs _ ha) hv
theorem KeepCells.of_steps {bs own : Nat → Prop} {A C : World} (h : Steps own A C) (hs : ∀ k, bs k → ¬ own k) : KeepCells bs A C := fun a v ha hv => by
  rw [World.cell?_of_block (w := A) (h.block a.block (World.block_lt_of_cell? A a hv) (hs _ ha))]; exact hv
abbrev ShKeep (p B : Nat) (A C : World) : Prop := KeepCells (fun k => k = p ∨ k = B) A C

theorem shifts_made (p : Nat) (w : World) : Calls Try.prog 77 #[.pointer (some ⟨p, 0, none⟩)] w fun e w' =>
    e = .returned (.func (.func 85) #[] #[.pointer (some ⟨w.heap.size, 0, none⟩)]) ∧ w' = w.alloc (.cells #[.pointer (some ⟨p, 0, none⟩)] 69) := by
  go_enter Try.func77, Try.ntmps77
  go_wp2
  go_ret
  exact ⟨rfl, rfl⟩

theorem shifts_seq (p B : Nat) (b : Bo) (fa sa : Option Addr) (fc sc : Nat) (W : World) (hok : b.ok = true) (hb : BoAt W p b fa sa fc sc) (hB : W.cell? ⟨B, 0, none⟩ = some (.pointer (some ⟨p, 0, none⟩))) :
    SeqOwn Try.prog 85 #[.pointer (some ⟨B, 0, none⟩)] (fun _ x vals _ => vals = #[shV x]) (ShKeep p B) (shiftsOf b) W := by
  intro l J Jx hJ hJx hY h0
  obtain ⟨he, hn⟩ : (-20 ≤ b.e.lo ∧ b.e.lo ≤ b.e.hi ∧ b.e.hi ≤ 20) ∧ (-20 ≤ b.n.lo ∧ b.n.lo ≤ b.n.hi ∧ b.n.hi ≤ 20) := by
    simp only [Bo.ok, Sp.ok, Bool.and_eq_true, decide_eq_true_eq] at hok; omega
  obtain ⟨he1, he2, he3⟩ := he
  obtain ⟨hn1, hn2, hn3⟩ := hn
  clear hok
  refine (callsIn_wide (n := 1)).1 ?_
  refine callsIn_of_wp Try.func85 rfl trivial ?_ rfl
  simp only [Try.ntmps85, List.size_toArray, List.length_cons, List.length_nil, Nat.reduceAdd, Nat.reduceSub, Array.replicate_succ, Array.replicate_zero, List.push_toArray, List.append_toArray, List.nil_append, List.cons_append]
  have c0 := hb.c0
  gi_wp2
  gi_loopw [3, 4] (fun i _ wr => ∃ k : Nat, k ≤ eastN b ∧ i = .int .i64 (b.e.lo + k) ∧ J (fun _ => False) (shiftsTo b k) wr ∧ ShKeep p B W wr) (fun i _ _ => (b.e.hi + 1 - intOf i).toNat)
  case atStart => exact ⟨0, Nat.zero_le _, by simp, h0, KeepCells.refl _ _⟩
  case round =>
    obtain ⟨wo, rfl⟩ : ∃ x, x = wr := ⟨_, rfl⟩
    obtain ⟨k, hk, rfl, hJo, hKo⟩ := hrel
    have hE : (eastN b : Int) = b.e.hi - b.e.lo + 1 := by unfold eastN; omega
    have hN : (northN b : Int) = b.n.hi - b.n.lo + 1 := by unfold northN; omega
    have a1 := hKo ⟨p, 1, none⟩ _ (.inl rfl) hb.c1
    have a2 := hKo ⟨p, 2, none⟩ _ (.inl rfl) hb.c2
    have a3 := hKo ⟨p, 3, none⟩ _ (.inl rfl) hb.c3
    have aB := hKo ⟨B, 0, none⟩ _ (.inr rfl) hB
    by_cases hlt : k < eastN b
    · have hle : b.e.lo + (k : Int) ≤ b.e.hi := by omega
      gi_wp2
      gi_loopw [4] (fun j wr => ∃ m : Nat, m ≤ northN b ∧ j = .int .i64 (b.n.lo + m) ∧ J (fun _ => False) (shiftsTo b k ++ shiftRow b k m) wr ∧ ShKeep p B W wr) (fun j _ => (b.n.hi + 1 - intOf j).toNat)
      case atStart => exact ⟨0, Nat.zero_le _, by simp, by simpa [shiftRow] using hJo, hKo⟩
      case round =>
        obtain ⟨wq, rfl⟩ : ∃ x, x = wr := ⟨_, rfl⟩
        obtain ⟨m, hm, rfl, hJq, hKq⟩ := hrel
        have d3 := hKq ⟨p, 3, none⟩ _ (.inl rfl) hb.c3
        have dB := hKq ⟨B, 0, none⟩ _ (.inr rfl) hB
        by_cases hmt : m < northN b
        · obtain ⟨fn, tmps, assign, body, hy, hR⟩ := hY (fun _ => False) _ (b.e.lo + (k : Int), b.n.lo + (m : Int)) _ wq (shifts_split b k m hlt hmt) hJq rfl
          unfold shV at hy
          gi_wp2
          refine hR.mono ?_
          rintro e W3 ⟨hk3, _, _, (⟨rfl, hJ3⟩ | ⟨rfl, hJx3⟩)⟩
          · gi_wp2
            go_roundw
            case rel => exact ⟨m + 1, by omega, by go_num, by rw [shiftRow_succ, ← List.append_assoc]; exact hJ3, hKq.trans hk3⟩
            case measure => simp [intOf]; omega
          · gi_wp2
            refine bodyPost_ret (results_none rfl _ _ _) rfl ?_
            obtain ⟨post, hpost⟩ := shifts_split b k m hlt hmt
            exact ⟨⟨_, rfl⟩, .inr ⟨_, _, ⟨post, by rw [hpost]; simp⟩, hJx3⟩⟩
        · obtain rfl : m = northN b := by omega
          gi_wp2
          go_roundw
          case rel => exact ⟨k + 1, by omega, by go_num, by rw [shiftsTo_succ]; exact hJq, hKq⟩
          case measure => simp [intOf]; omega
    · obtain rfl : k = eastN b := by omega
      gi_wp2
      go_end0
      exact ⟨⟨_, rfl⟩, .inl ⟨_, hJo⟩⟩
end Go.Proofs.Ytjkegmjjhdmkiaa
