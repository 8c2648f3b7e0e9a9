/- How stars and zones lie in memory, and small helpers for the walks over layer 6. The leaves of package border: spans, traits, sets, must. Package border: which stars are bad. Package border: which lists of stars are bad; opening a border. Package border: opening a border. Package border: shifts; whether two stars can be the same. Package math/bits: how many bits are set, of numbers below 4096. -/
import Derived.Test.YtjkegmjjhdmkiaaProg
import Derived.Test.YtjkegmjjhdmkiaaBU1
import Derived.Test.YtjkegmjjhdmkiaaBU2
import Derived.WalkKit
import Derived.Below
import Derived.Outline
import Derived.WalkLawsBesides
import Derived.WalkSpells
import Derived.Laws.EntriesVeiled
import Derived.Laws.BitsAllLaws
import Derived.Laws.ResultCell
import Derived.Deep.RegionHeld3
import Derived.BigQuiet
import Derived.Deep.QuietTactic
import Derived.Lib.Hide
import Derived.Deep.DeepCutAuto
namespace Go.Proofs.Ytjkegmjjhdmkiaa
open Go.RowKit

/-- The cells of a star. -/
structure EdAt (w : World) (b o : Nat) (x : Ed) : Prop where
  c0 : w.cell? ⟨b, o, none⟩ = some (.int .i64 x.e.lo)
  c1 : w.cell? ⟨b, o+1, none⟩ = some (.int .i64 x.e.hi)
  c2 : w.cell? ⟨b, o+2, none⟩ = some (.int .i64 x.n.lo)
  c3 : w.cell? ⟨b, o+3, none⟩ = some (.int .i64 x.n.hi)
  c4 : w.cell? ⟨b, o+4, none⟩ = some (.int .i64 x.b.lo)
  c5 : w.cell? ⟨b, o+5, none⟩ = some (.int .i64 x.b.hi)
  c6 : w.cell? ⟨b, o+6, none⟩ = some (.bool x.sure)

/-- The world of one block is as it was. -/
theorem cell_same {w w' : World} {b o : Nat} (h : w'.heap[b]? = w.heap[b]?) : w'.cell? ⟨b, o, none⟩ = w.cell? ⟨b, o, none⟩ :=
  World.cell?_of_block (a := ⟨b, o, none⟩) h

theorem EdAt.same {w w' : World} {b o : Nat} {x : Ed} (h : EdAt w b o x) (hb : w'.heap[b]? = w.heap[b]?) : EdAt w' b o x :=
  ⟨(cell_same hb).trans h.c0, (cell_same hb).trans h.c1, (cell_same hb).trans h.c2, (cell_same hb).trans h.c3, (cell_same hb).trans h.c4, (cell_same hb).trans h.c5, (cell_same hb).trans h.c6⟩

/-- A slice at a reads as the stars l. -/
def EdSl (w : World) (a : Option Addr) (l : List Ed) : Prop :=
  ∀ k (h : k < l.length), ∃ b o, a = some ⟨b, o, none⟩ ∧ b < w.heap.size ∧ EdAt w b (o + k * 7) l[k]

theorem EdSl.below {B : Nat} {w w' : World} {a : Option Addr} {l : List Ed} (h : EdSl w a l) (hb : Below B w w') (hB : w.heap.size ≤ B) : EdSl w' a l := by
  intro k hk
  obtain ⟨b, o, ha, hlt, hx⟩ := h k hk
  exact ⟨b, o, ha, Nat.lt_of_lt_of_le hlt hb.size, hx.same (hb.block b (by omega))⟩

theorem EdSl.nil (w : World) (a : Option Addr) : EdSl w a [] := fun k h => absurd h (Nat.not_lt_zero k)

/-- All old cells and marks read as before. -/
theorem bcell {B : Nat} {W w1 : World} (hb : Below B W w1) : (∀ b o, b < B → w1.cell? ⟨b, o, none⟩ = W.cell? ⟨b, o, none⟩) ∧ (∀ b o, b < B → w1.frozen? ⟨b, o, none⟩ = W.frozen? ⟨b, o, none⟩) :=
  ⟨fun b o h => hb.cell (p := ⟨b, o, none⟩) h, fun b o h => hb.frozen (p := ⟨b, o, none⟩) h⟩

/-- What a walk wants to know of sizes behind a call. -/
theorem bsize {B : Nat} {W w1 : World} (hb : Below B W w1) : (∀ n, n < W.heap.size → n < w1.heap.size) ∧ (∀ n, n < W.heap.size → ¬ n = w1.heap.size) ∧ (∀ n, n < W.heap.size → ¬ w1.heap.size = n) :=
  ⟨fun n h => Nat.lt_of_lt_of_le h hb.size, fun n h e => by have := hb.size; omega, fun n h e => by have := hb.size; omega⟩

/-- Two calls, one behind the other. -/
theorem bsize2 {x y : Nat} {W : World} (h : ∀ n, n < x → n < W.heap.size) (h' : ∀ n, n < W.heap.size → n < y) : (∀ n, n < x → n < y) ∧ (∀ n, n < x → ¬ n = y) ∧ (∀ n, n < x → ¬ y = n) :=
  ⟨fun n hn => h' n (h n hn), fun n hn => Nat.ne_of_lt (h' n (h n hn)), fun n hn e => Nat.ne_of_lt (h' n (h n hn)) e.symm⟩

theorem cell_new (w : World) (cs : Array Value) (T : TypeId) (i : Nat) (v : Value) (h : cs[i]? = some v) : (w.alloc (.cells cs T)).cell? ⟨w.heap.size, i, none⟩ = some v := by
  show (match (w.heap.push (Obj.cells cs T))[w.heap.size]? with | some (.cells c _ _) => if (none : Option Nat).isSome then none else c[i]? | _ => none) = some v
  rw [Array.getElem?_push_size]
  exact h
theorem EdAt.new (w : World) (x : Ed) (T : TypeId) :
    EdAt (w.alloc (.cells #[.int .i64 x.e.lo, .int .i64 x.e.hi, .int .i64 x.n.lo, .int .i64 x.n.hi, .int .i64 x.b.lo, .int .i64 x.b.hi, .bool x.sure] T)) w.heap.size 0 x :=
  ⟨cell_new _ _ _ _ _ rfl, cell_new _ _ _ _ _ rfl, cell_new _ _ _ _ _ rfl, cell_new _ _ _ _ _ rfl, cell_new _ _ _ _ _ rfl, cell_new _ _ _ _ _ rfl, cell_new _ _ _ _ _ rfl⟩
/-- A new block leaves all others. -/
theorem below_alloc (w : World) (o : Obj) : Below w.heap.size w (w.alloc o) := (Below.refl _ _).alloc (Nat.le_refl _) o
theorem obj_new (w : World) (o : Obj) : (w.alloc o).heap[w.heap.size]? = some o := by
  show (w.heap.push o)[w.heap.size]? = _
  rw [Array.getElem?_push_size]
theorem obj_later {w w' : World} (hb : Below w.heap.size w w') {r : Nat} {o : Obj} (h : w.heap[r]? = some o) : w'.heap[r]? = some o :=
  (hb.block r (Array.getElem?_eq_some_iff.1 h).1).trans h
theorem ret_int {k : IntKind} {a b : Int} (h : a = b) : Ending.returned (.int k a) = .returned (.int k b) := by rw [h]
theorem ret_bool {a b : Bool} (h : a = b) : Ending.returned (.bool a) = .returned (.bool b) := by rw [h]

theorem pow_u64 (k : Nat) (hk : k < 64) : IntKind.u64.wrap (2 ^ k) = ((2 ^ k : Nat) : Int) := by
  rw [IntKind.wrap_u64]
  have h : 2 ^ k < 2 ^ 64 := Nat.pow_lt_pow_right (by omega) hk
  have e : ((2 : Int) ^ k) = ((2 ^ k : Nat) : Int) := by simp
  rw [e]
  exact Int.emod_eq_of_lt (Int.natCast_nonneg _) (by have : ((2 ^ k : Nat) : Int) < ((2 ^ 64 : Nat) : Int) := Int.ofNat_lt.2 h; simpa using this)

theorem or_u64 (a b : Nat) (ha : a < 2 ^ 64) (hb : b < 2 ^ 64) : bits .or .u64 (a : Int) (b : Int) = ((a ||| b : Nat) : Int) := u64_or_nat a b (by omega) (by omega)
theorem and_u64 (a b : Nat) (ha : a < 2 ^ 64) (hb : b < 2 ^ 64) : bits .and .u64 (a : Int) (b : Int) = ((a &&& b : Nat) : Int) := u64_and_nat a b (by omega) (by omega)

theorem shr_u64 (a k : Nat) : ((a : Int) / 2 ^ k) = ((a / 2 ^ k : Nat) : Int) := by
  rw [Int.natCast_ediv]; simp

theorem has_bit (s k : Nat) (hs : s < 2 ^ 64) : (bits .and .u64 ((s : Int) / 2 ^ k) 1 == 1) = s.testBit k := by
  rw [shr_u64, show (1 : Int) = ((1 : Nat) : Int) from rfl, and_u64 _ _ (Nat.lt_of_le_of_lt (Nat.div_le_self _ _) hs) (by omega)]
  rw [Nat.testBit_eq_decide_div_mod_eq, Nat.and_one_is_mod]
  generalize s / 2 ^ k = t
  rw [Bool.eq_iff_iff]; simp; omega

end Go.Proofs.Ytjkegmjjhdmkiaa
namespace Go.Proofs.Ytjkegmjjhdmkiaa
open Go.RowKit
set_option maxHeartbeats 800000

theorem within_any (n lo hi : Int) (w : World) :
    Calls Try.prog 43 #[.int .i64 n, .int .i64 lo, .int .i64 hi] w fun e w' => e = .returned (.bool (decide (lo ≤ n) && decide (n ≤ hi))) ∧ w = w' := by
  go_enter Try.func43, Try.ntmps43
  go_wp2
  all_goals (go_ret; refine ⟨ret_bool ?_, rfl⟩)
  · have h : lo ≤ n := by assumption
    simp [h]
  · have h : n < lo := by assumption
    simp; omega

theorem isSpan_any (s : Sp) (lo hi : Int) (w : World) :
    Calls Try.prog 67 #[.agg #[.int .i64 s.lo, .int .i64 s.hi], .int .i64 lo, .int .i64 hi] w fun e w' => e = .returned (.bool (s.ok lo hi)) ∧ Below w.heap.size w w' := by
  obtain ⟨a, b⟩ := s
  simp only [Sp.ok]
  go_enter Try.func67, Try.ntmps67
  go_wp2
  all_goals (go_ret; refine ⟨ret_bool ?_, (Below.refl _ _).alloc (Nat.le_refl _) _⟩)
  · have h1 : lo ≤ a := by assumption
    have h2 : a ≤ b := by assumption
    simp [h1, h2]
  · have h1 : b < a := by assumption
    simp; omega
  · have h1 : a < lo := by assumption
    simp; omega

theorem has_any (s k : Nat) (w : World) (hs : s < 2 ^ 64) (hk : k < 64) :
    Calls Try.prog 46 #[.int .u64 s, .int .i64 k] w fun e w' => e = .returned (.bool (s.testBit k)) ∧ w = w' := by
  go_enter Try.func46, Try.ntmps46
  go_wp2
  go_ret
  exact ⟨ret_bool (has_bit s k hs), rfl⟩

theorem must_yes (x : Int) (w : World) :
    Calls Try.prog 42 #[.bool true, .int .i64 x] w fun e w' => e = .returned (.tuple #[]) ∧ w = w' := by
  go_enter Try.func42, Try.ntmps42
  go_wp2
  go_end0
  exact ⟨rfl, rfl⟩

/-- What 'must' panics with. -/
def failed (x : Int) : List PanicEntry := [{ v := .iface 122 (.agg #[.int .i64 x]), recovered := false }]

theorem must_no (x : Int) (w : World) :
    Calls Try.prog 42 #[.bool false, .int .i64 x] w fun e w' => e = .panicked (failed x) ∧ w = w' := by
  go_enter Try.func42, Try.ntmps42
  go_wp2
  exact ⟨rfl, rfl, rfl⟩

theorem trait1x (a b c d x y : Int) (s : Bool) (w : World) :
    Calls Try.prog 88 #[.agg #[.int .i64 a, .int .i64 b, .int .i64 c, .int .i64 d, .int .i64 x, .int .i64 y, .bool s]] w fun e w' => e = .returned (.agg #[.int .i64 a, .int .i64 b]) ∧ w' = (w.alloc (.cells #[.int .i64 a, .int .i64 b, .int .i64 c, .int .i64 d, .int .i64 x, .int .i64 y, .bool s] 55)).alloc (.cells #[.int .i64 a, .int .i64 b] 23) := by
  go_enter Try.func88, Try.ntmps88
  go_wp2
  exact bodyPost_ret (v := .agg #[.int .i64 a, .int .i64 b]) (by simp [results, Try.results88, go_sem]) rfl ⟨rfl, rfl⟩
theorem trait3x (a b c d x y : Int) (s : Bool) (w : World) :
    Calls Try.prog 90 #[.agg #[.int .i64 a, .int .i64 b, .int .i64 c, .int .i64 d, .int .i64 x, .int .i64 y, .bool s]] w fun e w' => e = .returned (.agg #[.int .i64 c, .int .i64 d]) ∧ w' = (w.alloc (.cells #[.int .i64 a, .int .i64 b, .int .i64 c, .int .i64 d, .int .i64 x, .int .i64 y, .bool s] 55)).alloc (.cells #[.int .i64 c, .int .i64 d] 23) := by
  go_enter Try.func90, Try.ntmps90
  go_wp2
  exact bodyPost_ret (v := .agg #[.int .i64 c, .int .i64 d]) (by simp [results, Try.results90, go_sem]) rfl ⟨rfl, rfl⟩
theorem trait5x (a b c d x y : Int) (s : Bool) (w : World) :
    Calls Try.prog 92 #[.agg #[.int .i64 a, .int .i64 b, .int .i64 c, .int .i64 d, .int .i64 x, .int .i64 y, .bool s]] w fun e w' => e = .returned (.agg #[.int .i64 x, .int .i64 y]) ∧ w' = (w.alloc (.cells #[.int .i64 a, .int .i64 b, .int .i64 c, .int .i64 d, .int .i64 x, .int .i64 y, .bool s] 55)).alloc (.cells #[.int .i64 x, .int .i64 y] 23) := by
  go_enter Try.func92, Try.ntmps92
  go_wp2
  exact bodyPost_ret (v := .agg #[.int .i64 x, .int .i64 y]) (by simp [results, Try.results92, go_sem]) rfl ⟨rfl, rfl⟩
theorem trait2x (x y : Int) (w : World) :
    Calls Try.prog 89 #[.agg #[.int .i64 x, .int .i64 y]] w fun e w' => e = .returned (.int .i64 x) ∧ w' = w.alloc (.cells #[.int .i64 x, .int .i64 y] 72) := by
  go_enter Try.func89, Try.ntmps89
  go_wp2
  go_ret
  exact ⟨rfl, rfl⟩
theorem trait4x (x y : Int) (w : World) :
    Calls Try.prog 91 #[.agg #[.int .i64 x, .int .i64 y]] w fun e w' => e = .returned (.int .i64 y) ∧ w' = w.alloc (.cells #[.int .i64 x, .int .i64 y] 72) := by
  go_enter Try.func91, Try.ntmps91
  go_wp2
  go_ret
  exact ⟨rfl, rfl⟩
theorem trait6x (x y : Int) (w : World) :
    Calls Try.prog 93 #[.agg #[.int .i64 x, .int .i64 y]] w fun e w' => e = .returned (.int .i64 0) ∧ w' = w.alloc (.cells #[.int .i64 x, .int .i64 y] 72) := by
  go_enter Try.func93, Try.ntmps93
  go_wp2
  go_ret
  exact ⟨rfl, rfl⟩

theorem trait1 (a b c d x y : Int) (s : Bool) (w : World) :
    Calls Try.prog 88 #[.agg #[.int .i64 a, .int .i64 b, .int .i64 c, .int .i64 d, .int .i64 x, .int .i64 y, .bool s]] w fun e w' => e = .returned (.agg #[.int .i64 a, .int .i64 b]) ∧ Below w.heap.size w w' :=
  (trait1x a b c d x y s w).mono fun _ _ ⟨he, hw⟩ => ⟨he, by rw [hw]; exact ((Below.refl _ _).alloc (Nat.le_refl _) _).alloc (by simp) _⟩
theorem trait3 (a b c d x y : Int) (s : Bool) (w : World) :
    Calls Try.prog 90 #[.agg #[.int .i64 a, .int .i64 b, .int .i64 c, .int .i64 d, .int .i64 x, .int .i64 y, .bool s]] w fun e w' => e = .returned (.agg #[.int .i64 c, .int .i64 d]) ∧ Below w.heap.size w w' :=
  (trait3x a b c d x y s w).mono fun _ _ ⟨he, hw⟩ => ⟨he, by rw [hw]; exact ((Below.refl _ _).alloc (Nat.le_refl _) _).alloc (by simp) _⟩
theorem trait5 (a b c d x y : Int) (s : Bool) (w : World) :
    Calls Try.prog 92 #[.agg #[.int .i64 a, .int .i64 b, .int .i64 c, .int .i64 d, .int .i64 x, .int .i64 y, .bool s]] w fun e w' => e = .returned (.agg #[.int .i64 x, .int .i64 y]) ∧ Below w.heap.size w w' :=
  (trait5x a b c d x y s w).mono fun _ _ ⟨he, hw⟩ => ⟨he, by rw [hw]; exact ((Below.refl _ _).alloc (Nat.le_refl _) _).alloc (by simp) _⟩

/-- The array that 'traits' returns. -/
def traitsV : Value := .agg #[.func (.func 88) #[] #[], .int .i64 (-1048576), .int .i64 1048576, .func (.func 89) #[] #[],
  .func (.func 90) #[] #[], .int .i64 (-1048576), .int .i64 1048576, .func (.func 91) #[] #[],
  .func (.func 92) #[] #[], .int .i64 0, .int .i64 2000, .func (.func 93) #[] #[]]
theorem traits_any (w : World) : Calls Try.prog 82 #[] w fun e w' => e = .returned traitsV ∧ Below w.heap.size w w' := by
  go_enter Try.func82, Try.ntmps82
  go_wp2
  exact bodyPost_ret (v := traitsV) (by simp [results, Try.results82, go_sem, traitsV]) rfl ⟨rfl, ((Below.refl _ _).alloc (Nat.le_refl _) _)⟩

theorem sures_any (a : Option Addr) (cap : Nat) (l : List Ed) (hl : l.length ≤ 6) (w : World) (hx : EdSl w a l) :
    Calls Try.prog 70 #[.slice a l.length cap] w fun e w' => e = .returned (.int .u64 (sures l)) ∧ Below w.heap.size w w' := by
  go_enter Try.func70, Try.ntmps70
  go_wp2
  go_loopw [2, 3, 4, 7] (fun s _ _ i wr => ∃ k : Nat, k ≤ l.length ∧ i = .int .i64 k ∧ s = .int .u64 (maskOf (sureAt l) k) ∧ Below w.heap.size w wr) (fun _ _ _ i _ => l.length - (intOf i).toNat)
  case atStart => exact ⟨0, Nat.zero_le _, rfl, rfl, Below.refl _ _⟩
  case round =>
    rename_i wr
    obtain ⟨k, hk, rfl, rfl, hbw⟩ := hrel
    by_cases hlt : k < l.length
    · obtain ⟨b, o, rfl, hb, hx⟩ := hx k hlt
      have hsa : sureAt l k = l[k].sure := by simp [sureAt, hlt]
      obtain ⟨c0, c1, c2, c3, c4, c5, c6⟩ := hx.same (hbw.block b hb)
      have H := Lib.hid hsa
      clear hsa hx
      have hm := maskOf_lt (sureAt l) k
      have hp : 2 ^ k ≤ 2 ^ 6 := Nat.pow_le_pow_right (by omega) (by omega)
      go_wp2
      all_goals
        go_roundw
        case rel =>
          refine ⟨k + 1, by omega, by go_num, ?_, hbw.alloc hbw.size _⟩
          first
            | (have hs : l[k].sure = true := by assumption
               simp only [maskOf, H.out, hs, if_true]
               rw [pow_u64 k (by omega), or_u64 _ _ (by omega) (by omega)])
            | (have hs : l[k].sure = false := by assumption
               simp only [maskOf, H.out, hs, if_false, Bool.false_eq_true, Nat.or_zero])
        case measure => simp [intOf]; omega
    · go_wp2
      go_ret
      obtain rfl : k = l.length := by omega
      exact ⟨rfl, hbw⟩

end Go.Proofs.Ytjkegmjjhdmkiaa
namespace Go.Proofs.Ytjkegmjjhdmkiaa
open Go.RowKit
set_option maxHeartbeats 800000

/-- A star in a box, and a trait in a box, still there. -/
abbrev BadS (bx bt : Nat) (x : Ed) (f : Value) (lo hi : Int) (w0 : World) (w : World) : Prop :=
  w.cell? ⟨bx, 0, none⟩ = some (.int .i64 x.e.lo) ∧ w.cell? ⟨bx, 1, none⟩ = some (.int .i64 x.e.hi) ∧ w.cell? ⟨bx, 2, none⟩ = some (.int .i64 x.n.lo) ∧ w.cell? ⟨bx, 3, none⟩ = some (.int .i64 x.n.hi) ∧
  w.cell? ⟨bx, 4, none⟩ = some (.int .i64 x.b.lo) ∧ w.cell? ⟨bx, 5, none⟩ = some (.int .i64 x.b.hi) ∧ w.cell? ⟨bx, 6, none⟩ = some (.bool x.sure) ∧
  w.cell? ⟨bt, 0, none⟩ = some f ∧ w.cell? ⟨bt, 1, none⟩ = some (.int .i64 lo) ∧ w.cell? ⟨bt, 2, none⟩ = some (.int .i64 hi) ∧ Below w0.heap.size w0 w

theorem BadS.keep {bx bt : Nat} {x : Ed} {f : Value} {lo hi : Int} {w0 w w' : World} (h : BadS bx bt x f lo hi w0 w) (hb : Below w.heap.size w w') : BadS bx bt x f lo hi w0 w' := by
  obtain ⟨h0, h1, h2, h3, h4, h5, h6, h7, h8, h9, h10⟩ := h
  exact ⟨cell_later hb h0, cell_later hb h1, cell_later hb h2, cell_later hb h3, cell_later hb h4, cell_later hb h5, cell_later hb h6, cell_later hb h7, cell_later hb h8, cell_later hb h9, h10.trans (hb.mono h10.size)⟩

theorem isBad1_1 (x : Ed) (bx : Nat) (w : World) (hx : EdAt w bx 0 x) :
    Calls Try.prog 84 #[.agg #[.func (.func 88) #[] #[], Value.int .i64 (-1048576), Value.int .i64 1048576, .func (.func 89) #[] #[]], .pointer (some ⟨bx, 0, none⟩)] w
      fun e w' => e = .returned (.bool (!x.e.ok (-1048576) 1048576)) ∧ Below w.heap.size w w' := by
  obtain ⟨c0, c1, c2, c3, c4, c5, c6⟩ := hx
  go_enter Try.func84, Try.ntmps84
  go_wp2
  go_region_held3 (BadS bx w.heap.size x (.func (.func 88) #[] #[]) (-1048576) 1048576 w)
    (first | exact BadS.keep (by assumption) (by assumption) | (have hB0 := ((Below.refl w.heap.size w).alloc (Nat.le_refl _) (.cells #[.func (.func 88) #[] #[], Value.int .i64 (-1048576), Value.int .i64 1048576, .func (.func 89) #[] #[]] 143)).drew; refine ⟨?_, ?_, ?_, ?_, ?_, ?_, ?_, ?_, ?_, ?_, hB0⟩ <;> go_keep))
    (first | (go_at_call 88; refine (trait1 _ _ _ _ _ _ _ _).mono ?_; rintro e w' ⟨rfl, hb⟩) | (go_at_call 67; refine (isSpan_any x.e _ _ _).mono ?_; rintro e w' ⟨rfl, hb⟩))
  rename_i hS
  have hB := hS.2.2.2.2.2.2.2.2.2.2
  clear hS
  go_wp2
  go_ret
  exact ⟨rfl, hB⟩

theorem isBad1_2 (x : Ed) (bx : Nat) (w : World) (hx : EdAt w bx 0 x) :
    Calls Try.prog 84 #[.agg #[.func (.func 90) #[] #[], Value.int .i64 (-1048576), Value.int .i64 1048576, .func (.func 91) #[] #[]], .pointer (some ⟨bx, 0, none⟩)] w
      fun e w' => e = .returned (.bool (!x.n.ok (-1048576) 1048576)) ∧ Below w.heap.size w w' := by
  obtain ⟨c0, c1, c2, c3, c4, c5, c6⟩ := hx
  go_enter Try.func84, Try.ntmps84
  go_wp2
  go_region_held3 (BadS bx w.heap.size x (.func (.func 90) #[] #[]) (-1048576) 1048576 w)
    (first | exact BadS.keep (by assumption) (by assumption) | (have hB0 := ((Below.refl w.heap.size w).alloc (Nat.le_refl _) (.cells #[.func (.func 90) #[] #[], Value.int .i64 (-1048576), Value.int .i64 1048576, .func (.func 91) #[] #[]] 143)).drew; refine ⟨?_, ?_, ?_, ?_, ?_, ?_, ?_, ?_, ?_, ?_, hB0⟩ <;> go_keep))
    (first | (go_at_call 90; refine (trait3 _ _ _ _ _ _ _ _).mono ?_; rintro e w' ⟨rfl, hb⟩) | (go_at_call 67; refine (isSpan_any x.n _ _ _).mono ?_; rintro e w' ⟨rfl, hb⟩))
  rename_i hS
  have hB := hS.2.2.2.2.2.2.2.2.2.2
  clear hS
  go_wp2
  go_ret
  exact ⟨rfl, hB⟩

theorem isBad1_3 (x : Ed) (bx : Nat) (w : World) (hx : EdAt w bx 0 x) :
    Calls Try.prog 84 #[.agg #[.func (.func 92) #[] #[], Value.int .i64 0, Value.int .i64 2000, .func (.func 93) #[] #[]], .pointer (some ⟨bx, 0, none⟩)] w
      fun e w' => e = .returned (.bool (!x.b.ok 0 2000)) ∧ Below w.heap.size w w' := by
  obtain ⟨c0, c1, c2, c3, c4, c5, c6⟩ := hx
  go_enter Try.func84, Try.ntmps84
  go_wp2
  go_region_held3 (BadS bx w.heap.size x (.func (.func 92) #[] #[]) 0 2000 w)
    (first | exact BadS.keep (by assumption) (by assumption) | (have hB0 := ((Below.refl w.heap.size w).alloc (Nat.le_refl _) (.cells #[.func (.func 92) #[] #[], Value.int .i64 0, Value.int .i64 2000, .func (.func 93) #[] #[]] 143)).drew; refine ⟨?_, ?_, ?_, ?_, ?_, ?_, ?_, ?_, ?_, ?_, hB0⟩ <;> go_keep))
    (first | (go_at_call 92; refine (trait5 _ _ _ _ _ _ _ _).mono ?_; rintro e w' ⟨rfl, hb⟩) | (go_at_call 67; refine (isSpan_any x.b _ _ _).mono ?_; rintro e w' ⟨rfl, hb⟩))
  rename_i hS
  have hB := hS.2.2.2.2.2.2.2.2.2.2
  clear hS
  go_wp2
  go_ret
  exact ⟨rfl, hB⟩

/-- The cells of a trait. -/
structure TrAt (w : World) (b o : Nat) (f g : Value) (lo hi : Int) : Prop where
  c0 : w.cell? ⟨b, o, none⟩ = some f
  c1 : w.cell? ⟨b, o+1, none⟩ = some (.int .i64 lo)
  c2 : w.cell? ⟨b, o+2, none⟩ = some (.int .i64 hi)
  c3 : w.cell? ⟨b, o+3, none⟩ = some g
theorem TrAt.later {w w' : World} {b o : Nat} {f g : Value} {lo hi : Int} (h : TrAt w b o f g lo hi) (hb : Below w.heap.size w w') : TrAt w' b o f g lo hi :=
  ⟨cell_later hb h.c0, cell_later hb h.c1, cell_later hb h.c2, cell_later hb h.c3⟩
theorem EdAt.later {w w' : World} {b o : Nat} {x : Ed} (h : EdAt w b o x) (hb : Below w.heap.size w w') : EdAt w' b o x :=
  ⟨cell_later hb h.c0, cell_later hb h.c1, cell_later hb h.c2, cell_later hb h.c3, cell_later hb h.c4, cell_later hb h.c5, cell_later hb h.c6⟩
structure TrsAt (w : World) (bt : Nat) : Prop where
  t0 : TrAt w bt 0 (.func (.func 88) #[] #[]) (.func (.func 89) #[] #[]) (-1048576) 1048576
  t1 : TrAt w bt 4 (.func (.func 90) #[] #[]) (.func (.func 91) #[] #[]) (-1048576) 1048576
  t2 : TrAt w bt 8 (.func (.func 92) #[] #[]) (.func (.func 93) #[] #[]) 0 2000
theorem TrsAt.later {w w' : World} {bt : Nat} (h : TrsAt w bt) (hb : Below w.heap.size w w') : TrsAt w' bt := ⟨h.t0.later hb, h.t1.later hb, h.t2.later hb⟩

/-- Which trait is bad first. -/
def badTrait (x : Ed) : Int := if x.e.ok (-1048576) 1048576 then if x.n.ok (-1048576) 1048576 then if x.b.ok 0 2000 then -1 else 2 else 1 else 0

theorem indexTr (x : Ed) (bt bx : Nat) (w : World) (ht : TrsAt w bt) (hx : EdAt w bx 0 x) :
    Calls Try.prog 94 #[.slice (some ⟨bt, 0, none⟩) 3 3, .func (.func 84) #[] #[.pointer (some ⟨bx, 0, none⟩)]] w
      fun e w' => e = .returned (.int .i64 (badTrait x)) ∧ Below w.heap.size w w' := by
  go_enter Try.func94, Try.ntmps94
  go_wp2
  go_loopw [4, 5, 8] (fun _ _ i wr => ∃ k : Nat, k ≤ 3 ∧ i = .int .i64 k ∧ (0 < k → x.e.ok (-1048576) 1048576 = true) ∧ (1 < k → x.n.ok (-1048576) 1048576 = true) ∧ (2 < k → x.b.ok 0 2000 = true) ∧ Below w.heap.size w wr) (fun _ _ i _ => 3 - (intOf i).toNat)
  case atStart => exact ⟨0, by omega, rfl, by omega, by omega, by omega, Below.refl _ _⟩
  case round =>
    rename_i wr
    obtain ⟨k, hk, rfl, h0, h1, h2, hbw⟩ := hrel
    have H0 := Lib.hid h0
    have H1 := Lib.hid h1
    have H2 := Lib.hid h2
    clear h0 h1 h2
    have hx' := hx.later hbw
    have ht' := ht.later hbw
    by_cases k0 : k = 0
    · subst k0
      obtain ⟨d0, d1, d2, d3⟩ := ht'.t0
      cases hq : x.e.ok (-1048576) 1048576
      all_goals
        have Hq := Lib.hid hq
        clear hq
        go_wp2_with (go_at_call 84; refine (isBad1_1 x bx _ hx').mono ?_; rintro e w' ⟨rfl, hb⟩; rw [Hq.out]; dsimp only [Bool.not_false, Bool.not_true])
      · go_ret
        exact ⟨ret_int (by simp [badTrait, Hq.out]), hbw.trans (hb.mono hbw.size)⟩
      · go_roundw
        case rel => exact ⟨1, by omega, by go_num, by simp, by omega, by omega, hbw.trans (hb.mono hbw.size)⟩
        case measure => simp [intOf]
    by_cases k1 : k = 1
    · subst k1
      obtain ⟨d0, d1, d2, d3⟩ := ht'.t1
      cases hq : x.n.ok (-1048576) 1048576
      all_goals
        have Hq := Lib.hid hq
        clear hq
        go_wp2_with (go_at_call 84; refine (isBad1_2 x bx _ hx').mono ?_; rintro e w' ⟨rfl, hb⟩; rw [Hq.out]; dsimp only [Bool.not_false, Bool.not_true])
      · go_ret
        exact ⟨ret_int (by simp [badTrait, Hq.out, H0.out]), hbw.trans (hb.mono hbw.size)⟩
      · go_roundw
        case rel => exact ⟨2, by omega, by go_num, fun _ => H0.out (by omega), by simp, by omega, hbw.trans (hb.mono hbw.size)⟩
        case measure => simp [intOf]
    by_cases k2 : k = 2
    · subst k2
      obtain ⟨d0, d1, d2, d3⟩ := ht'.t2
      cases hq : x.b.ok 0 2000
      all_goals
        have Hq := Lib.hid hq
        clear hq
        go_wp2_with (go_at_call 84; refine (isBad1_3 x bx _ hx').mono ?_; rintro e w' ⟨rfl, hb⟩; rw [Hq.out]; dsimp only [Bool.not_false, Bool.not_true])
      · go_ret
        exact ⟨ret_int (by simp [badTrait, Hq.out, H0.out, H1.out]), hbw.trans (hb.mono hbw.size)⟩
      · go_roundw
        case rel => exact ⟨3, by omega, by go_num, fun _ => H0.out (by omega), fun _ => H1.out (by omega), by simp, hbw.trans (hb.mono hbw.size)⟩
        case measure => simp [intOf]
    obtain rfl : k = 3 := by omega
    go_wp2
    go_ret
    exact ⟨ret_int (by simp [badTrait, H0.out, H1.out, H2.out]), hbw⟩

end Go.Proofs.Ytjkegmjjhdmkiaa
namespace Go.Proofs.Ytjkegmjjhdmkiaa
open Go.RowKit
set_option maxHeartbeats 800000

theorem badTrait_neg (x : Ed) : decide (badTrait x ≥ 0) = !x.ok := by
  unfold badTrait Ed.ok
  cases x.e.ok (-1048576) 1048576 <;> cases x.n.ok (-1048576) 1048576 <;> cases x.b.ok 0 2000 <;> rfl

theorem containsTr (x : Ed) (bt bx : Nat) (w : World) (ht : TrsAt w bt) (hx : EdAt w bx 0 x) :
    Calls Try.prog 83 #[.slice (some ⟨bt, 0, none⟩) 3 3, .func (.func 84) #[] #[.pointer (some ⟨bx, 0, none⟩)]] w
      fun e w' => e = .returned (.bool (!x.ok)) ∧ Below w.heap.size w w' := by
  have H := Lib.hid (badTrait_neg x)
  go_enter Try.func83, Try.ntmps83
  go_wp2_with (go_at_call 94; refine (indexTr x bt bx _ ht hx).mono ?_; rintro e w' ⟨rfl, hb⟩)
  go_ret
  exact ⟨ret_bool H.out, hb⟩

theorem TrsAt.new (w : World) (T : TypeId) : TrsAt (w.alloc (.cells traitsV.cells T)) w.heap.size := by
  unfold traitsV
  exact ⟨⟨cell_new _ _ _ _ _ rfl, cell_new _ _ _ _ _ rfl, cell_new _ _ _ _ _ rfl, cell_new _ _ _ _ _ rfl⟩, ⟨cell_new _ _ _ _ _ rfl, cell_new _ _ _ _ _ rfl, cell_new _ _ _ _ _ rfl, cell_new _ _ _ _ _ rfl⟩, ⟨cell_new _ _ _ _ _ rfl, cell_new _ _ _ _ _ rfl, cell_new _ _ _ _ _ rfl, cell_new _ _ _ _ _ rfl⟩⟩

theorem isBad_any (x : Ed) (w : World) :
    Calls Try.prog 69 #[.agg #[.int .i64 x.e.lo, .int .i64 x.e.hi, .int .i64 x.n.lo, .int .i64 x.n.hi, .int .i64 x.b.lo, .int .i64 x.b.hi, .bool x.sure]] w
      fun e w' => e = .returned (.bool (!x.ok)) ∧ Below w.heap.size w w' := by
  go_enter Try.func69, Try.ntmps69
  go_wp2_with (first | (go_at_call 82; refine (traits_any _).mono ?_; rintro e w1 ⟨rfl, hb⟩; unfold traitsV) | fail)
  refine (containsTr x w1.heap.size w.heap.size _ (TrsAt.new w1 _) (((EdAt.new w x _).later hb).later (below_alloc _ _))).mono ?_
  rintro e w2 ⟨rfl, hb2⟩
  go_wp2
  go_ret
  exact ⟨rfl, ((below_alloc _ _).trans (hb.mono (by simp))).trans ((below_alloc _ _).trans (hb2.mono (by simp)) |>.mono (by have := hb.size; simp at this; omega))⟩

/-- The number of the first bad star; -1: there is none. -/
def firstBad (l : List Ed) : Int := match l.findIdx? (fun x => !x.ok) with | some i => (i : Int) | none => -1

theorem indexEd (a : Option Addr) (cap : Nat) (l : List Ed) (w : World) (hl : l.length < 9223372036854775807) (hx : EdSl w a l) :
    Calls Try.prog 81 #[.slice a l.length cap, .func (.func 69) #[] #[]] w
      fun e w' => e = .returned (.int .i64 (firstBad l)) ∧ Below w.heap.size w w' := by
  go_enter Try.func81, Try.ntmps81
  go_wp2
  go_loopw [4, 5, 8] (fun _ _ i wr => ∃ k : Nat, k ≤ l.length ∧ i = .int .i64 k ∧ (∀ j (h : j < l.length), j < k → l[j].ok = true) ∧ Below w.heap.size w wr) (fun _ _ i _ => l.length - (intOf i).toNat)
  case atStart => exact ⟨0, Nat.zero_le _, rfl, fun j _ h => absurd h (Nat.not_lt_zero _), Below.refl _ _⟩
  case round =>
    rename_i wr
    obtain ⟨k, hk, rfl, hnone, hbw⟩ := hrel
    have HN := Lib.hid hnone
    clear hnone
    by_cases hlt : k < l.length
    · obtain ⟨b, o, rfl, hb, hxk⟩ := hx k hlt
      obtain ⟨c0, c1, c2, c3, c4, c5, c6⟩ := hxk.same (hbw.block b hb)
      cases hq : l[k].ok
      all_goals
        have Hq := Lib.hid hq
        clear hq
        go_wp2_with (go_at_call 69; refine (isBad_any l[k] _).mono ?_; rintro e w' ⟨rfl, hb⟩; rw [Hq.out]; dsimp only [Bool.not_false, Bool.not_true])
      · go_ret
        refine ⟨ret_int ?_, hbw.trans (hb.mono hbw.size)⟩
        have hf : l.findIdx? (fun x => !x.ok) = some k := by
          rw [List.findIdx?_eq_some_iff_getElem]
          exact ⟨hlt, by simp [Hq.out], fun j hj => by simp [HN.out j (by omega) hj]⟩
        unfold firstBad; rw [hf]
      · go_roundw
        case rel => exact ⟨k + 1, by omega, by go_num, fun j h hj => by rcases Nat.lt_succ_iff_lt_or_eq.1 hj with h2 | rfl; exact HN.out j h h2; exact Hq.out, hbw.trans (hb.mono hbw.size)⟩
        case measure => simp [intOf]; omega
    · go_wp2
      go_ret
      obtain rfl : k = l.length := by omega
      refine ⟨ret_int ?_, hbw⟩
      have hf : l.findIdx? (fun x => !x.ok) = none := by
        rw [List.findIdx?_eq_none_iff]
        intro x hx
        obtain ⟨j, hj, rfl⟩ := List.getElem_of_mem hx
        simp [HN.out j hj hj]
      unfold firstBad; rw [hf]

theorem containsEd (a : Option Addr) (cap : Nat) (l : List Ed) (w : World) (hl : l.length < 9223372036854775807) (hx : EdSl w a l) :
    Calls Try.prog 68 #[.slice a l.length cap, .func (.func 69) #[] #[]] w
      fun e w' => e = .returned (.bool (!l.all Ed.ok)) ∧ Below w.heap.size w w' := by
  have h : decide (firstBad l ≥ 0) = !l.all Ed.ok := by
    unfold firstBad
    cases hf : l.findIdx? (fun x => !x.ok) with
    | none =>
      rw [List.findIdx?_eq_none_iff] at hf
      have : l.all Ed.ok = true := List.all_eq_true.2 fun x hx => by simpa using hf x hx
      rw [this]; rfl
    | some i =>
      rw [List.findIdx?_eq_some_iff_getElem] at hf
      obtain ⟨hi, hp, _⟩ := hf
      have : l.all Ed.ok = false := by
        rw [List.all_eq_false]
        exact ⟨l[i], List.getElem_mem hi, by simpa using hp⟩
      rw [this]; simp
  have key := fun W => indexEd a cap l W hl
  generalize firstBad l = n at h key
  have H := Lib.hid h
  clear h
  go_enter Try.func68, Try.ntmps68
  go_wp2_with (go_at_call 81; refine (key _ hx).mono ?_; rintro e w' ⟨rfl, hb⟩)
  go_ret
  exact ⟨ret_bool H.out, hb⟩
end Go.Proofs.Ytjkegmjjhdmkiaa
namespace Go.Proofs.Ytjkegmjjhdmkiaa
open Go.RowKit
set_option maxHeartbeats 1600000

/-- A border as a value: its spans, and two slices. -/
def boV (b : Bo) (fa sa : Option Addr) (fc sc : Nat) : Value :=
  .agg #[.int .i64 b.e.lo, .int .i64 b.e.hi, .int .i64 b.n.lo, .int .i64 b.n.hi, .slice fa b.fs.length fc, .slice sa b.ss.length sc]

/-- A border in a box. -/
structure BoAt (w : World) (p : Nat) (b : Bo) (fa sa : Option Addr) (fc sc : Nat) : Prop where
  c0 : w.cell? ⟨p, 0, none⟩ = some (.int .i64 b.e.lo)
  c1 : w.cell? ⟨p, 1, none⟩ = some (.int .i64 b.e.hi)
  c2 : w.cell? ⟨p, 2, none⟩ = some (.int .i64 b.n.lo)
  c3 : w.cell? ⟨p, 3, none⟩ = some (.int .i64 b.n.hi)
  c4 : w.cell? ⟨p, 4, none⟩ = some (.slice fa b.fs.length fc)
  c5 : w.cell? ⟨p, 5, none⟩ = some (.slice sa b.ss.length sc)
theorem BoAt.later {w w' : World} {p : Nat} {b : Bo} {fa sa : Option Addr} {fc sc : Nat} (h : BoAt w p b fa sa fc sc) (hb : Below w.heap.size w w') : BoAt w' p b fa sa fc sc :=
  ⟨cell_later hb h.c0, cell_later hb h.c1, cell_later hb h.c2, cell_later hb h.c3, cell_later hb h.c4, cell_later hb h.c5⟩

theorem BoAt.new (w : World) (b : Bo) (fa sa : Option Addr) (fc sc : Nat) (T : TypeId) :
    BoAt (w.alloc (.cells #[.int .i64 b.e.lo, .int .i64 b.e.hi, .int .i64 b.n.lo, .int .i64 b.n.hi, .slice fa b.fs.length fc, .slice sa b.ss.length sc] T)) w.heap.size b fa sa fc sc :=
  ⟨cell_new _ _ _ _ _ rfl, cell_new _ _ _ _ _ rfl, cell_new _ _ _ _ _ rfl, cell_new _ _ _ _ _ rfl, cell_new _ _ _ _ _ rfl, cell_new _ _ _ _ _ rfl⟩

/-- What the program keeps of a border: itself, the stars that are Sure, the map of what is known. -/
structure BrdAt (w : World) (p : Nat) (b : Bo) (fa sa : Option Addr) (fc sc : Nat) (fset sset r : Nat) : Prop where
  bo : BoAt w p b fa sa fc sc
  c6 : w.cell? ⟨p, 6, none⟩ = some (.int .u64 fset)
  c7 : w.cell? ⟨p, 7, none⟩ = some (.int .u64 sset)
  c8 : w.cell? ⟨p, 8, none⟩ = some (.map (some r))
  f : EdSl w fa b.fs
  s : EdSl w sa b.ss

abbrev OpenS (p : Nat) (b : Bo) (fa sa : Option Addr) (fc sc : Nat) (w0 : World) (w : World) : Prop :=
  w.cell? ⟨p, 0, none⟩ = some (.int .i64 b.e.lo) ∧ w.cell? ⟨p, 1, none⟩ = some (.int .i64 b.e.hi) ∧ w.cell? ⟨p, 2, none⟩ = some (.int .i64 b.n.lo) ∧ w.cell? ⟨p, 3, none⟩ = some (.int .i64 b.n.hi) ∧
  w.cell? ⟨p, 4, none⟩ = some (.slice fa b.fs.length fc) ∧ w.cell? ⟨p, 5, none⟩ = some (.slice sa b.ss.length sc) ∧ EdSl w fa b.fs ∧ EdSl w sa b.ss ∧ Below w0.heap.size w0 w
theorem OpenS.keep {p : Nat} {b : Bo} {fa sa : Option Addr} {fc sc : Nat} {w0 w w' : World} (h : OpenS p b fa sa fc sc w0 w) (hb : Below w.heap.size w w') : OpenS p b fa sa fc sc w0 w' := by
  obtain ⟨h0, h1, h2, h3, h4, h5, h6, h7, h8⟩ := h
  exact ⟨cell_later hb h0, cell_later hb h1, cell_later hb h2, cell_later hb h3, cell_later hb h4, cell_later hb h5, h6.below hb (Nat.le_refl _), h7.below hb (Nat.le_refl _), h8.trans (hb.mono h8.size)⟩

/-- A border has been opened. -/
def Opened (b : Bo) (fa sa : Option Addr) (fc sc : Nat) (w : World) (e : Ending) (w' : World) : Prop :=
  ∃ p r, e = .returned (.pointer (some ⟨p, 0, none⟩)) ∧ BrdAt w' p b fa sa fc sc (sures b.fs) (sures b.ss) r ∧ w'.heap[r]? = some (.map #[] 0) ∧ w.heap.size ≤ r ∧ w.heap.size ≤ p ∧ Below w.heap.size w w'

theorem Opened.make {b : Bo} {fa sa : Option Addr} {fc sc : Nat} {w X : World} {p q r : Nat} {T : TypeId} (hp : p = X.heap.size) (hr : w.heap.size ≤ r)
    (hm : (X.alloc (.cells #[.int .i64 b.e.lo, .int .i64 b.e.hi, .int .i64 b.n.lo, .int .i64 b.n.hi, .slice fa b.fs.length fc, .slice sa b.ss.length sc, .int .u64 (sures b.fs), .int .u64 (sures b.ss), .map (some r)] T)).heap[r]? = some (.map #[] 0))
    (h : OpenS q b fa sa fc sc w (X.alloc (.cells #[.int .i64 b.e.lo, .int .i64 b.e.hi, .int .i64 b.n.lo, .int .i64 b.n.hi, .slice fa b.fs.length fc, .slice sa b.ss.length sc, .int .u64 (sures b.fs), .int .u64 (sures b.ss), .map (some r)] T)))
    (hX : w.heap.size ≤ X.heap.size) :
    Opened b fa sa fc sc w (.returned (.pointer (some ⟨p, 0, none⟩))) (X.alloc (.cells #[.int .i64 b.e.lo, .int .i64 b.e.hi, .int .i64 b.n.lo, .int .i64 b.n.hi, .slice fa b.fs.length fc, .slice sa b.ss.length sc, .int .u64 (sures b.fs), .int .u64 (sures b.ss), .map (some r)] T)) := by
  subst hp
  obtain ⟨_, _, _, _, _, _, g1, g2, g3⟩ := h
  exact ⟨_, r, rfl, ⟨⟨cell_new _ _ _ _ _ rfl, cell_new _ _ _ _ _ rfl, cell_new _ _ _ _ _ rfl, cell_new _ _ _ _ _ rfl, cell_new _ _ _ _ _ rfl, cell_new _ _ _ _ _ rfl⟩, cell_new _ _ _ _ _ rfl, cell_new _ _ _ _ _ rfl, cell_new _ _ _ _ _ rfl, g1, g2⟩, hm, hr, hX, g3⟩

theorem open_yes (b : Bo) (fa sa : Option Addr) (fc sc : Nat) (w : World) (hok : b.ok = true) (hf : EdSl w fa b.fs) (hs : EdSl w sa b.ss) :
    Calls Try.prog 41 #[.agg #[.int .i64 b.e.lo, .int .i64 b.e.hi, .int .i64 b.n.lo, .int .i64 b.n.hi, .slice fa b.fs.length fc, .slice sa b.ss.length sc]] w (Opened b fa sa fc sc w) := by
  simp only [Bo.ok, Bool.and_eq_true, decide_eq_true_eq] at hok
  obtain ⟨⟨⟨⟨⟨k1, k2⟩, k3⟩, k4⟩, k5⟩, k6⟩ := hok
  have K1 := Lib.hid k1
  have K2 := Lib.hid k2
  have K5 := Lib.hid k5
  have K6 := Lib.hid k6
  clear k1 k2 k5 k6
  go_enter Try.func41, Try.ntmps41
  go_wp2_with fail
  have hO := BoAt.new w b fa sa fc sc 26
  have hB := below_alloc w (.cells #[.int .i64 b.e.lo, .int .i64 b.e.hi, .int .i64 b.n.lo, .int .i64 b.n.hi, .slice fa b.fs.length fc, .slice sa b.ss.length sc] 26)
  refine (isSpan_any b.e _ _ _).mono ?_
  rintro e w1 ⟨rfl, hb1⟩
  rw [K1.out]
  replace hO := hO.later hb1
  replace hB := hB.trans (hb1.mono hB.size)
  clear hb1
  obtain ⟨c0, c1, c2, c3, c4, c5⟩ := hO
  go_wp2_with fail
  have hO : BoAt w1 w.heap.size b fa sa fc sc := ⟨c0, c1, c2, c3, c4, c5⟩
  refine (isSpan_any b.n _ _ _).mono ?_
  rintro e w2 ⟨rfl, hb2⟩
  rw [K2.out]
  replace hO := hO.later hb2
  replace hB := hB.trans (hb2.mono hB.size)
  clear hb2 c0 c1 c2 c3 c4 c5
  obtain ⟨c0, c1, c2, c3, c4, c5⟩ := hO
  by_cases hcmp : b.fs.length < b.ss.length
  all_goals
    go_wp2_with fail
    have hO : BoAt w2 w.heap.size b fa sa fc sc := ⟨c0, c1, c2, c3, c4, c5⟩
    have hf2 := hf.below hB (Nat.le_refl _)
    have hs2 := hs.below hB (Nat.le_refl _)
    refine (containsEd fa fc b.fs _ (by omega) hf2).mono ?_
    rintro e w3 ⟨rfl, hb3⟩
    rw [K5.out]
    replace hO := hO.later hb3
    replace hf2 := hf2.below hb3 (Nat.le_refl _)
    replace hs2 := hs2.below hb3 (Nat.le_refl _)
    replace hB := hB.trans (hb3.mono hB.size)
    clear hb3 c0 c1 c2 c3 c4 c5
    obtain ⟨c0, c1, c2, c3, c4, c5⟩ := hO
    go_wp2_with fail
    have hO : BoAt w3 w.heap.size b fa sa fc sc := ⟨c0, c1, c2, c3, c4, c5⟩
    refine (containsEd sa sc b.ss _ (by omega) hs2).mono ?_
    rintro e w4 ⟨rfl, hb4⟩
    rw [K6.out]
    replace hO := hO.later hb4
    replace hf2 := hf2.below hb4 (Nat.le_refl _)
    replace hs2 := hs2.below hb4 (Nat.le_refl _)
    replace hB := hB.trans (hb4.mono hB.size)
    clear hb4 c0 c1 c2 c3 c4 c5
    obtain ⟨c0, c1, c2, c3, c4, c5⟩ := hO
    go_wp2_with (go_at_call 42; refine (must_yes _ _).mono ?_; rintro e w' ⟨rfl, rfl⟩)
    clear hf hs
    have hmm := @run_makeMap Try.prog
    go_region_held3 (OpenS w.heap.size b fa sa fc sc w)
      (first | exact OpenS.keep (by assumption) (by assumption) | exact OpenS.keep (by assumption) (below_alloc _ _) | exact ⟨c0, c1, c2, c3, c4, c5, hf2.below (Below.refl _ _).drew (Nat.le_refl _), hs2.below (Below.refl _ _).drew (Nat.le_refl _), hB.drew⟩)
      (first | (go_at_call 70; refine (sures_any _ _ _ (by assumption) _ (by have h := ‹OpenS _ _ _ _ _ _ _ _›; first | exact h.2.2.2.2.2.2.1 | exact h.2.2.2.2.2.2.2.1)).mono ?_; rintro e w' ⟨rfl, hb⟩; have hz := hb.size; (try simp at hz)))
  all_goals
    rename_i hS
    have hz0 := hB.size
    go_wp2
    go_ret
    refine Opened.make (by simp) (by simp at *; omega) ?_ hS (by simp at *; omega)
    refine obj_later (below_alloc _ _) ?_
    first
      | exact obj_new _ _
      | (refine obj_later (by assumption) ?_; exact obj_new _ _)
      | (refine obj_later (by assumption) (obj_later (by assumption) ?_); exact obj_new w4 _)

theorem open_no (b : Bo) (fa sa : Option Addr) (fc sc : Nat) (w : World) (hok : b.ok = false) (hf : EdSl w fa b.fs) (hs : EdSl w sa b.ss) (hlf : b.fs.length < 9223372036854775807) (hls : b.ss.length < 9223372036854775807) :
    Calls Try.prog 41 #[.agg #[.int .i64 b.e.lo, .int .i64 b.e.hi, .int .i64 b.n.lo, .int .i64 b.n.hi, .slice fa b.fs.length fc, .slice sa b.ss.length sc]] w fun e w' => e = .panicked (failed 1) ∧ Below w.heap.size w w' := by
  have HK := Lib.hid hok
  clear hok
  go_enter Try.func41, Try.ntmps41
  go_upto_region 1 with fail
  have hO := BoAt.new w b fa sa fc sc 26
  have hB := below_alloc w (.cells #[.int .i64 b.e.lo, .int .i64 b.e.hi, .int .i64 b.n.lo, .int .i64 b.n.hi, .slice fa b.fs.length fc, .slice sa b.ss.length sc] 26)
  go_cut [3] (fun s3 wx => s3 = .bool (b.e.ok (-20) 20 && b.n.ok (-20) 20) ∧ BoAt wx w.heap.size b fa sa fc sc ∧ Below w.heap.size w wx)
  case first =>
    go_wp2_with fail
    refine (isSpan_any b.e _ _ _).mono ?_
    rintro e w1 ⟨rfl, hb1⟩
    replace hO := hO.later hb1
    replace hB := hB.trans (hb1.mono hB.size)
    clear hb1
    cases hq : b.e.ok (-20) 20
    all_goals
      have HQ := Lib.hid hq
      clear hq
      obtain ⟨c0, c1, c2, c3, c4, c5⟩ := hO
      go_wp2_with fail
    · go_meet
      exact ⟨by rw [HQ.out]; rfl, ⟨c0, c1, c2, c3, c4, c5⟩, hB⟩
    · have hO : BoAt w1 w.heap.size b fa sa fc sc := ⟨c0, c1, c2, c3, c4, c5⟩
      refine (isSpan_any b.n _ _ _).mono ?_
      rintro e w2 ⟨rfl, hb2⟩
      go_wp2_with fail
      go_meet
      exact ⟨by rw [HQ.out]; rfl, hO.later hb2, hB.trans (hb2.mono hB.size)⟩
  case rest =>
    obtain ⟨rfl, hO, hB⟩ := hcut
    generalize hS : (b.e.ok (-20) 20 && b.n.ok (-20) 20) = s3
    have HS := Lib.hid hS
    clear hS
    have hf2 := hf.below hB (Nat.le_refl _)
    have hs2 := hs.below hB (Nat.le_refl _)
    go_upto_region 2 with fail
    go_cut [4] (fun s4 wx => s4 = .bool (decide (b.fs.length ≤ 6) && decide (b.ss.length ≤ 6) && b.fs.all Ed.ok && b.ss.all Ed.ok) ∧ Below w.heap.size w wx)
    case first =>
      by_cases hcmp : b.fs.length < b.ss.length
      all_goals
        by_cases hsix : b.fs.length ≤ 6 ∧ b.ss.length ≤ 6
        · have hmx : decide (max (b.fs.length : Int) (b.ss.length : Int) ≤ 6) = true := by simp; omega
          have h6a : (b.fs.length : Int) ≤ 6 := by omega
          have h6b : (b.ss.length : Int) ≤ 6 := by omega
          have HV := Lib.hid hsix
          clear hsix
          obtain ⟨c0, c1, c2, c3, c4, c5⟩ := hO
          go_wp2_with fail
          have hO : BoAt wc w.heap.size b fa sa fc sc := ⟨c0, c1, c2, c3, c4, c5⟩
          refine (containsEd fa fc b.fs _ hlf hf2).mono ?_
          rintro e w3 ⟨rfl, hb3⟩
          replace hO := hO.later hb3
          replace hs2 := hs2.below hb3 (Nat.le_refl _)
          replace hB := hB.trans (hb3.mono hB.size)
          clear hb3 c0 c1 c2 c3 c4 c5
          cases hq : b.fs.all Ed.ok
          all_goals
            have HQ := Lib.hid hq
            clear hq
            obtain ⟨c0, c1, c2, c3, c4, c5⟩ := hO
            go_wp2_with fail
          · go_meet
            exact ⟨by rw [HQ.out]; simp, hB⟩
          · refine (containsEd sa sc b.ss _ hls hs2).mono ?_
            rintro e w4 ⟨rfl, hb4⟩
            go_wp2_with fail
            go_meet
            exact ⟨by rw [HQ.out]; simp [HV.out.1, HV.out.2], hB.trans (hb4.mono hB.size)⟩
        · have HV := Lib.hid hsix
          clear hsix
          have h7 : 6 < (b.fs.length : Int) ∨ 6 < (b.ss.length : Int) := by have := HV.out; omega
          obtain ⟨c0, c1, c2, c3, c4, c5⟩ := hO
          go_wp2_with fail
          go_meet
          exact ⟨by have h8 : (decide (b.fs.length ≤ 6) && decide (b.ss.length ≤ 6)) = false := by have := HV.out; simp; omega
                    rw [h8]; rfl, hB⟩
    case rest =>
      obtain ⟨rfl, hB⟩ := hcut
      generalize hZ : (decide (b.fs.length ≤ 6) && decide (b.ss.length ≤ 6) && b.fs.all Ed.ok && b.ss.all Ed.ok) = z
      have HZ := Lib.hid hZ
      clear hZ
      have hsz : (s3 && z) = false := by
        rw [← HS.out, ← HZ.out, ← HK.out]
        unfold Bo.ok
        simp only [Bool.and_assoc]
      have H := Lib.hid hsz
      clear hsz hf2 hs2 hO
      cases s3
      · go_wp2_with (go_at_call 42; refine (must_no _ _).mono ?_; rintro e w' ⟨rfl, rfl⟩)
        exact ⟨rfl, rfl, hB⟩
      · obtain rfl : z = false := by simpa using H.out
        go_wp2_with (go_at_call 42; refine (must_no _ _).mono ?_; rintro e w' ⟨rfl, rfl⟩)
        exact ⟨rfl, rfl, hB⟩
end Go.Proofs.Ytjkegmjjhdmkiaa
namespace Go.Proofs.Ytjkegmjjhdmkiaa
open Go.RowKit
set_option maxHeartbeats 1600000
set_option maxRecDepth 100000

theorem below_drew (w : World) : Below w.heap.size w w.drew := (Below.refl _ _).drew

theorem within_q (n lo hi : Int) (q : Bool) (h : (decide (lo ≤ n) && decide (n ≤ hi)) = q) (w : World) :
    Calls Try.prog 43 #[.int .i64 n, .int .i64 lo, .int .i64 hi] w fun e w' => e = .returned (.bool q) ∧ w' = w := by
  refine (within_any n lo hi w).mono ?_
  rintro e w' ⟨rfl, rfl⟩
  exact ⟨by rw [h], rfl⟩

abbrev ShS (p bs : Nat) (b : Bo) (s : Int × Int) (w0 w : World) : Prop :=
  w.cell? ⟨p, 0, none⟩ = some (.int .i64 b.e.lo) ∧ w.cell? ⟨p, 1, none⟩ = some (.int .i64 b.e.hi) ∧ w.cell? ⟨p, 2, none⟩ = some (.int .i64 b.n.lo) ∧ w.cell? ⟨p, 3, none⟩ = some (.int .i64 b.n.hi) ∧
  w.cell? ⟨bs, 0, none⟩ = some (.int .i64 s.1) ∧ w.cell? ⟨bs, 1, none⟩ = some (.int .i64 s.2) ∧ Below w0.heap.size w0 w
theorem ShS.keep {p bs : Nat} {b : Bo} {s : Int × Int} {w0 w w' : World} (h : ShS p bs b s w0 w) (hb : Below w.heap.size w w') : ShS p bs b s w0 w' := by
  obtain ⟨h0, h1, h2, h3, h4, h5, h8⟩ := h
  exact ⟨cell_later hb h0, cell_later hb h1, cell_later hb h2, cell_later hb h3, cell_later hb h4, cell_later hb h5, h8.trans (hb.mono h8.size)⟩

theorem isShift_any (p : Nat) (b : Bo) (fa sa : Option Addr) (fc sc : Nat) (s : Int × Int) (w : World) (h : BoAt w p b fa sa fc sc) :
    Calls Try.prog 44 #[.pointer (some ⟨p, 0, none⟩), .agg #[.int .i64 s.1, .int .i64 s.2]] w fun e w' => e = .returned (.bool (b.shift s)) ∧ Below w.heap.size w w' := by
  have hbs : b.shift s = (b.e.has s.1 && b.n.has s.2) := rfl
  have HB := Lib.hid hbs
  clear hbs
  go_enter Try.func44, Try.ntmps44
  go_wp2
  have hS0 : ShS p w.heap.size b s w (w.alloc (.cells #[.int .i64 s.1, .int .i64 s.2] 72)) :=
    have hb := below_alloc w (.cells #[.int .i64 s.1, .int .i64 s.2] 72)
    ⟨cell_later hb h.c0, cell_later hb h.c1, cell_later hb h.c2, cell_later hb h.c3, cell_new _ _ _ _ _ rfl, cell_new _ _ _ _ _ rfl, hb⟩
  obtain ⟨d0, d1, d2, d3, d4, d5, hB⟩ := hS0
  cases hq : (decide (b.e.lo ≤ s.1) && decide (s.1 ≤ b.e.hi))
  all_goals
    have HQ := Lib.hid hq
    clear hq
    go_quiet ((go_at_call 43; (first | (with_reducible exact Calls.quiet_of_same (within_q _ _ _ _ HQ.out _)) | (exact Calls.quiet_of_same (within_q _ _ _ _ rfl _)))))
    go_wp2
    go_ret
    exact ⟨ret_bool (by rw [HB.out]; unfold Sp.has; rw [HQ.out]; rfl), below_drewN hB _⟩
end Go.Proofs.Ytjkegmjjhdmkiaa
namespace Go.Proofs.Ytjkegmjjhdmkiaa
open Go.RowKit
set_option maxHeartbeats 1600000
set_option maxRecDepth 100000

def popc : Nat → Nat → Nat
  | 0, _ => 0
  | n + 1, s => (if s.testBit n then 1 else 0) + popc n s
def swar1 (x : Int) : Int := IntKind.u64.wrap (bits BinOp.and IntKind.u64 (x / 2) 6148914691236517205 + bits BinOp.and IntKind.u64 x 6148914691236517205)
def swar2 (x : Int) : Int := IntKind.u64.wrap (bits BinOp.and IntKind.u64 (x / 4) 3689348814741910323 + bits BinOp.and IntKind.u64 x 3689348814741910323)
def swar3 (x : Int) : Int := bits BinOp.and IntKind.u64 (IntKind.u64.wrap (x / 16 + x)) 1085102592571150095
def swarN (n x : Int) : Int := IntKind.u64.wrap (x + x / n)
def swar (s : Int) : Int := bits BinOp.and IntKind.i64 (wrap64 (swarN 4294967296 (swarN 65536 (swarN 256 (swar3 (swar2 (swar1 s))))))) 127
theorem swar_eq (s : Nat) (hs : s < 4096) : swar s = popc 12 s := by
  have h : ∀ i : Fin 4096, swar (i.val : Int) = popc 12 i.val := by decide +kernel
  exact h ⟨s, hs⟩
theorem ones64 (s : Nat) (hs : s < 4096) (w : World) : Calls Try.prog 87 #[.int .u64 s] w fun e w' => e = .returned (.int .i64 (popc 12 s)) ∧ w = w' := by
  have hs' : (s : Int) < 4096 := by omega
  have hp : ∀ e w', e = Ending.returned (.int .i64 (swar s)) ∧ w = w' → e = .returned (.int .i64 (popc 12 s)) ∧ w = w' := fun e w' ⟨h1, h2⟩ => ⟨by rw [h1, swar_eq s hs], h2⟩
  refine Calls.mono ?_ hp
  clear hp
  go_enter Try.func87, Try.ntmps87
  go_wp2
  go_ret
  refine ⟨?_, rfl⟩
  unfold swar swarN swar3 swar2 swar1
  simp only [List.getElem?_toArray, Array.getD_eq_getD_getElem?, List.getElem?_cons_zero, List.getElem?_cons_succ, Option.getD_some]


theorem ones_any (s : Nat) (hs : s < 4096) (w : World) : Calls Try.prog 79 #[.int .u64 s] w fun e w' => e = .returned (.int .i64 (popc 12 s)) ∧ w = w' := by
  have hc := ones64 s hs w
  go_enter Try.func79, Try.ntmps79
  go_wp2_with (go_at_call 87; refine hc.mono ?_; rintro e w' ⟨rfl, rfl⟩)
  go_ret
  exact ⟨rfl, rfl⟩
theorem size_any (s : Nat) (hs : s < 4096) (w : World) : Calls Try.prog 58 #[.int .u64 s] w fun e w' => e = .returned (.int .i64 (popc 12 s)) ∧ w = w' := by
  have hc := ones_any s hs w
  go_enter Try.func58, Try.ntmps58
  go_wp2_with (go_at_call 79; refine hc.mono ?_; rintro e w' ⟨rfl, rfl⟩)
  go_ret
  exact ⟨rfl, rfl⟩
end Go.Proofs.Ytjkegmjjhdmkiaa
