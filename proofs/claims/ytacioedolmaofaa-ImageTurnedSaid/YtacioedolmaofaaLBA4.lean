/- How stars and zones lie in memory, and small helpers for the walks over layer 6. Package math/bits: how many bits are set, of numbers below 4096. -/
import Derived.Test.YtacioedolmaofaaProg
import Derived.Test.YtacioedolmaofaaLBA1
import Derived.Test.YtacioedolmaofaaLBA2
import Derived.WalkKit
import Derived.Below
import Derived.Outline
import Derived.WalkLawsBesides
import Derived.WalkSpells
import Derived.Laws.EntriesVeiled
import Derived.Laws.BitsAllLaws
import Derived.Laws.ResultCell
import Derived.Deep.RegionHeld3
import Derived.BigQuiet
import Derived.Deep.QuietTactic
import Derived.Lib.Hide
import Derived.Deep.DeepCutAuto
namespace Go.Proofs.Ytacioedolmaofaa
open Go.RowKit

/-- The cells of a star. -/
structure EdAt (w : World) (b o : Nat) (x : Ed) : Prop where
  c0 : w.cell? ⟨b, o, none⟩ = some (.int .i64 x.e.lo)
  c1 : w.cell? ⟨b, o+1, none⟩ = some (.int .i64 x.e.hi)
  c2 : w.cell? ⟨b, o+2, none⟩ = some (.int .i64 x.n.lo)
  c3 : w.cell? ⟨b, o+3, none⟩ = some (.int .i64 x.n.hi)
  c4 : w.cell? ⟨b, o+4, none⟩ = some (.int .i64 x.b.lo)
  c5 : w.cell? ⟨b, o+5, none⟩ = some (.int .i64 x.b.hi)
  c6 : w.cell? ⟨b, o+6, none⟩ = some (.bool x.sure)

/-- The world of one block is as it was. -/
theorem cell_same {w w' : World} {b o : Nat} (h : w'.heap[b]? = w.heap[b]?) : w'.cell? ⟨b, o, none⟩ = w.cell? ⟨b, o, none⟩ :=
  World.cell?_of_block (a := ⟨b, o, none⟩) h

theorem EdAt.same {w w' : World} {b o : Nat} {x : Ed} (h : EdAt w b o x) (hb : w'.heap[b]? = w.heap[b]?) : EdAt w' b o x :=
  ⟨(cell_same hb).trans h.c0, (cell_same hb).trans h.c1, (cell_same hb).trans h.c2, (cell_same hb).trans h.c3, (cell_same hb).trans h.c4, (cell_same hb).trans h.c5, (cell_same hb).trans h.c6⟩

/-- A slice at a reads as the stars l. -/
def EdSl (w : World) (a : Option Addr) (l : List Ed) : Prop :=
  ∀ k (h : k < l.length), ∃ b o, a = some ⟨b, o, none⟩ ∧ b < w.heap.size ∧ EdAt w b (o + k * 7) l[k]

theorem EdSl.below {B : Nat} {w w' : World} {a : Option Addr} {l : List Ed} (h : EdSl w a l) (hb : Below B w w') (hB : w.heap.size ≤ B) : EdSl w' a l := by
  intro k hk
  obtain ⟨b, o, ha, hlt, hx⟩ := h k hk
  exact ⟨b, o, ha, Nat.lt_of_lt_of_le hlt hb.size, hx.same (hb.block b (by omega))⟩

theorem EdSl.nil (w : World) (a : Option Addr) : EdSl w a [] := fun k h => absurd h (Nat.not_lt_zero k)

/-- All old cells and marks read as before. -/
theorem bcell {B : Nat} {W w1 : World} (hb : Below B W w1) : (∀ b o, b < B → w1.cell? ⟨b, o, none⟩ = W.cell? ⟨b, o, none⟩) ∧ (∀ b o, b < B → w1.frozen? ⟨b, o, none⟩ = W.frozen? ⟨b, o, none⟩) :=
  ⟨fun b o h => hb.cell (p := ⟨b, o, none⟩) h, fun b o h => hb.frozen (p := ⟨b, o, none⟩) h⟩

/-- What a walk wants to know of sizes behind a call. -/
theorem bsize {B : Nat} {W w1 : World} (hb : Below B W w1) : (∀ n, n < W.heap.size → n < w1.heap.size) ∧ (∀ n, n < W.heap.size → ¬ n = w1.heap.size) ∧ (∀ n, n < W.heap.size → ¬ w1.heap.size = n) :=
  ⟨fun n h => Nat.lt_of_lt_of_le h hb.size, fun n h e => by have := hb.size; omega, fun n h e => by have := hb.size; omega⟩

/-- Two calls, one behind the other. -/
theorem bsize2 {x y : Nat} {W : World} (h : ∀ n, n < x → n < W.heap.size) (h' : ∀ n, n < W.heap.size → n < y) : (∀ n, n < x → n < y) ∧ (∀ n, n < x → ¬ n = y) ∧ (∀ n, n < x → ¬ y = n) :=
  ⟨fun n hn => h' n (h n hn), fun n hn => Nat.ne_of_lt (h' n (h n hn)), fun n hn e => Nat.ne_of_lt (h' n (h n hn)) e.symm⟩

theorem cell_new (w : World) (cs : Array Value) (T : TypeId) (i : Nat) (v : Value) (h : cs[i]? = some v) : (w.alloc (.cells cs T)).cell? ⟨w.heap.size, i, none⟩ = some v := by
  show (match (w.heap.push (Obj.cells cs T))[w.heap.size]? with | some (.cells c _ _) => if (none : Option Nat).isSome then none else c[i]? | _ => none) = some v
  rw [Array.getElem?_push_size]
  exact h
theorem EdAt.new (w : World) (x : Ed) (T : TypeId) :
    EdAt (w.alloc (.cells #[.int .i64 x.e.lo, .int .i64 x.e.hi, .int .i64 x.n.lo, .int .i64 x.n.hi, .int .i64 x.b.lo, .int .i64 x.b.hi, .bool x.sure] T)) w.heap.size 0 x :=
  ⟨cell_new _ _ _ _ _ rfl, cell_new _ _ _ _ _ rfl, cell_new _ _ _ _ _ rfl, cell_new _ _ _ _ _ rfl, cell_new _ _ _ _ _ rfl, cell_new _ _ _ _ _ rfl, cell_new _ _ _ _ _ rfl⟩
/-- A new block leaves all others. -/
theorem below_alloc (w : World) (o : Obj) : Below w.heap.size w (w.alloc o) := (Below.refl _ _).alloc (Nat.le_refl _) o
theorem obj_new (w : World) (o : Obj) : (w.alloc o).heap[w.heap.size]? = some o := by
  show (w.heap.push o)[w.heap.size]? = _
  rw [Array.getElem?_push_size]
theorem obj_later {w w' : World} (hb : Below w.heap.size w w') {r : Nat} {o : Obj} (h : w.heap[r]? = some o) : w'.heap[r]? = some o :=
  (hb.block r (Array.getElem?_eq_some_iff.1 h).1).trans h
theorem ret_int {k : IntKind} {a b : Int} (h : a = b) : Ending.returned (.int k a) = .returned (.int k b) := by rw [h]
theorem ret_bool {a b : Bool} (h : a = b) : Ending.returned (.bool a) = .returned (.bool b) := by rw [h]

theorem pow_u64 (k : Nat) (hk : k < 64) : IntKind.u64.wrap (2 ^ k) = ((2 ^ k : Nat) : Int) := by
  rw [IntKind.wrap_u64]
  have h : 2 ^ k < 2 ^ 64 := Nat.pow_lt_pow_right (by omega) hk
  have e : ((2 : Int) ^ k) = ((2 ^ k : Nat) : Int) := by simp
  rw [e]
  exact Int.emod_eq_of_lt (Int.natCast_nonneg _) (by have : ((2 ^ k : Nat) : Int) < ((2 ^ 64 : Nat) : Int) := Int.ofNat_lt.2 h; simpa using this)

theorem or_u64 (a b : Nat) (ha : a < 2 ^ 64) (hb : b < 2 ^ 64) : bits .or .u64 (a : Int) (b : Int) = ((a ||| b : Nat) : Int) := u64_or_nat a b (by omega) (by omega)
theorem and_u64 (a b : Nat) (ha : a < 2 ^ 64) (hb : b < 2 ^ 64) : bits .and .u64 (a : Int) (b : Int) = ((a &&& b : Nat) : Int) := u64_and_nat a b (by omega) (by omega)

theorem shr_u64 (a k : Nat) : ((a : Int) / 2 ^ k) = ((a / 2 ^ k : Nat) : Int) := by
  rw [Int.natCast_ediv]; simp

theorem has_bit (s k : Nat) (hs : s < 2 ^ 64) : (bits .and .u64 ((s : Int) / 2 ^ k) 1 == 1) = s.testBit k := by
  rw [shr_u64, show (1 : Int) = ((1 : Nat) : Int) from rfl, and_u64 _ _ (Nat.lt_of_le_of_lt (Nat.div_le_self _ _) hs) (by omega)]
  rw [Nat.testBit_eq_decide_div_mod_eq, Nat.and_one_is_mod]
  generalize s / 2 ^ k = t
  rw [Bool.eq_iff_iff]; simp; omega

end Go.Proofs.Ytacioedolmaofaa
namespace Go.Proofs.Ytacioedolmaofaa
open Go.RowKit
set_option maxHeartbeats 1600000
set_option maxRecDepth 100000

def popc : Nat → Nat → Nat
  | 0, _ => 0
  | n + 1, s => (if s.testBit n then 1 else 0) + popc n s
def swar1 (x : Int) : Int := IntKind.u64.wrap (bits BinOp.and IntKind.u64 (x / 2) 6148914691236517205 + bits BinOp.and IntKind.u64 x 6148914691236517205)
def swar2 (x : Int) : Int := IntKind.u64.wrap (bits BinOp.and IntKind.u64 (x / 4) 3689348814741910323 + bits BinOp.and IntKind.u64 x 3689348814741910323)
def swar3 (x : Int) : Int := bits BinOp.and IntKind.u64 (IntKind.u64.wrap (x / 16 + x)) 1085102592571150095
def swarN (n x : Int) : Int := IntKind.u64.wrap (x + x / n)
def swar (s : Int) : Int := bits BinOp.and IntKind.i64 (wrap64 (swarN 4294967296 (swarN 65536 (swarN 256 (swar3 (swar2 (swar1 s))))))) 127
theorem swar_eq (s : Nat) (hs : s < 4096) : swar s = popc 12 s := by
  have h : ∀ i : Fin 4096, swar (i.val : Int) = popc 12 i.val := by decide +kernel
  exact h ⟨s, hs⟩
theorem ones64 (s : Nat) (hs : s < 4096) (w : World) : Calls Try.prog 92 #[.int .u64 s] w fun e w' => e = .returned (.int .i64 (popc 12 s)) ∧ w = w' := by
  have hs' : (s : Int) < 4096 := by omega
  have hp : ∀ e w', e = Ending.returned (.int .i64 (swar s)) ∧ w = w' → e = .returned (.int .i64 (popc 12 s)) ∧ w = w' := fun e w' ⟨h1, h2⟩ => ⟨by rw [h1, swar_eq s hs], h2⟩
  refine Calls.mono ?_ hp
  clear hp
  go_enter Try.func92, Try.ntmps92
  go_wp2
  go_ret
  refine ⟨?_, rfl⟩
  unfold swar swarN swar3 swar2 swar1
  simp only [List.getElem?_toArray, Array.getD_eq_getD_getElem?, List.getElem?_cons_zero, List.getElem?_cons_succ, Option.getD_some]


theorem ones_any (s : Nat) (hs : s < 4096) (w : World) : Calls Try.prog 75 #[.int .u64 s] w fun e w' => e = .returned (.int .i64 (popc 12 s)) ∧ w = w' := by
  have hc := ones64 s hs w
  go_enter Try.func75, Try.ntmps75
  go_wp2_with (go_at_call 92; refine hc.mono ?_; rintro e w' ⟨rfl, rfl⟩)
  go_ret
  exact ⟨rfl, rfl⟩
theorem isize_any0 (s : Nat) (hs : s < 4096) (w : World) : Calls Try.prog 47 #[.int .u64 s] w fun e w' => e = .returned (.int .i64 (popc 12 s)) ∧ w = w' := by
  have hc := ones_any s hs w
  go_enter Try.func47, Try.ntmps47
  go_wp2_with (go_at_call 75; refine hc.mono ?_; rintro e w' ⟨rfl, rfl⟩)
  go_ret
  exact ⟨rfl, rfl⟩

theorem popc_in (s : Nat) (hs : s < 512) : popc 12 s = bitsIn 9 s := by
  have h : ∀ i : Fin 512, popc 12 i.val = bitsIn 9 i.val := by decide +kernel
  exact h ⟨s, hs⟩
theorem isize_any (s : Nat) (hs : s < 512) (w : World) : Calls Try.prog 47 #[.int .u64 s] w fun e w' => e = .returned (.int .i64 (bitsIn 9 s)) ∧ w = w' := by
  have := isize_any0 s (by omega) w
  rwa [popc_in s hs] at this
end Go.Proofs.Ytacioedolmaofaa
