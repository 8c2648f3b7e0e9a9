/- Package math/bits: how many bits are set, of numbers below 4096. -/
import Derived.Test.YtjkegmjjhdmkiaaKit
namespace Go.Proofs.Ytjkegmjjhdmkiaa
open Go.RowKit
set_option maxHeartbeats 1600000
set_option maxRecDepth 100000

def popc : Nat → Nat → Nat
  | 0, _ => 0
  | n + 1, s => (if s.testBit n then 1 else 0) + popc n s
def swar1 (x : Int) : Int := IntKind.u64.wrap (bits BinOp.and IntKind.u64 (x / 2) 6148914691236517205 + bits BinOp.and IntKind.u64 x 6148914691236517205)
def swar2 (x : Int) : Int := IntKind.u64.wrap (bits BinOp.and IntKind.u64 (x / 4) 3689348814741910323 + bits BinOp.and IntKind.u64 x 3689348814741910323)
def swar3 (x : Int) : Int := bits BinOp.and IntKind.u64 (IntKind.u64.wrap (x / 16 + x)) 1085102592571150095
def swarN (n x : Int) : Int := IntKind.u64.wrap (x + x / n)
def swar (s : Int) : Int := bits BinOp.and IntKind.i64 (wrap64 (swarN 4294967296 (swarN 65536 (swarN 256 (swar3 (swar2 (swar1 s))))))) 127
theorem swar_eq (s : Nat) (hs : s < 4096) : swar s = popc 12 s := by
  have h : ∀ i : Fin 4096, swar (i.val : Int) = popc 12 i.val := by decide +kernel
  exact h ⟨s, hs⟩
theorem ones64 (s : Nat) (hs : s < 4096) (w : World) : Calls Try.prog 87 #[.int .u64 s] w fun e w' => e = .returned (.int .i64 (popc 12 s)) ∧ w = w' := by
  have hs' : (s : Int) < 4096 := by omega
  have hp : ∀ e w', e = Ending.returned (.int .i64 (swar s)) ∧ w = w' → e = .returned (.int .i64 (popc 12 s)) ∧ w = w' := fun e w' ⟨h1, h2⟩ => ⟨by rw [h1, swar_eq s hs], h2⟩
  refine Calls.mono ?_ hp
  clear hp
  go_enter Try.func87, Try.ntmps87
  go_wp2
  go_ret
  refine ⟨?_, rfl⟩
  unfold swar swarN swar3 swar2 swar1
  simp only [List.getElem?_toArray, Array.getD_eq_getD_getElem?, List.getElem?_cons_zero, List.getElem?_cons_succ, Option.getD_some]


theorem ones_any (s : Nat) (hs : s < 4096) (w : World) : Calls Try.prog 79 #[.int .u64 s] w fun e w' => e = .returned (.int .i64 (popc 12 s)) ∧ w = w' := by
  have hc := ones64 s hs w
  go_enter Try.func79, Try.ntmps79
  go_wp2_with (go_at_call 87; refine hc.mono ?_; rintro e w' ⟨rfl, rfl⟩)
  go_ret
  exact ⟨rfl, rfl⟩
theorem size_any (s : Nat) (hs : s < 4096) (w : World) : Calls Try.prog 58 #[.int .u64 s] w fun e w' => e = .returned (.int .i64 (popc 12 s)) ∧ w = w' := by
  have hc := ones_any s hs w
  go_enter Try.func58, Try.ntmps58
  go_wp2_with (go_at_call 79; refine hc.mono ?_; rintro e w' ⟨rfl, rfl⟩)
  go_ret
  exact ⟨rfl, rfl⟩
end Go.Proofs.Ytjkegmjjhdmkiaa
